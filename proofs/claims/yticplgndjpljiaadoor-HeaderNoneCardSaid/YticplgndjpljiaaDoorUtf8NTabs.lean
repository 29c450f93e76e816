/-
  The two tables of unicode/utf8 and the algorithms' names, as a row lists them.
-/
import Derived.Below
import Derived.Carry
import Derived.ProofKit
import Derived.Deep.Slices
import Derived.Deep.Fields
import Derived.ChangeSame
import Derived.SliceStrings
import Derived.SizedLaws
import Derived.Lib.LaidU8
import Derived.Shelf.Lay
import Derived.Ground.NamesProg
import Derived.Test.YticplgndjpljiaaDoorPBack
import Derived.Test.YticplgndjpljiaaDoorEngN
import Derived.Test.YticplgndjpljiaaDoorRows
import Derived.Test.YticplgndjpljiaaDoorEngO
import Derived.Test.YticplgndjpljiaaDoorProg
namespace Go.Proofs.YticplgndjpljiaaDoor
open Go.Eng
set_option linter.unusedVariables false
set_option linter.unusedSimpArgs false
def pC (n:Eng.Node):Bool :=
 (decide (n.kind=4) && decide (n.kids=0) && qBr n.text && (n.whole == (qD0 n.text).2) && decide (n.int=(qD0 n.text).1)) ||
 (decide (n.kind=5) && decide (n.kids=0) && !n.whole && decide (n.int=0) && Lib.validD n.text.data.toList) ||
 ((decide (n.kind=1) || decide (n.kind=2) || decide (n.kind=3)) && decide (n.kids=0) && !n.whole && decide (n.int=0) && decide (n.text=⟨#[]⟩)) ||
 ((decide (n.kind=6) || decide (n.kind=7)) && decide (0≤n.kids) && !n.whole && decide (n.int=0) && decide (n.text=⟨#[]⟩))
theorem pB_C {n:Eng.Node} (hn:n.text.size≤3000000):pB n=pC n:=by
 rw [Bool.eq_iff_iff];unfold pC;simp only [Bool.or_eq_true,Bool.and_eq_true,decide_eq_true_eq,beq_iff_eq,Bool.not_eq_true'];constructor
 ·intro h;rcases pB_inv hn h with ⟨a,b,c,d,e⟩ | ⟨a,b,c,d,e⟩ | ⟨a,b,c,d,e⟩ | ⟨a,b,c,d,e⟩
  ·exact .inl (.inl (.inl ⟨⟨⟨⟨a,b⟩,c⟩,d⟩,e⟩))
  ·exact .inl (.inl (.inr ⟨⟨⟨⟨a,b⟩,c⟩,d⟩,e⟩))
  ·exact .inl (.inr ⟨⟨⟨⟨by omega,b⟩,c⟩,d⟩,e⟩)
  ·exact .inr ⟨⟨⟨⟨a,b⟩,c⟩,d⟩,e⟩
 ·rintro (((h | h) | h) | h)
  ·exact pB_num hn h.1.1.1.1 h.1.1.1.2 h.1.1.2 h.1.2 h.2
  ·exact pB_str hn h.1.1.1.1 h.1.1.1.2 h.1.1.2 h.1.2 h.2
  ·exact pB_bare (by omega) h.1.1.1.2 h.1.1.2 h.1.2 h.2
  ·exact pB_box h.1.1.1.1 h.1.1.1.2 h.1.1.2 h.1.2 h.2
def okC (obj:Bool) (n:Eng.Node):Bool:=pC n && Lib.validD n.key.data.toList && (obj || decide (n.key=(⟨#[]⟩:BA)))
def kidsC (v:List Eng.Node) (one:Nat→Option Nat) (obj:Bool):Nat→Nat→List BA→Option Nat
 | 0,a,_=>some a
 | k+1,a,names=>match one a with
  | none=>none
  | some e=>if obj=true∧qCe v a∈names then none else kidsC v one obj k e (names++[qCe v a])
def oneC (v:List Eng.Node):Nat→Bool→Nat→Option Nat
 | 0,obj,a=>match v[a]? with
  | none=>none
  | some n=>if okC obj n=true∧n.kind<6 then some (a+1) else none
 | d+1,obj,a=>match v[a]? with
  | none=>none
  | some n=>if okC obj n=true then kidsC v (oneC v d (decide (n.kind=7))) (decide (n.kind=7)) n.kids.toNat (a+1) [] else none
theorem kidsS_C {v:List Eng.Node} {one one':Nat→Option Nat} {obj:Bool} (h:∀a,one a=one' a):∀(k a:Nat) (names:List BA),qFv v one obj k a names=kidsC v one' obj k a names
 | 0,a,names=>rfl
 | k+1,a,names=>by
  unfold qFv kidsC;rw [h a];cases one' a with
  | none=>rfl
  | some e =>
   dsimp only;rw [kidsS_C h k e]
theorem oneS_C {v:List Eng.Node} (hv:OkL v):∀(d:Nat) (obj:Bool) (a:Nat),oneS v d obj a=oneC v d obj a
 | 0,obj,a=>by
  unfold oneS oneC;cases hn:v[a]? with
  | none=>rfl
  | some n =>
   dsimp only;have:okB obj n=okC obj n:=by unfold okB okC; rw [pB_C (hv.2 n (List.mem_of_getElem? hn)).text]
   rw [this]
 | d+1,obj,a=>by
  unfold oneS oneC;cases hn:v[a]? with
  | none=>rfl
  | some n =>
   dsimp only;have:okB obj n=okC obj n:=by unfold okB okC; rw [pB_C (hv.2 n (List.mem_of_getElem? hn)).text]
   rw [this,kidsS_C (fun a=>oneS_C hv d _ a)]
def prKidsC (v:List Eng.Node) (one:Nat→Option Nat) (pr:Nat→List Int) (obj:Bool):Nat→Nat→Bool→List Int
 | 0,_,_=>[]
 | k+1,a,first=>commaL first++(keyL v obj a++(pr a++prKidsC v one pr obj k ((one a).getD 0) false))
def prC (v:List Eng.Node):Nat→Nat→List Int
 | 0,a=>scalL (v.getD a (ET.dft .node))
 | d+1,a =>
  if (v.getD a (ET.dft .node)).kind<6 then scalL (v.getD a (ET.dft .node))
  else (if (v.getD a (ET.dft .node)).kind=7 then 123 else 91)::(prKidsC v (oneC v d (decide ((v.getD a (ET.dft .node)).kind=7))) (prC v d) (decide ((v.getD a (ET.dft .node)).kind=7)) (v.getD a (ET.dft .node)).kids.toNat (a+1) true++[if (v.getD a (ET.dft .node)).kind=7 then 125 else 93])
theorem prKids_C {v:List Eng.Node} {one one':Nat→Option Nat} {pr pr':Nat→List Int} {obj:Bool} (h:∀a,one a=one' a) (hp:∀a,pr a=pr' a):∀(k a:Nat) (first:Bool),prKids v one pr obj k a first=prKidsC v one' pr' obj k a first
 | 0,a,first=>rfl
 | k+1,a,first=>by
  unfold prKids prKidsC;rw [h a,hp a,prKids_C h hp k]
theorem prOne_C {v:List Eng.Node} (hv:OkL v):∀(d a:Nat),qFc v d a=prC v d a
 | 0,a=>rfl
 | d+1,a=>by
  unfold qFc prC;rw [prKids_C (fun a=>oneS_C hv d _ a) (fun a=>prOne_C hv d a)]
theorem p_Print {v:List Eng.Node} (hv:OkL v):zaq_s v=some (if oneS v 32 false 0=some v.length then (if 262144<(qFc v 32 0).length then ((⟨#[]⟩:BA),10) else (qBl (qFc v 32 0),0)) else (⟨#[]⟩,31)):=by
 have hlen:=hv.1;unfold zaq_s;rw [prog_Shaped hv,obS];by_cases hsh:oneS v 32 false 0=some v.length
 ·rw [deT hsh,Bool.not_true,cnF,if_pos hsh];have hsp:zbp_s (⟨false,[]⟩:qHy) v 0=some (⟨true,[]++qFc v 32 0⟩,(v.length:Int)):=evt_eq (N:=33) fun n hn=>by
   have:=sp_all hv 32 false 0 v.length n hsh (by omega) false [] (by show 0+_≤_; omega);rwa [show ((0:Nat):Int)=0 from rfl] at this
  rw [hsp,obS,List.nil_append];unfold zbu_s;rw [obS];dsimp only;by_cases hbig:262144<(qFc v 32 0).length
  ·rw [deT (show (262144:Int)<((qFc v 32 0).length:Int) by omega),cnT,if_pos hbig]
  ·rw [deF (show ¬(262144:Int)<((qFc v 32 0).length:Int) by omega),cnF,if_neg hbig];have hne:=prOne_some hv hsh;have hpos:0<(qFc v 32 0).length:=List.length_pos_iff.2 hne;have:zbv_s ⟨true,qFc v 32 0⟩=some (⟨true,[]⟩,qBl (qFc v 32 0)):=by
    unfold zbv_s;refine (qAa hpos _).trans ?_;exact (qAa ⟨rfl,hpos,prOne_range v 32 0⟩ _).trans rfl
   rw [this,obS]
 ·rw [deF hsh,Bool.not_false,cnT,if_neg hsh]
theorem upN_toNat (l:List Nat):(upN l).map Int.toNat=l:=by
 induction l with
 | nil=>rfl
 | cons a l ih=>exact congrArg (a :: ·) ih
theorem leaf_at {v:List Eng.Node} {a:Nat} {n:Eng.Node} (h:v[a]?=some n) (h0:n.kids=0):Tree v a (a+1):=Tree.mk h (by omega) (by
 rw [h0];exact Trees.nil _ (by have:=(List.getElem?_eq_some_iff.1 h).1; omega))
theorem header_of {t:BA} {v:List Eng.Node} {L:List Nat} {nd:Eng.Node} (hp:parseR t=(v,0,0)) (h0:v[0]?=some nd) (h7:nd.kind=7) (hpl:qC5 v nd.kids.toNat 1 L v.length):zaf_s t=some (hdrV v L):=by
 rcases parseR_cases t with ⟨l,e1,hs,hr,hne,hll,hT,hz⟩ | ⟨c,b,e1,hc⟩
 ·rw [hp] at e1;cases e1;have hok:OkL v:=⟨by omega,fun n hn=>(hz n hn).okN (by omega)⟩;have h7':(v.getD 0 (ET.dft .node)).kind=7:=by rw [nd_get h0,h7]
  obtain ⟨L',hO⟩:=obj_read hs hr hok hT h7' fun d a b h=>oneS_tree hok d true a b h
  obtain ⟨nd',g1,g2,g3⟩:=hT.node;rw [h0] at g1;cases g1;have hk:=j_kids hok.1 h0 g2 g3 hpl;have hk':=hO.kids;rw [show ((0:Nat):Int)=0 from rfl] at hk;rw [hk] at hk';have e:=congrArg (List.map Int.toNat) (Option.some.inj hk');rw [upN_toNat,upN_toNat] at e;have hlen:=hO.len;rw [e];exact p_header (.obj v L' hp hs hr hO (by omega) hz)
 ·rw [hp] at e1;cases e1;exact (hc rfl).elim
theorem header_at {t:BA} {v:List Eng.Node} {L:List Nat} {nd:Eng.Node} (hs:t.size≤262144) (hr:readR t=.ok t.size v) (h0:v[0]?=some nd) (h7:nd.kind=7) (hpl:qC5 v nd.kids.toNat 1 L v.length):zaf_s t=some (hdrV v L):=by
 refine header_of ?_ h0 h7 hpl;unfold parseR;rw [if_neg (by omega),hr];rfl
def stT:BA:=⟨#[123,34,107,105,100,34,58,34,107,34,44,34,92,117,48,48,54,49,108,103,34,58,34,69,83,51,56,52,34,44,34,116,121,112,34,58,34,74,87,84,34,125]⟩
def stV:List Eng.Node:=[⟨7,⟨#[]⟩,⟨#[]⟩,false,0,3⟩,⟨5,hKid,⟨#[107]⟩,false,0,0⟩,⟨5,hAlg,⟨#[69,83,51,56,52]⟩,false,0,0⟩,⟨5,hTyp,⟨#[74,87,84]⟩,false,0,0⟩]
def stH:qH9:=⟨11,⟨#[107]⟩,⟨#[74,87,84]⟩,true⟩
theorem st_read:readR stT=.ok stT.size stV:=by kernel_rfl
theorem st_pl:qC5 stV 3 1 [1,2,3] 4:=⟨2,[2,3],rfl,leaf_at (a:=1) rfl rfl,3,[3],rfl,leaf_at (a:=2) rfl rfl,4,[],rfl,leaf_at (a:=3) rfl rfl,rfl,rfl⟩
theorem st_hv:hdrV stV [1,2,3]=(stH,0):=by kernel_rfl
theorem st_parse:zaf_s stT=some (stH,0):=by
 rw [header_at (v:=stV) (L:=[1,2,3]) (nd:=⟨7,⟨#[]⟩,⟨#[]⟩,false,0,3⟩) (by decide) st_read rfl rfl st_pl,st_hv]
def suT:BA:=⟨#[123,34,97,108,103,34,58,34,110,111,110,101,34,44,34,107,105,100,34,58,34,107,34,125]⟩
def suV:List Eng.Node:=[⟨7,⟨#[]⟩,⟨#[]⟩,false,0,2⟩,⟨5,hAlg,⟨#[110,111,110,101]⟩,false,0,0⟩,⟨5,hKid,⟨#[107]⟩,false,0,0⟩]
theorem su_read:readR suT=.ok suT.size suV:=by kernel_rfl
theorem su_pl:qC5 suV 2 1 [1,2] 3:=⟨2,[2],rfl,leaf_at (a:=1) rfl rfl,3,[],rfl,leaf_at (a:=2) rfl rfl,rfl,rfl⟩
theorem su_val:hdrV suV [1,2]=(noH,111):=by kernel_rfl
theorem su_parse:zaf_s suT=some (noH,111):=by
 rw [header_at (v:=suV) (L:=[1,2]) (nd:=⟨7,⟨#[]⟩,⟨#[]⟩,false,0,2⟩) (by decide) su_read rfl rfl su_pl,su_val]
def svV:List Eng.Node:=[⟨7,⟨#[]⟩,⟨#[]⟩,false,0,3⟩,⟨5,hAlg,⟨#[69,83,51,56,52]⟩,false,0,0⟩,⟨5,hKid,⟨#[107]⟩,false,0,0⟩,⟨5,hTyp,⟨#[74,87,84]⟩,false,0,0⟩]
def svT:BA:=⟨#[123,34,97,108,103,34,58,34,69,83,51,56,52,34,44,34,107,105,100,34,58,34,107,34,44,34,116,121,112,34,58,34,74,87,84,34,125]⟩
theorem sv_ok:OkL svV:=⟨by decide,fun n hn=>by
 simp only [svV,List.mem_cons,List.not_mem_nil,or_false] at hn;rcases hn with rfl | rfl | rfl | rfl <;> exact ⟨by decide,by decide,by unfold qAe; decide⟩⟩
theorem sv_shape:oneS svV 32 false 0=some 4:=by
 rw [oneS_C sv_ok];kernel_rfl
theorem sv_text:qFc svV 32 0=qAp svT:=by
 rw [prOne_C sv_ok];kernel_rfl
theorem sv_print:zaq_s svV=some (svT,0):=by
 rw [p_Print sv_ok,sv_shape,if_pos (show some 4=some svV.length from rfl),sv_text,if_neg (by decide)];rfl
theorem name_11:qA4 11=some ⟨#[69,83,51,56,52]⟩:=(qAa (by omega) _).trans (by kernel_rfl)
theorem sv_header:zag_s stH=some (svT,0):=by
 have v1:qAs stH.kid=some true:=(qAa (by decide) _).trans (by kernel_rfl);have v3:qAs stH.typ=some true:=(qAa (by decide) _).trans (by kernel_rfl);unfold zag_s;rw [show stH.alg=11 from rfl,name_11,obS,deF (by decide),cnF,v1,obS,Bool.not_true,cnF,show stH.hasTyp=true from rfl,cnT,v3,obS,Bool.not_true,cnF];refine (qAa (by simp) _).trans ((qAa (by simp) _).trans ((qAa (by simp) _).trans ((qAa (show qAe 3 by unfold qAe; omega) _).trans ((qAa (by simp) _).trans ((qAa (by simp) _).trans ((qAa (by simp) _).trans ((qAa (by simp) _).trans ?_)))))));exact (congrArg (fun o=>Option.bind o fun r4:BA × Int=>some (r4.1,r4.2)) sv_print).trans rfl
theorem getD_str {l:List BA} {i:Nat} (h:i<l.length):l.getD i (ET.dft .str)=l[i]:=by simp [List.getD,h]
theorem index_loop (v:BA) (l:List BA) (hl:l.length≤9223372036854775807):∀(j i:Nat),i+j=l.length →
  (∃k:Nat,zbt_p0 v (l.length:Int) (i:Int) l=some (.inl (k:Int))∧v∈l.drop i)∨(zbt_p0 v (l.length:Int) (i:Int) l=some (.inr ())∧¬v∈l.drop i)
 | 0,i,h=>by
  refine .inr ⟨?_,?_⟩
  ·unfold zbt_p0;refine qAi ?_;unfold qDv;rw [deF (by omega),cnF]
  ·rw [List.drop_eq_nil_of_le (by omega)];exact fun h=>by cases h
 | j+1,i,h=>by
  have hi:i<l.length:=by omega
  have hd:l.drop i=l[i]::l.drop (i+1):=List.drop_eq_getElem_cons hi;by_cases he:v=l[i]
  ·refine .inl ⟨i,?_,?_⟩
   ·unfold zbt_p0;refine qAi ?_;unfold qDv;rw [deT (by omega),cnT,qAa (by omega),qAa (by omega),Int.toNat_natCast,getD_str hi,deT he,cnT]
   ·rw [hd,he]; exact List.mem_cons_self
  ·have hst:qDv v (l.length:Int) (i:Int) l=some (.inl ((i+1:Nat):Int)):=by
    unfold qDv;rw [deT (by omega),cnT,qAa (by omega),qAa (by omega),Int.toNat_natCast,getD_str hi,deF he,cnF];exact qAa (by unfold qAe; omega) _
   have hm:v∈l.drop i↔v∈l.drop (i+1):=by rw [hd,List.mem_cons]; simp [he]
   have ih:=index_loop v l hl j (i+1) (by omega);rw [hm];unfold zbt_p0 at ih ⊢;rw [qAq hst];exact ih
theorem contains_is (l:List BA) (hl:l.length≤9223372036854775807) (v:BA):zbs_s l v=some (decide (v∈l)):=by
 have h:=index_loop v l hl l.length 0 (by omega);rw [List.drop_zero,show ((0:Nat):Int)=0 from rfl] at h;unfold zbs_s zbt_s;rcases h with ⟨k,h,hm⟩ | ⟨h,hm⟩
 ·rw [h,obS,Sum.elim_inl,obS,deT (by omega),deT hm]
 ·rw [h,obS,Sum.elim_inr,obS,deF (by omega),deF hm]
def qFq (p:qIf) (h:qH9):Int:=if algS h.alg=⟨#[]⟩∨¬algS h.alg∈p.algs then 112 else if p.hasTyp=true∧¬(h.hasTyp=true∧h.typ=p.typ) then 113 else 0
theorem allow_is (p:qIf) (h:qH9) (ha:qAe h.alg) (hl:p.algs.length≤9223372036854775807):zae_s p h=some (qFq p h):=by
 have n1:qA4 h.alg=some (algS h.alg):=qAa (by unfold qAe at ha; omega) _;unfold zae_s qFq;rw [n1,obS,contains_is p.algs hl,obS];by_cases h1:algS h.alg=(⟨#[]⟩:BA)
 ·rw [deT h1,cnT,if_pos (.inl h1)]
 rw [deF h1,cnF];by_cases h2:algS h.alg∈p.algs
 ·rw [deT h2,Bool.not_true,cnF,if_neg (fun h=>h.elim h1 (fun g=>g h2))];cases p.hasTyp <;> cases h.hasTyp <;> by_cases h3:h.typ=p.typ <;> simp [h3]
 ·rw [deF h2,Bool.not_false,cnT,if_pos (.inr h2)]
theorem started_is:zbr_s=some true:=by
 have e1:=st_parse;have e2:=sv_header;have e3:=su_parse;have a1:=allow_is ⟨[(⟨#[110,111,110,101]⟩:BA),(⟨#[69,83,51,56,52]⟩:BA)],(⟨#[]⟩:BA),false,(⟨#[]⟩:BA),false,(⟨#[74,87,84]⟩:BA),true,(0:Int),[]⟩ stH (by unfold qAe; decide) (by decide);have a2:=allow_is ⟨[],(⟨#[]⟩:BA),false,(⟨#[]⟩:BA),false,(⟨#[]⟩:BA),false,(0:Int),[]⟩ stH (by unfold qAe; decide) (by decide);have b1:qFq ⟨[(⟨#[110,111,110,101]⟩:BA),(⟨#[69,83,51,56,52]⟩:BA)],(⟨#[]⟩:BA),false,(⟨#[]⟩:BA),false,(⟨#[74,87,84]⟩:BA),true,(0:Int),[]⟩ stH=0:=by decide +kernel
 have b2:qFq ⟨[],(⟨#[]⟩:BA),false,(⟨#[]⟩:BA),false,(⟨#[]⟩:BA),false,(0:Int),[]⟩ stH=112:=by decide +kernel
 rw [b1] at a1;rw [b2] at a2;unfold stT at e1;unfold suT at e3;unfold zbr_s;rw [e1,obS,e2,obS,e3,obS,a1,obS,a2];rfl
theorem algFrom_is (s:BA):∀j k:Nat,qC6 s j k≠0→qE1 (qC6 s j k)=s∧k≤qC6 s j k∧qC6 s j k<k+j
 | 0,k,h=>(h rfl).elim
 | j+1,k,h=>by
  unfold qC6 at h ⊢;by_cases hk:qE1 k=s
  ·rw [if_pos hk];exact ⟨hk,Nat.le_refl _,by omega⟩
  ·rw [if_neg hk] at h ⊢;have ih:=algFrom_is s j (k+1) h;exact ⟨ih.1,by omega,by omega⟩
theorem algS_of {s:BA} (h:qFi s≠0):algS (qFi s:Int)=s∧qFi s<13∧1≤qFi s:=by
 have h1:=algFrom_is s 12 1 h;have h2:qFi s=qC6 s 12 1:=rfl;rw [←h2] at h1;refine ⟨?_,by omega,by omega⟩;unfold algS;rw [if_neg (by omega),Int.toNat_natCast];exact h1.1
theorem hdr_zero {l:List Eng.Node} {L:List Nat} (h0:(hdrV l L).2=0):L.all (qGm l)=true∧(∃a k,qA7 l hAlg L=some a∧qA7 l hKid L=some k∧qFi (txtF l (some a))≠0∧(hdrV l L).1=⟨qFi (txtF l (some a)),txtF l (some k),txtF l (qA7 l hTyp L),(qA7 l hTyp L).isSome⟩):=by
 unfold hdrV at h0 ⊢;by_cases hg:L.all (qGm l)=true∧(qA7 l hAlg L).isSome=true∧(qA7 l hKid L).isSome=true
 ·rw [if_pos hg] at h0 ⊢;by_cases hz:qFi (txtF l (qA7 l hAlg L))=0
  ·rw [if_pos hz] at h0; cases h0
  ·rw [if_neg hz];obtain ⟨g1,g2,g3⟩:=hg;refine ⟨g1,?_⟩;cases hA:qA7 l hAlg L with
   | none=>rw [hA] at g2; cases g2
   | some a =>
    cases hK:qA7 l hKid L with
    | none=>rw [hK] at g3; cases g3
    | some k =>
     rw [hA] at hz;exact ⟨a,k,rfl,rfl,hz,rfl⟩
 ·rw [if_neg hg] at h0; cases h0
theorem none_loop (a:Int) (ha:qAe a) (l:List BA) (hl:l.length≤9223372036854775807):∀(j i:Nat) (b:Bool),i+j=l.length→zbq_p0 b (i:Int) l a=some (b || decide (algS a∈l.drop i))
 | 0,i,b,h=>by
  rw [List.drop_eq_nil_of_le (by omega)];unfold zbq_p0;have hb:(b || decide (algS a∈([]:List BA)))=b:=by simp
  rw [hb];refine qAi ?_;unfold qEu;rw [deF (by dsimp only; omega),cnF]
 | j+1,i,b,h=>by
  have hi:i<l.length:=by omega
  have n1:qA4 a=some (algS a):=qAa (by unfold qAe at ha; omega) _;have hd:l.drop i=l[i]::l.drop (i+1):=List.drop_eq_getElem_cons hi;have hg:qAe ((i:Int)+1):=by unfold qAe; omega
  have hc:((i+1:Nat):Int)=(i:Int)+1:=by omega
  by_cases he:l[i]=algS a
  ·have ih:=none_loop a ha l hl j (i+1) true (by omega);have hm:algS a∈l.drop i:=by rw [hd,he]; exact List.mem_cons_self
   rw [deT hm,Bool.or_true];rw [Bool.true_or] at ih;unfold zbq_p0 at ih ⊢;rw [←ih];refine qAq ?_;unfold qEu;dsimp only;rw [deT (by omega),cnT,qAa (by omega),qAa (by omega),n1,obS,Int.toNat_natCast,getD_str hi,deT he,cnT,qAa hg,hc]
  ·have ih:=none_loop a ha l hl j (i+1) b (by omega);have hm:algS a∈l.drop i↔algS a∈l.drop (i+1):=by
    rw [hd,List.mem_cons];exact ⟨fun h=>h.elim (fun e=>(he e.symm).elim) id,.inr⟩
   rw [show decide (algS a∈l.drop i)=decide (algS a∈l.drop (i+1)) from decide_eq_decide.2 hm];unfold zbq_p0 at ih ⊢;rw [←ih];refine qAq ?_;unfold qEu;dsimp only;rw [deT (by omega),cnT,qAa (by omega),qAa (by omega),n1,obS,Int.toNat_natCast,getD_str hi,deF he,cnF,qAa hg,hc]
theorem headerNone_plain (p:qIf) (t:BA) (h:qH9) (more:BA) (ha:qAe h.alg) (hl:p.algs.length*16≤140737488351232):zbq_s p t h more=some true:=by
 have n1:qA4 h.alg=some (algS h.alg):=qAa (by unfold qAe at ha; omega) _;have a1:=allow_is p h ha (by omega);have hml:([more]++p.algs).length=1+p.algs.length:=by simp; omega
 have a2:=allow_is (⟨([more]++p.algs),p.iss,p.hasIss,p.aud,p.hasAud,p.typ,p.hasTyp,p.leeway,p.need⟩:qIf) h ha (by show ([more]++p.algs).length≤_; omega);have lo:=none_loop h.alg ha p.algs (by omega) p.algs.length 0 false (by omega);rw [List.drop_zero,Bool.false_or,show ((0:Nat):Int)=0 from rfl] at lo;unfold zbq_s;rw [started_is,obS,Bool.not_true,cnF,a1,obS,lo,obS,n1,obS];have k1:(((decide (algS h.alg=(⟨#[]⟩:BA))) || (!decide (algS h.alg∈p.algs))) == (decide (qFq p h=(112:Int))))=true:=by
  unfold qFq;by_cases h1:algS h.alg=⟨#[]⟩
  ·simp [h1]
  ·by_cases h2:algS h.alg∈p.algs
   ·rw [deF h1,deT h2,if_neg (fun h=>h.elim h1 (fun g=>g h2))];split <;> rfl
   ·rw [deF h1,deF h2,if_pos (.inr h2)];rfl
 rw [k1,Bool.not_true,cnF];refine (qAa (by simp) _).trans ((qAa (by simp only [List.length_singleton]; omega) _).trans ?_);rw [a2,obS];have k2:((!decide (qFq p h=(112:Int))) && (!decide (qFq (⟨([more]++p.algs),p.iss,p.hasIss,p.aud,p.hasAud,p.typ,p.hasTyp,p.leeway,p.need⟩:qIf) h=qFq p h)))=false:=by
  by_cases h0:qFq p h=112
  ·rw [deT h0]; rfl
  ·have h1:¬(algS h.alg=⟨#[]⟩∨¬algS h.alg∈p.algs):=fun hh=>h0 (by unfold qFq; rw [if_pos hh])
   have h2:¬(algS h.alg=⟨#[]⟩∨¬algS h.alg∈([more]++p.algs)):=fun hh=>h1 (hh.imp id fun g hm=>g (List.mem_append_right _ hm))
   have:qFq (⟨([more]++p.algs),p.iss,p.hasIss,p.aud,p.hasAud,p.typ,p.hasTyp,p.leeway,p.need⟩:qIf) h=qFq p h:=by
    unfold qFq;rw [if_neg h1,if_neg h2]
   rw [deT this,Bool.not_true,Bool.and_false]
 rw [k2,cnF];obtain ⟨x,hx⟩:=hread t;rw [p_header hx,obS];have bad:∀y:qH9 × Int,qAe y.1.alg→y.2≠0→((qA4 y.1.alg).bind fun r14 =>
    bif (((decide ((1:Int)≤y.1.alg)) && (decide (y.1.alg≤(12:Int)))) && (!(!decide (y.2=(0:Int))))) then (
     (zae_s (⟨[r14],(⟨#[]⟩:BA),false,(⟨#[]⟩:BA),false,(⟨#[]⟩:BA),false,(0:Int),[]⟩:qIf) y.1).bind fun r15 =>
     some ((!decide (y.2=(0:Int))) || (((decide ((1:Int)≤y.1.alg)) && (decide (y.1.alg≤(12:Int)))) && (decide (r15=(0:Int))))))
    else (
     some ((!decide (y.2=(0:Int))) || (((decide ((1:Int)≤y.1.alg)) && (decide (y.1.alg≤(12:Int)))) && false))))=some true:=fun y hy hc=>by
  have n2:qA4 y.1.alg=some (algS y.1.alg):=qAa (by unfold qAe at hy; omega) _;rw [n2,obS,deF hc,Bool.not_false,Bool.not_true,Bool.and_false,cnF,Bool.true_or]
 have z0:qAe noH.alg:=by show qAe 0; unfold qAe; omega
 cases hx with
 | bad c b h1 hc=>exact bad _ z0 hc
 | no l h1 hok hT hz hlt h7=>exact bad _ z0 (by decide)
 | obj l L h1 hs h2 hO hL hz =>
  by_cases h0:(hdrV l L).2=0
  ·obtain ⟨_,a,k,_,_,hne,hv⟩:=hdr_zero h0;obtain ⟨q1,q2,q3⟩:=algS_of hne;have hal:(hdrV l L).1.alg=qFi (txtF l (some a)):=by rw [hv]
   have hin:qAe (hdrV l L).1.alg:=by rw [hal]; unfold qAe; omega
   have hsn:algS (hdrV l L).1.alg≠⟨#[]⟩:=fun e=>by
    rw [hal,q1] at e;exact hne (by rw [e]; decide)
   have n2:qA4 (hdrV l L).1.alg=some (algS (hdrV l L).1.alg):=qAa (by unfold qAe at hin; omega) _;have a3:=allow_is (⟨[algS (hdrV l L).1.alg],(⟨#[]⟩:BA),false,(⟨#[]⟩:BA),false,(⟨#[]⟩:BA),false,(0:Int),[]⟩:qIf) (hdrV l L).1 hin (by show 1≤_; omega);have e3:qFq (⟨[algS (hdrV l L).1.alg],(⟨#[]⟩:BA),false,(⟨#[]⟩:BA),false,(⟨#[]⟩:BA),false,(0:Int),[]⟩:qIf) (hdrV l L).1=0:=by
    unfold qFq;rw [if_neg (fun h=>h.elim hsn (fun g=>g (List.mem_singleton.2 rfl))),if_neg (fun h=>by cases h.1)]
   rw [e3] at a3;rw [n2,obS,deT (show (1:Int)≤(hdrV l L).1.alg by rw [hal]; omega),deT (show (hdrV l L).1.alg≤12 by rw [hal]; omega),deT h0];simp only [Bool.not_true,Bool.not_false,Bool.and_self,cnT];rw [a3];rfl
  ·refine bad _ ?_ h0;unfold hdrV;split
   ·split
    ·exact z0
    ·rename_i g1 g2;obtain ⟨q1,q2,q3⟩:=algS_of g2;show qAe ((qFi _:Nat):Int);unfold qAe;omega
   ·exact z0
end Go.Proofs.YticplgndjpljiaaDoor
namespace Go.Eng
open Go.RowKit
set_option linter.unusedVariables false
theorem reach_of {x:Nat} (h:decide (x≤reachBytes)=true):x≤140737488351232:=by
 have h2:=of_decide_eq_true h;exact h2
theorem size_of_weights {H:Type} {P:Program} {T:TypeId} {s:BA} (h:∀x∈(DataW.lit (.string s.data.toList):DataW H).weights P T,x≤140737488351232):s.size≤140737488351232:=by
 have h2:=h s.data.toList.length (by simp only [DataW.weights]; exact List.mem_singleton.2 rfl);rw [Array.length_toList] at h2;exact h2
theorem i64_of_wf {a:Int} (h:(Lit.int .i64 a).wf=true) : -9223372036854775808≤a∧a≤9223372036854775807:=by
 simp [Lit.wf,IntKind.min,IntKind.max,IntKind.signed,IntKind.bits] at h;exact h
structure LowB (w w':World):Prop where
 os:w'.os=w.os
 output:w'.output=w.output
 size:w.heap.size≤w'.heap.size
 block:∀k,k<w.heap.size→w'.heap[k]?=w.heap[k]?
theorem lowB_of_stays {w w':World} (h:Stays (fun _=>False) w w'):LowB w w':=⟨h.os,h.output,h.size,fun k hk=>h.block k hk id⟩
theorem LowB.frame {W w':World} (h:LowB W w') (may:MemPlace→Prop):W.keptBut w' may:=by
 refine ⟨h.os,h.output,fun i hi=>?_⟩;rw [h.block i hi];split <;> simp_all
theorem LowB.same {W w':World} (h:LowB W w') {p:MemPlace} (hp:p.block<W.heap.size):W.sameAt w' p:=by
 cases p with
 | cell b o=>exact World.cell?_of_block (w:=W) (h.block b hp)
 | map b=>exact h.block b hp
theorem LowB.trod {H:Type} {enc:TypeId × Value→H} {P:Program} {t:TypeId} (hl:laidOutB P=true) (hr:P.readableRec t=true) (hrow:t<P.types.size) {W W':World} {v:Value} {d:DataW H} {ps:List MemPlace}
  (h:DataW.Trod enc P W 0 (fun _=>true) true t v d ps) (hb:LowB W W') (hlt:∀x∈ps,x.block<W.heap.size) :
  DataW.Trod enc P W' 0 (fun b=>decide (b<W.heap.size)) true t v d ps :=
 WideElems.Trod_stays hl hr hrow h (fun x hx=>hb.same (hlt x hx)) (fun x hx=>by simpa using hlt x hx)
end Go.Eng
namespace Go.Proofs.YticplgndjpljiaaDoor
open Go.RowKit Go.ChangeShapes Go.WideShapes Go.Deep Go.Eng
set_option linter.unusedVariables false
set_option maxRecDepth 100000
theorem callV {P:Program} {f:Nat} {C:CS} (h:qAm P f C) {args:List SV} {hp hp':List SB} {v:SV} (hc:C args hp (SV × List SB) (fun v hp'=>some (v,hp'))=some (v,hp')) (ha:∀x∈args,x.lt hp.length) (hv:v.shut=true) (w:World) {ρ:Nat→Value} (hs:HpSat noX w w ρ hp) (vs:List Value) (hvs:args.map (SV.den ρ)=vs) :
  Calls P f vs.toArray w fun e w'=>e=.returned (v.den fun _=>undef)∧LowB w w':=by
 have:=h.2 args hp v hp' hc ha noX w ρ hs;rw [hvs] at this;exact this.mono fun e w' ⟨ρ',_,_,a,_,_,b⟩=>⟨by rw [a,SV.shut_den hv ρ' fun _=>undef],lowB_of_stays b⟩
def ViewsOK (w:World):List Value→List SB→Prop
 | [],[]=>True
 | v::vs,.view t l::hp=>qEc noX w w t v l∧ViewsOK w vs hp
 | _,_=>False
theorem viewsOK_at {w:World}:∀ {vs:List Value} {hp:List SB},ViewsOK w vs hp→∀(i:Nat) (sb:SB),hp[i]?=some sb→∃t l,sb=.view t l∧qEc noX w w t (vs.getD i undef) l
 | [],[],_,i,sb,h=>by simp at h
 | v::vs,.view t l::hp,h,i,sb,hi=>by
  cases i with
  | zero =>
   simp at hi;exact ⟨t,l,hi.symm,h.1⟩
  | succ i =>
   obtain ⟨t',l',h1,h2⟩:=viewsOK_at h.2 i sb (by simpa using hi);exact ⟨t',l',h1,by simpa using h2⟩
 | [],_::_,h,_,_,_=>h.elim
 | _::_,[],h,_,_,_=>h.elim
 | _::_,.cells ..::_,h,_,_,_=>h.elim
 | _::_,.row ..::_,h,_,_,_=>h.elim
 | _::_,.part ..::_,h,_,_,_=>h.elim
 | _::_,.dead::_,h,_,_,_=>h.elim
theorem views_sat {w:World} {vs:List Value} {hp:List SB} (h:ViewsOK w vs hp) (ht:tabOK noX w):HpSat noX w w (fun i=>vs.getD i undef) hp:=by
 have key:=viewsOK_at h;refine ⟨fun i hi=>?_,fun i sb hi=>?_,fun i sb hi=>?_,fun i j sb sb' b _ hi hj e1 _ _ _=>?_,ht⟩
 ·obtain ⟨t,l,_,a,cap,hv,_⟩:=key i hp[i] (by simp [hi]);show qEm (vs.getD i undef);rw [hv];trivial
 ·obtain ⟨t,l,rfl,hv⟩:=key i sb hi;exact hv
 ·obtain ⟨t,l,rfl,hv⟩:=key i sb hi;trivial
 ·obtain ⟨t,l,rfl,hv⟩:=key i sb hi;cases e1
section
variable {H:Type} {enc:TypeId × Value→H} {W:World} {sp:Nat→Bool} {held:Bool} {r:Reach} {b0:Nat}
theorem bulkAll_mem:∀ {l:List (DataW H)} {d:DataW H},d∈l→Rows.uptoBulk d≤Rows.uptoBulkAll l
 | x::l,d,h=>by
  simp only [Rows.uptoBulkAll];rcases List.mem_cons.1 h with rfl | h
  ·omega
  ·have:=bulkAll_mem h;omega
theorem bulk_pos (d:DataW H):1≤Rows.uptoBulk d:=by
 cases d with
 | lit l=>cases l <;> simp [Rows.uptoBulk]
 | _=>all_goals simp [Rows.uptoBulk]
theorem bulkAll_len:∀(l:List (DataW H)),l.length≤Rows.uptoBulkAll l
 | []=>by simp
 | x::l=>by
  have h1:=bulk_pos x;have h2:=bulkAll_len l;simp only [Rows.uptoBulkAll,List.length_cons];omega
theorem view_mk {t:ET} {a:Addr} {len cap:Nat} {N:Nat→t.T} (hl:len≤cap) (hb:0<len→a.block<W.heap.size)
  (hc:∀i,i<len→∀j u,(t.enc (N i))[j]?=some u→W.cell? (a.add (i*t.sz+j))=some u):qEc noX W W t (.slice (some a) len cap) ((List.range len).map N):=by
 refine ⟨some a,cap,by simp,by simpa using hl,fun p u hu=>⟨a,rfl,?_⟩⟩;have hlt:p<((List.range len).map N).length*t.sz:=by
  have:=(List.getElem?_eq_some_iff.1 hu).1;rwa [qBa t.enc_len] at this
 simp only [List.length_map,List.length_range] at hlt;have hsz:=t.sz_pos;have hi:p / t.sz<len:=(Nat.div_lt_iff_lt_mul hsz).2 hlt;have hj:p % t.sz<t.sz:=Nat.mod_lt _ hsz;have he:(t.enc (((List.range len).map N).getD (p / t.sz) t.dft))[p % t.sz]?=some (t.enc (N (p / t.sz)))[p % t.sz]!:=by
  have e1:((List.range len).map N).getD (p / t.sz) t.dft=N (p / t.sz):=by simp [List.getD,hi]
  rw [e1,List.getElem?_eq_getElem (by rw [t.enc_len]; exact hj),List.getElem!_eq_getElem?_getD,List.getElem?_eq_getElem (by rw [t.enc_len]; exact hj)];rfl
 have h1:=qGk t.enc_len t.dft ((List.range len).map N) (p / t.sz) (p % t.sz) _ (by simpa using hi) he;have e2:p / t.sz*t.sz+p % t.sz=p:=Nat.div_add_mod' p t.sz;rw [e2,hu] at h1;have h2:=hc (p / t.sz) hi (p % t.sz) u (by
  have e1:((List.range len).map N).getD (p / t.sz) t.dft=N (p / t.sz):=by simp [List.getD,hi]
  rw [e1] at he;rw [he,←Option.some.inj h1])
 rw [e2] at h2;exact ⟨h2,.inl ⟨hb (Nat.lt_of_le_of_lt (Nat.zero_le _) hi),id⟩⟩
theorem view_nil {t:ET}:qEc noX W W t (.slice none 0 0) []:=⟨none,0,rfl,Nat.le_refl _,fun j u h=>by simp at h⟩
theorem choose_ltV {α:Type} [Inhabited α] {n:Nat} {P:Nat→α→Prop} (h:∀i,i<n→∃x,P i x):∃f:Nat→α,∀i,i<n→P i (f i):=by
 classical
 refine ⟨fun i=>if hi:i<n then (h i hi).choose else default,fun i hi=>?_⟩;simp only [hi,dif_pos];exact (h i hi).choose_spec
structure NodeB (B:Nat) (n:Eng.Node):Prop where
 kind:qAe n.kind
 key:n.key.size≤B
 text:n.text.size≤B
 int:qAe n.int
 kids:qAe n.kids
instance:Inhabited Eng.Node:=⟨⟨0,.empty,.empty,false,0,0⟩⟩
theorem openV_strs_cells {fuel B:Nat} {c:Value} {y:DataW H × List MemPlace} (h:DataW.trod enc Tryd.prog W 0 sp held fuel 29 [c]=some y) (hz:Rows.uptoBulk y.1≤B) :
  ∃(v:Value) (xs:List BA),[c]=[v]∧qEc noX W W .str v xs∧(∀s∈xs,s.size≤B)∧xs.length≤B∧xs.length≤9223372036854775807:=by
 have hlt:=DataW.trod_lt _ _ _ _ h;rcases open_slice Tryd.underlying29 h with ⟨hcs,_⟩ | ⟨a,len,cap,m,fu,D,Pl,hcs,_,hl,hm,hmm,rfl,hel⟩
 ·exact ⟨_,[],hcs,view_nil,by simp,by simp,by simp⟩
 ·have hlm:len≤m:=by rw [hmm]; split <;> omega
  rw [show Tryd.prog.cellsOf 9=1 by kernel_rfl] at hel;simp only [Rows.uptoBulk] at hz;have each:∀i,i<len→∃x:BA,x.size≤B∧∀j u,(ET.str.enc x)[j]?=some u→W.cell? (a.add (i*1+j))=some u:=by
   intro i hi;obtain ⟨cs',hcells,htr⟩:=hel i (by omega);obtain ⟨x,e,hd,_⟩:=DataW.trod_string Tryd.underlying9 htr;have hd1:D i=.lit (.string x.data.toList):=congrArg Prod.fst hd;subst e;obtain ⟨_,hcl,hat⟩:=World.cells?_some hcells;refine ⟨x,?_,fun j u hj=>?_⟩
   ·have h1:=bulkAll_mem (H:=H) (l:=(List.range len).map D) (List.mem_map.2 ⟨i,List.mem_range.2 hi,rfl⟩);rw [hd1] at h1;simp only [Rows.uptoBulk,Array.length_toList] at h1;have:x.size=x.data.size:=rfl;omega
   ·have hj1:j<1:=by
     have:=(List.getElem?_eq_some_iff.1 hj).1;simpa [ET.enc] using this
    have:=hat j hj1;rw [Go.Deep.add_add] at this;rw [this];exact hj
  obtain ⟨N,hN⟩:=choose_ltV (α:=BA) each;refine ⟨_,(List.range len).map N,hcs,view_mk (t:=.str) hl (fun h0=>?_) (fun i hi=>(hN i hi).2),fun s hs=>?_,?_,?_⟩
  ·exact hlt (.cell a.block a.off) (by
    simp only [MemPlace.row,List.mem_append,List.mem_map,List.mem_range];exact .inl ⟨0,by rw [show Tryd.prog.cellsOf 9=1 by kernel_rfl]; omega,by simp⟩)
  ·obtain ⟨i,hi,rfl⟩:=List.mem_map.1 hs;exact (hN i (List.mem_range.1 hi)).1
  ·have h1:=bulkAll_len (H:=H) ((List.range len).map D);simp only [List.length_map,List.length_range] at h1 ⊢;omega
  ·unfold maxLen at hm;simp only [List.length_map,List.length_range];omega
end
end Go.Proofs.YticplgndjpljiaaDoor
namespace Go.Proofs.YticplgndjpljiaaDoor
open Go.RowKit Go.ChangeShapes Go.WideShapes Go.Deep Go.Eng
set_option linter.unusedVariables false
set_option maxRecDepth 100000
section
variable {H:Type} {enc:TypeId × Value→H} {W:World} {sp:Nat→Bool} {held:Bool} {r:Reach} {b0:Nat}
theorem bulk_str {B:Nat} {s:BA} (h:Rows.uptoBulk (H:=H) (.lit (.string s.data.toList))≤B):s.size≤B:=by
 simp only [Rows.uptoBulk,Array.length_toList] at h;have:s.size=s.data.size:=rfl;omega
theorem openVS_policy {B:Nat} {v:Value} {d:DataW H} {p:List MemPlace} (hv:Value.okWide Tryd.prog W r b0 31 v) (h:DataW.Trod enc Tryd.prog W 0 sp held 31 v d p) (hz:Rows.uptoBulk d≤B) :
  ∃(algsV:Value) (algs:List BA) (iss:BA) (hasIss:Bool) (aud:BA) (hasAud:Bool) (typ:BA) (hasTyp:Bool) (leeway:Int) (needV:Value) (need:List BA),v=.agg #[algsV,.string iss,.bool hasIss,.string aud,.bool hasAud,.string typ,.bool hasTyp,.int .i64 leeway,needV] ∧
   (qEc noX W W .str algsV algs∧(∀s∈algs,s.size≤B)∧algs.length≤B∧algs.length≤9223372036854775807)∧iss.size≤B∧aud.size≤B∧typ.size≤B∧(-9223372036854775808≤leeway∧leeway≤9223372036854775807)∧(qEc noX W W .str needV need∧(∀s∈need,s.size≤B)∧need.length≤B∧need.length≤9223372036854775807):=by
 obtain ⟨cs,rfl,hsz⟩:=okWide_struct Tryd.underlying31 hv;obtain ⟨l⟩:=cs;have hC:Tryd.prog.cellsOf 31=9:=by kernel_rfl
 match l,hsz.trans hC with
 | [c0,c1,c2,c3,c4,c5,c6,c7,c8],_ =>
  obtain ⟨fuel,hf⟩:=h;obtain ⟨xs,n,_,hx,_,hlen,hg⟩:=DataW.trod_struct Tryd.underlying31 hf;match xs,hlen with
  | [y0,y1,y2,y3,y4,y5,y6,y7,y8],_ =>
   simp only [Prod.mk.injEq,List.map_cons,List.map_nil] at hx;obtain ⟨rfl,_⟩:=hx;simp only [Rows.uptoBulk,Rows.uptoBulkAll] at hz;have g0:DataW.trod enc Tryd.prog W 0 sp held n 29 [c0]=some y0:=by simpa [show Tryd.prog.cellsOf 29=1 by kernel_rfl,Value.cells] using hg 0 _ rfl
   have z0:Rows.uptoBulk y0.1≤B:=by omega
   have g1:DataW.trod enc Tryd.prog W 0 sp held n 9 [c1]=some y1:=by simpa [show Tryd.prog.cellsOf 9=1 by kernel_rfl,Value.cells] using hg 1 _ rfl
   have z1:Rows.uptoBulk y1.1≤B:=by omega
   have g2:DataW.trod enc Tryd.prog W 0 sp held n 4 [c2]=some y2:=by simpa [show Tryd.prog.cellsOf 4=1 by kernel_rfl,Value.cells] using hg 2 _ rfl
   have z2:Rows.uptoBulk y2.1≤B:=by omega
   have g3:DataW.trod enc Tryd.prog W 0 sp held n 9 [c3]=some y3:=by simpa [show Tryd.prog.cellsOf 9=1 by kernel_rfl,Value.cells] using hg 3 _ rfl
   have z3:Rows.uptoBulk y3.1≤B:=by omega
   have g4:DataW.trod enc Tryd.prog W 0 sp held n 4 [c4]=some y4:=by simpa [show Tryd.prog.cellsOf 4=1 by kernel_rfl,Value.cells] using hg 4 _ rfl
   have z4:Rows.uptoBulk y4.1≤B:=by omega
   have g5:DataW.trod enc Tryd.prog W 0 sp held n 9 [c5]=some y5:=by simpa [show Tryd.prog.cellsOf 9=1 by kernel_rfl,Value.cells] using hg 5 _ rfl
   have z5:Rows.uptoBulk y5.1≤B:=by omega
   have g6:DataW.trod enc Tryd.prog W 0 sp held n 4 [c6]=some y6:=by simpa [show Tryd.prog.cellsOf 4=1 by kernel_rfl,Value.cells] using hg 6 _ rfl
   have z6:Rows.uptoBulk y6.1≤B:=by omega
   have g7:DataW.trod enc Tryd.prog W 0 sp held n 2 [c7]=some y7:=by simpa [show Tryd.prog.cellsOf 2=1 by kernel_rfl,Value.cells] using hg 7 _ rfl
   have z7:Rows.uptoBulk y7.1≤B:=by omega
   have g8:DataW.trod enc Tryd.prog W 0 sp held n 29 [c8]=some y8:=by simpa [show Tryd.prog.cellsOf 29=1 by kernel_rfl,Value.cells] using hg 8 _ rfl
   have z8:Rows.uptoBulk y8.1≤B:=by omega
   clear hz hg;obtain ⟨algsV,algs,e0,i0⟩:=openV_strs_cells g0 z0;simp only [List.cons.injEq,and_true] at e0;subst e0;obtain ⟨iss,e1,rfl,i1⟩:=DataW.trod_string Tryd.underlying9 g1;simp only [List.cons.injEq,and_true] at e1;subst e1;obtain ⟨hasIss,e2,rfl⟩:=DataW.trod_bool Tryd.underlying4 g2;simp only [List.cons.injEq,and_true] at e2;subst e2;obtain ⟨aud,e3,rfl,i3⟩:=DataW.trod_string Tryd.underlying9 g3;simp only [List.cons.injEq,and_true] at e3;subst e3;obtain ⟨hasAud,e4,rfl⟩:=DataW.trod_bool Tryd.underlying4 g4;simp only [List.cons.injEq,and_true] at e4;subst e4;obtain ⟨typ,e5,rfl,i5⟩:=DataW.trod_string Tryd.underlying9 g5;simp only [List.cons.injEq,and_true] at e5;subst e5;obtain ⟨hasTyp,e6,rfl⟩:=DataW.trod_bool Tryd.underlying4 g6;simp only [List.cons.injEq,and_true] at e6;subst e6;obtain ⟨leeway,e7,rfl,i7⟩:=DataW.trod_int Tryd.underlying2 g7;simp only [List.cons.injEq,and_true] at e7;subst e7;obtain ⟨needV,need,e8,i8⟩:=openV_strs_cells g8 z8;simp only [List.cons.injEq,and_true] at e8;subst e8;exact ⟨_,algs,iss,hasIss,aud,hasAud,typ,hasTyp,leeway,_,need,rfl,i0,bulk_str z1,bulk_str z3,bulk_str z5,Go.Eng.i64_of_wf i7,i8⟩
theorem openVS_header {B:Nat} {v:Value} {d:DataW H} {p:List MemPlace} (hv:Value.okWide Tryd.prog W r b0 24 v) (h:DataW.Trod enc Tryd.prog W 0 sp held 24 v d p) (hz:Rows.uptoBulk d≤B) :
  ∃(alg:Int) (kid:BA) (typ:BA) (hasTyp:Bool),v=.agg #[.int .i64 alg,.string kid,.string typ,.bool hasTyp] ∧
   (-9223372036854775808≤alg∧alg≤9223372036854775807)∧kid.size≤B∧typ.size≤B:=by
 obtain ⟨cs,rfl,hsz⟩:=okWide_struct Tryd.underlying24 hv;obtain ⟨l⟩:=cs;have hC:Tryd.prog.cellsOf 24=4:=by kernel_rfl
 match l,hsz.trans hC with
 | [c0,c1,c2,c3],_ =>
  obtain ⟨fuel,hf⟩:=h;obtain ⟨xs,n,_,hx,_,hlen,hg⟩:=DataW.trod_struct Tryd.underlying24 hf;match xs,hlen with
  | [y0,y1,y2,y3],_ =>
   simp only [Prod.mk.injEq,List.map_cons,List.map_nil] at hx;obtain ⟨rfl,_⟩:=hx;simp only [Rows.uptoBulk,Rows.uptoBulkAll] at hz;have g0:DataW.trod enc Tryd.prog W 0 sp held n 22 [c0]=some y0:=by simpa [show Tryd.prog.cellsOf 22=1 by kernel_rfl,Value.cells] using hg 0 _ rfl
   have z0:Rows.uptoBulk y0.1≤B:=by omega
   have g1:DataW.trod enc Tryd.prog W 0 sp held n 9 [c1]=some y1:=by simpa [show Tryd.prog.cellsOf 9=1 by kernel_rfl,Value.cells] using hg 1 _ rfl
   have z1:Rows.uptoBulk y1.1≤B:=by omega
   have g2:DataW.trod enc Tryd.prog W 0 sp held n 9 [c2]=some y2:=by simpa [show Tryd.prog.cellsOf 9=1 by kernel_rfl,Value.cells] using hg 2 _ rfl
   have z2:Rows.uptoBulk y2.1≤B:=by omega
   have g3:DataW.trod enc Tryd.prog W 0 sp held n 4 [c3]=some y3:=by simpa [show Tryd.prog.cellsOf 4=1 by kernel_rfl,Value.cells] using hg 3 _ rfl
   have z3:Rows.uptoBulk y3.1≤B:=by omega
   clear hz hg;obtain ⟨alg,e0,rfl,i0⟩:=DataW.trod_int Tryd.underlying22 g0;simp only [List.cons.injEq,and_true] at e0;subst e0;obtain ⟨kid,e1,rfl,i1⟩:=DataW.trod_string Tryd.underlying9 g1;simp only [List.cons.injEq,and_true] at e1;subst e1;obtain ⟨typ,e2,rfl,i2⟩:=DataW.trod_string Tryd.underlying9 g2;simp only [List.cons.injEq,and_true] at e2;subst e2;obtain ⟨hasTyp,e3,rfl⟩:=DataW.trod_bool Tryd.underlying4 g3;simp only [List.cons.injEq,and_true] at e3;subst e3;exact ⟨alg,kid,typ,hasTyp,rfl,Go.Eng.i64_of_wf i0,bulk_str z1,bulk_str z2⟩
end
end Go.Proofs.YticplgndjpljiaaDoor
namespace Go.Proofs.YticplgndjpljiaaDoor
open Go.RowKit Go.ChangeShapes Go.WideShapes Go.Deep Go.Eng
set_option linter.unusedVariables false
set_option maxRecDepth 100000
section
variable {H:Type} {enc:TypeId × Value→H} {W:World} {sp:Nat→Bool} {held:Bool}
theorem strs_weigh {fuel:Nat} {c:Value} {y:DataW H × List MemPlace} (h:DataW.trod enc Tryd.prog W 0 sp held fuel 29 [c]=some y) (hz:∀x∈y.1.weights Tryd.prog 29,x≤140737488351232) :
  ∃a n cap,c=.slice a n cap∧n*16≤140737488351232:=by
 rcases open_slice Tryd.underlying29 h with ⟨hcs,_⟩ | ⟨a,len,cap,m,fu,D,Pl,hcs,_,hl,hm,hmm,rfl,hel⟩
 ·simp only [List.cons.injEq,and_true] at hcs;exact ⟨none,0,0,hcs,by decide⟩
 ·simp only [List.cons.injEq,and_true] at hcs;refine ⟨some a,len,cap,hcs,?_⟩;have:=hz (((List.range len).map D).length*16+((List.range (m - len)).map fun j=>D (len+j)).length*16) (by
   simp only [DataW.weights,Tryd.underlying29,List.mem_cons];refine .inl ?_;rw [show Tryd.prog.bytesOf 9=16 by kernel_rfl,Nat.add_mul])
  simp only [List.length_map,List.length_range] at this;omega
theorem policy_weigh {c0 c1 c2 c3 c4 c5 c6 c7 c8:Value} {d:DataW H} {p:List MemPlace} (h:DataW.Trod enc Tryd.prog W 0 sp held 31 (.agg #[c0,c1,c2,c3,c4,c5,c6,c7,c8]) d p) (hz:∀x∈d.weights Tryd.prog 31,x≤140737488351232)
  {l:List BA} (hv:qEc noX W W .str c0 l):l.length*16≤140737488351232:=by
 obtain ⟨fuel,hf⟩:=h;obtain ⟨xs,n,_,hx,_,hlen,hg⟩:=DataW.trod_struct Tryd.underlying31 hf;match xs,hlen with
 | [y0,y1,y2,y3,y4,y5,y6,y7,y8],_ =>
  simp only [Prod.mk.injEq,List.map_cons,List.map_nil] at hx;obtain ⟨rfl,_⟩:=hx;simp only [DataW.weights,Tryd.underlying31,List.map_cons,List.map_nil,DataW.weightsEach,List.mem_append,List.append_nil] at hz;have g0:DataW.trod enc Tryd.prog W 0 sp held n 29 [c0]=some y0:=by simpa [show Tryd.prog.cellsOf 29=1 by kernel_rfl,Value.cells] using hg 0 _ rfl
  obtain ⟨a,m,cap,rfl,hm⟩:=strs_weigh g0 fun x hm=>hz x (.inl hm)
  obtain ⟨a',cap',e,_⟩:=hv;cases e;exact hm
end
end Go.Proofs.YticplgndjpljiaaDoor
namespace Go.Proofs
open Go.Shelf
shelf_lay Lays.n260 Nm 260 at Tryd as Tryd.laysSlow
end Go.Proofs
namespace Go.Proofs.YticplgndjpljiaaDoor
open Go.Eng Go.Shelf
set_option linter.unusedVariables false
theorem first_data:(Rows.laid_unicode_utf8_first:DataW Unit)=Lib.firstData:=by kernel_rfl
theorem accept_data:(Rows.laid_unicode_utf8_acceptRanges:DataW Unit)=Lib.acceptData:=by kernel_rfl
theorem cells_strs {H:Type} {enc:TypeId × Value→H} {P:Program} {w:World} {base:Nat} {sp:Nat→Bool} {held:Bool} {fuel:Nat} {t e:TypeId} {n:Nat} {cs:List Value} {zs:List (List UInt8)} {p:List MemPlace}
  (ht:P.underlying t=some (.array n e)) (he:P.underlying e=some .string) (hce:P.cellsOf e=1) (hct:P.cellsOf t=n)
  (h:DataW.trod enc P w base sp held fuel t cs=some (.agg (zs.map fun z=>.lit (.string z)),p)):cs=zs.map fun z=>Value.string ⟨z.toArray⟩:=by
 cases fuel with
 | zero=>simp [DataW.trod] at h
 | succ fuel =>
  simp only [DataW.trod,ht,hce,hct,Nat.mul_one] at h;split at h
  ·rename_i hl;obtain ⟨xs,hm,hx⟩:=Option.map_eq_some_iff.1 h;have hxs:xs.map (·.1)=zs.map fun z=>(DataW.lit (.string z):DataW H):=by
    have:=congrArg Prod.fst hx;simpa using this
   have hxl:xs.length=n:=by simpa using Lib.mapM_length hm
   have hzl:zs.length=n:=by
    have:=congrArg List.length hxs;simp at this;omega
   apply List.ext_getElem?;intro i;by_cases hi:i<n
   ·obtain ⟨b,hb,hf⟩:=Lib.mapM_at hm i i (by simp [hi]);obtain ⟨z,hc,rfl,_⟩:=DataW.trod_string he hf;have h1:cs[i]?=some (.string z):=by
     have:=congrArg (·[0]?) hc;simpa [List.getElem?_take,List.getElem?_drop] using this
    have h2:(xs.map (·.1))[i]?=some (DataW.lit (.string z.data.toList):DataW H):=by simp [hb]
    rw [hxs] at h2;simp only [List.getElem?_map,Option.map_eq_some_iff,DataW.lit.injEq,Lit.string.injEq] at h2;obtain ⟨z',hz',rfl⟩:=h2;simp only [h1,List.getElem?_map,hz',Option.map_some]
   ·rw [List.getElem?_eq_none (by omega),List.getElem?_eq_none (by simp; omega)]
  ·cases h
def namesZ:List (List UInt8):=[[],[72,83,50,53,54],[72,83,51,56,52],[72,83,53,49,50],[82,83,50,53,54],[82,83,51,56,52],[82,83,53,49,50],[80,83,50,53,54],[80,83,51,56,52],[80,83,53,49,50],[69,83,50,53,54],[69,83,51,56,52],[69,100,68,83,65]]
theorem names_cells {W:World} (h:Lib.VarReads Tryd.prog W "signet/keyset.names" Rows.laid_signet_keyset_names):∀k,k<13→W.cell? ⟨0,k,none⟩=some (.string (qE1 k)):=by
 intro k hk;obtain ⟨g,t,cs,fuel,p,hg,hty,hvar,hd⟩:=h;have hg':Tryd.prog.globalNamed "signet/keyset.names" = some 0:=by kernel_rfl
 obtain rfl:=Option.some.inj (hg'.symm.trans hg);have hty':(Tryd.prog.globals[0]?).map (·.type)=some 91:=by kernel_rfl
 obtain rfl:=Option.some.inj (hty'.symm.trans hty);have hcs:=cells_strs (n:=13) (e:=9) (zs:=namesZ) (by kernel_rfl) (by kernel_rfl) (by kernel_rfl) (by kernel_rfl) hd;rw [World.var?_cell hg hvar k,←Array.getElem?_toList,hcs];match k,hk with
 | 0,_ | 1,_ | 2,_ | 3,_ | 4,_ | 5,_ | 6,_ | 7,_ | 8,_ | 9,_ | 10,_ | 11,_ | 12,_=>rfl
theorem utf8N_tabs {W:World} (h3:Lib.VarReads Tryd.prog W "unicode/utf8.first" Rows.laid_unicode_utf8_first) (h4:Lib.VarReads Tryd.prog W "unicode/utf8.acceptRanges" Rows.laid_unicode_utf8_acceptRanges) (h5:Lib.VarReads Tryd.prog W "signet/keyset.names" Rows.laid_signet_keyset_names):tabOK noX W:=by
 rw [first_data] at h3;rw [accept_data] at h4;exact ⟨utf8Tabs_of_reads Tryd.laysSlow ⟨by kernel_rfl,by kernel_rfl,by kernel_rfl,by kernel_rfl,by kernel_rfl,by kernel_rfl,by kernel_rfl⟩ h3 h4,names_cells h5,fun h=>h,fun h=>h,fun h=>h⟩
end Go.Proofs.YticplgndjpljiaaDoor
