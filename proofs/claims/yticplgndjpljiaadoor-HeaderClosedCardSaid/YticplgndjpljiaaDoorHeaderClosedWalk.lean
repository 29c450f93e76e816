/-
  HeaderClosed: its call returns true.
-/
import Derived.Below
import Derived.Carry
import Derived.Lib.LaidU8
import Derived.Shelf.Lay
import Derived.Ground.NamesProg
import Derived.Test.YticplgndjpljiaaDoorPBack
import Derived.Test.YticplgndjpljiaaDoorEngN
import Derived.Test.YticplgndjpljiaaDoorEngO
import Derived.Test.YticplgndjpljiaaDoorProg
import Derived.Test.YticplgndjpljiaaDoorRows
namespace Go.Proofs.YticplgndjpljiaaDoor
open Go.Eng
set_option linter.unusedVariables false
set_option linter.unusedSimpArgs false
def pC (n:Eng.Node):Bool :=
 (decide (n.kind=4) && decide (n.kids=0) && qBr n.text && (n.whole == (qD1 n.text).2) && decide (n.int=(qD1 n.text).1)) ||
 (decide (n.kind=5) && decide (n.kids=0) && !n.whole && decide (n.int=0) && Lib.validD n.text.data.toList) ||
 ((decide (n.kind=1) || decide (n.kind=2) || decide (n.kind=3)) && decide (n.kids=0) && !n.whole && decide (n.int=0) && decide (n.text=⟨#[]⟩)) ||
 ((decide (n.kind=6) || decide (n.kind=7)) && decide (0≤n.kids) && !n.whole && decide (n.int=0) && decide (n.text=⟨#[]⟩))
theorem pB_C {n:Eng.Node} (hn:n.text.size≤3000000):pB n=pC n:=by
 rw [Bool.eq_iff_iff];unfold pC;simp only [Bool.or_eq_true,Bool.and_eq_true,decide_eq_true_eq,beq_iff_eq,Bool.not_eq_true'];constructor
 ·intro h;rcases pB_inv hn h with ⟨a,b,c,d,e⟩ | ⟨a,b,c,d,e⟩ | ⟨a,b,c,d,e⟩ | ⟨a,b,c,d,e⟩
  ·exact .inl (.inl (.inl ⟨⟨⟨⟨a,b⟩,c⟩,d⟩,e⟩))
  ·exact .inl (.inl (.inr ⟨⟨⟨⟨a,b⟩,c⟩,d⟩,e⟩))
  ·exact .inl (.inr ⟨⟨⟨⟨by omega,b⟩,c⟩,d⟩,e⟩)
  ·exact .inr ⟨⟨⟨⟨a,b⟩,c⟩,d⟩,e⟩
 ·rintro (((h | h) | h) | h)
  ·exact pB_num hn h.1.1.1.1 h.1.1.1.2 h.1.1.2 h.1.2 h.2
  ·exact pB_str hn h.1.1.1.1 h.1.1.1.2 h.1.1.2 h.1.2 h.2
  ·exact pB_bare (by omega) h.1.1.1.2 h.1.1.2 h.1.2 h.2
  ·exact pB_box h.1.1.1.1 h.1.1.1.2 h.1.1.2 h.1.2 h.2
def okC (obj:Bool) (n:Eng.Node):Bool:=pC n && Lib.validD n.key.data.toList && (obj || decide (n.key=(⟨#[]⟩:BA)))
def kidsC (v:List Eng.Node) (one:Nat→Option Nat) (obj:Bool):Nat→Nat→List BA→Option Nat
 | 0,a,_=>some a
 | k+1,a,names=>match one a with
  | none=>none
  | some e=>if obj=true∧qBp v a∈names then none else kidsC v one obj k e (names++[qBp v a])
def oneC (v:List Eng.Node):Nat→Bool→Nat→Option Nat
 | 0,obj,a=>match v[a]? with
  | none=>none
  | some n=>if okC obj n=true∧n.kind<6 then some (a+1) else none
 | d+1,obj,a=>match v[a]? with
  | none=>none
  | some n=>if okC obj n=true then kidsC v (oneC v d (decide (n.kind=7))) (decide (n.kind=7)) n.kids.toNat (a+1) [] else none
theorem kidsS_C {v:List Eng.Node} {one one':Nat→Option Nat} {obj:Bool} (h:∀a,one a=one' a):∀(k a:Nat) (names:List BA),qFw v one obj k a names=kidsC v one' obj k a names
 | 0,a,names=>rfl
 | k+1,a,names=>by
  unfold qFw kidsC;rw [h a];cases one' a with
  | none=>rfl
  | some e =>
   dsimp only;rw [kidsS_C h k e]
theorem oneS_C {v:List Eng.Node} (hv:OkL v):∀(d:Nat) (obj:Bool) (a:Nat),oneS v d obj a=oneC v d obj a
 | 0,obj,a=>by
  unfold oneS oneC;cases hn:v[a]? with
  | none=>rfl
  | some n =>
   dsimp only;have:okB obj n=okC obj n:=by unfold okB okC; rw [pB_C (hv.2 n (List.mem_of_getElem? hn)).text]
   rw [this]
 | d+1,obj,a=>by
  unfold oneS oneC;cases hn:v[a]? with
  | none=>rfl
  | some n =>
   dsimp only;have:okB obj n=okC obj n:=by unfold okB okC; rw [pB_C (hv.2 n (List.mem_of_getElem? hn)).text]
   rw [this,kidsS_C (fun a=>oneS_C hv d _ a)]
def prKidsC (v:List Eng.Node) (one:Nat→Option Nat) (pr:Nat→List Int) (obj:Bool):Nat→Nat→Bool→List Int
 | 0,_,_=>[]
 | k+1,a,first=>commaL first++(keyL v obj a++(pr a++prKidsC v one pr obj k ((one a).getD 0) false))
def prC (v:List Eng.Node):Nat→Nat→List Int
 | 0,a=>scalL (v.getD a (ET.dft .node))
 | d+1,a =>
  if (v.getD a (ET.dft .node)).kind<6 then scalL (v.getD a (ET.dft .node))
  else (if (v.getD a (ET.dft .node)).kind=7 then 123 else 91)::(prKidsC v (oneC v d (decide ((v.getD a (ET.dft .node)).kind=7))) (prC v d) (decide ((v.getD a (ET.dft .node)).kind=7)) (v.getD a (ET.dft .node)).kids.toNat (a+1) true++[if (v.getD a (ET.dft .node)).kind=7 then 125 else 93])
theorem prKids_C {v:List Eng.Node} {one one':Nat→Option Nat} {pr pr':Nat→List Int} {obj:Bool} (h:∀a,one a=one' a) (hp:∀a,pr a=pr' a):∀(k a:Nat) (first:Bool),prKids v one pr obj k a first=prKidsC v one' pr' obj k a first
 | 0,a,first=>rfl
 | k+1,a,first=>by
  unfold prKids prKidsC;rw [h a,hp a,prKids_C h hp k]
theorem prOne_C {v:List Eng.Node} (hv:OkL v):∀(d a:Nat),qFi v d a=prC v d a
 | 0,a=>rfl
 | d+1,a=>by
  unfold qFi prC;rw [prKids_C (fun a=>oneS_C hv d _ a) (fun a=>prOne_C hv d a)]
theorem p_Print {v:List Eng.Node} (hv:OkL v):zar_s v=some (if oneS v 32 false 0=some v.length then (if 262144<(qFi v 32 0).length then ((⟨#[]⟩:BA),10) else (qBk (qFi v 32 0),0)) else (⟨#[]⟩,31)):=by
 have hlen:=hv.1;unfold zar_s;rw [prog_Shaped hv,obS];by_cases hsh:oneS v 32 false 0=some v.length
 ·rw [deT hsh,Bool.not_true,cnF,if_pos hsh];have hsp:zbq_s (⟨false,[]⟩:qHw) v 0=some (⟨true,[]++qFi v 32 0⟩,(v.length:Int)):=evt_eq (N:=33) fun n hn=>by
   have:=sp_all hv 32 false 0 v.length n hsh (by omega) false [] (by show 0+_≤_; omega);rwa [show ((0:Nat):Int)=0 from rfl] at this
  rw [hsp,obS,List.nil_append];unfold zbv_s;rw [obS];dsimp only;by_cases hbig:262144<(qFi v 32 0).length
  ·rw [deT (show (262144:Int)<((qFi v 32 0).length:Int) by omega),cnT,if_pos hbig]
  ·rw [deF (show ¬(262144:Int)<((qFi v 32 0).length:Int) by omega),cnF,if_neg hbig];have hne:=prOne_some hv hsh;have hpos:0<(qFi v 32 0).length:=List.length_pos_iff.2 hne;have:zbw_s ⟨true,qFi v 32 0⟩=some (⟨true,[]⟩,qBk (qFi v 32 0)):=by
    unfold zbw_s;refine (qAa hpos _).trans ?_;exact (qAa ⟨rfl,hpos,prOne_range v 32 0⟩ _).trans rfl
   rw [this,obS]
 ·rw [deF hsh,Bool.not_false,cnT,if_neg hsh]
theorem upN_toNat (l:List Nat):(upN l).map Int.toNat=l:=by
 induction l with
 | nil=>rfl
 | cons a l ih=>exact congrArg (a :: ·) ih
theorem leaf_at {v:List Eng.Node} {a:Nat} {n:Eng.Node} (h:v[a]?=some n) (h0:n.kids=0):Tree v a (a+1):=Tree.mk h (by omega) (by
 rw [h0];exact Trees.nil _ (by have:=(List.getElem?_eq_some_iff.1 h).1; omega))
theorem header_at {t:BA} {v:List Eng.Node} {L:List Nat} {nd:Eng.Node} (hs:t.size≤262144) (hr:readR t=.ok t.size v) (h0:v[0]?=some nd) (h7:nd.kind=7) (hpl:qDi v nd.kids.toNat 1 L v.length):zaf_s t=some (hdrV v L):=by
 have hp:parseR t=(v,0,0):=by
  unfold parseR;rw [if_neg (by omega),hr];rfl
 rcases parseR_cases t with ⟨l,e1,_,_,hne,hll,hT,hz⟩ | ⟨c,b,e1,hc⟩
 ·rw [hp] at e1;cases e1;have hok:OkL v:=⟨by omega,fun n hn=>(hz n hn).okN (by omega)⟩;have h7':(v.getD 0 (ET.dft .node)).kind=7:=by rw [nd_get h0,h7]
  obtain ⟨L',hO⟩:=obj_read hs hr hok hT h7' fun d a b h=>oneS_tree hok d true a b h
  obtain ⟨nd',g1,g2,g3⟩:=hT.node;rw [h0] at g1;cases g1;have hk:=j_kids hok.1 h0 g2 g3 hpl;have hk':=hO.kids;rw [show ((0:Nat):Int)=0 from rfl] at hk;rw [hk] at hk';have e:=congrArg (List.map Int.toNat) (Option.some.inj hk');rw [upN_toNat,upN_toNat] at e;have hlen:=hO.len;rw [e];exact p_header (.obj v L' hp hs hr hO (by omega) hz)
 ·rw [hp] at e1;cases e1;exact (hc rfl).elim
def stT:BA:=⟨#[123,34,107,105,100,34,58,34,107,34,44,34,92,117,48,48,54,49,108,103,34,58,34,69,83,51,56,52,34,44,34,116,121,112,34,58,34,74,87,84,34,125]⟩
def stV:List Eng.Node:=[⟨7,⟨#[]⟩,⟨#[]⟩,false,0,3⟩,⟨5,hKid,⟨#[107]⟩,false,0,0⟩,⟨5,hAlg,⟨#[69,83,51,56,52]⟩,false,0,0⟩,⟨5,hTyp,⟨#[74,87,84]⟩,false,0,0⟩]
def stH:qH7:=⟨11,⟨#[107]⟩,⟨#[74,87,84]⟩,true⟩
theorem st_read:readR stT=.ok stT.size stV:=by kernel_rfl
theorem st_pl:qDi stV 3 1 [1,2,3] 4:=⟨2,[2,3],rfl,leaf_at (a:=1) rfl rfl,3,[3],rfl,leaf_at (a:=2) rfl rfl,4,[],rfl,leaf_at (a:=3) rfl rfl,rfl,rfl⟩
theorem st_hv:hdrV stV [1,2,3]=(stH,0):=by kernel_rfl
theorem st_parse:zaf_s stT=some (stH,0):=by
 rw [header_at (v:=stV) (L:=[1,2,3]) (nd:=⟨7,⟨#[]⟩,⟨#[]⟩,false,0,3⟩) (by decide) st_read rfl rfl st_pl,st_hv]
def suT:BA:=⟨#[123,34,97,108,103,34,58,34,110,111,110,101,34,44,34,107,105,100,34,58,34,107,34,125]⟩
def suV:List Eng.Node:=[⟨7,⟨#[]⟩,⟨#[]⟩,false,0,2⟩,⟨5,hAlg,⟨#[110,111,110,101]⟩,false,0,0⟩,⟨5,hKid,⟨#[107]⟩,false,0,0⟩]
theorem su_read:readR suT=.ok suT.size suV:=by kernel_rfl
theorem su_pl:qDi suV 2 1 [1,2] 3:=⟨2,[2],rfl,leaf_at (a:=1) rfl rfl,3,[],rfl,leaf_at (a:=2) rfl rfl,rfl,rfl⟩
theorem su_val:hdrV suV [1,2]=(noH,111):=by kernel_rfl
theorem su_parse:zaf_s suT=some (noH,111):=by
 rw [header_at (v:=suV) (L:=[1,2]) (nd:=⟨7,⟨#[]⟩,⟨#[]⟩,false,0,2⟩) (by decide) su_read rfl rfl su_pl,su_val]
def svV:List Eng.Node:=[⟨7,⟨#[]⟩,⟨#[]⟩,false,0,3⟩,⟨5,hAlg,⟨#[69,83,51,56,52]⟩,false,0,0⟩,⟨5,hKid,⟨#[107]⟩,false,0,0⟩,⟨5,hTyp,⟨#[74,87,84]⟩,false,0,0⟩]
def svT:BA:=⟨#[123,34,97,108,103,34,58,34,69,83,51,56,52,34,44,34,107,105,100,34,58,34,107,34,44,34,116,121,112,34,58,34,74,87,84,34,125]⟩
theorem sv_ok:OkL svV:=⟨by decide,fun n hn=>by
 simp only [svV,List.mem_cons,List.not_mem_nil,or_false] at hn;rcases hn with rfl | rfl | rfl | rfl <;> exact ⟨by decide,by decide,by unfold qAe; decide⟩⟩
theorem sv_shape:oneS svV 32 false 0=some 4:=by
 rw [oneS_C sv_ok];kernel_rfl
theorem sv_text:qFi svV 32 0=qAp svT:=by
 rw [prOne_C sv_ok];kernel_rfl
theorem sv_print:zar_s svV=some (svT,0):=by
 rw [p_Print sv_ok,sv_shape,if_pos (show some 4=some svV.length from rfl),sv_text,if_neg (by decide)];rfl
theorem name_11:qCg 11=some ⟨#[69,83,51,56,52]⟩:=(qAa (by omega) _).trans (by kernel_rfl)
theorem sv_header:zag_s stH=some (svT,0):=by
 have v1:qAt stH.kid=some true:=(qAa (by decide) _).trans (by kernel_rfl);have v3:qAt stH.typ=some true:=(qAa (by decide) _).trans (by kernel_rfl);unfold zag_s;rw [show stH.alg=11 from rfl,name_11,obS,deF (by decide),cnF,v1,obS,Bool.not_true,cnF,show stH.hasTyp=true from rfl,cnT,v3,obS,Bool.not_true,cnF];refine (qAa (by simp) _).trans ((qAa (by simp) _).trans ((qAa (by simp) _).trans ((qAa (show qAe 3 by unfold qAe; omega) _).trans ((qAa (by simp) _).trans ((qAa (by simp) _).trans ((qAa (by simp) _).trans ((qAa (by simp) _).trans ?_)))))));exact (congrArg (fun o=>Option.bind o fun r4:BA × Int=>some (r4.1,r4.2)) sv_print).trans rfl
theorem getD_str {l:List BA} {i:Nat} (h:i<l.length):l.getD i (ET.dft .str)=l[i]:=by simp [List.getD,h]
theorem index_loop (v:BA) (l:List BA) (hl:l.length≤140737488355329):∀(j i:Nat),i+j=l.length →
  (∃k:Nat,zbu_p0 v (l.length:Int) (i:Int) l=some (.inl (k:Int))∧v∈l.drop i)∨(zbu_p0 v (l.length:Int) (i:Int) l=some (.inr ())∧¬v∈l.drop i)
 | 0,i,h=>by
  refine .inr ⟨?_,?_⟩
  ·unfold zbu_p0;refine qAj ?_;unfold qDz;rw [deF (by omega),cnF]
  ·rw [List.drop_eq_nil_of_le (by omega)];exact fun h=>by cases h
 | j+1,i,h=>by
  have hi:i<l.length:=by omega
  have hd:l.drop i=l[i]::l.drop (i+1):=List.drop_eq_getElem_cons hi;by_cases he:v=l[i]
  ·refine .inl ⟨i,?_,?_⟩
   ·unfold zbu_p0;refine qAj ?_;unfold qDz;rw [deT (by omega),cnT,qAa (by omega),qAa (by omega),Int.toNat_natCast,getD_str hi,deT he,cnT]
   ·rw [hd,he]; exact List.mem_cons_self
  ·have hst:qDz v (l.length:Int) (i:Int) l=some (.inl ((i+1:Nat):Int)):=by
    unfold qDz;rw [deT (by omega),cnT,qAa (by omega),qAa (by omega),Int.toNat_natCast,getD_str hi,deF he,cnF];exact qAa (by unfold qAe; omega) _
   have hm:v∈l.drop i↔v∈l.drop (i+1):=by rw [hd,List.mem_cons]; simp [he]
   have ih:=index_loop v l hl j (i+1) (by omega);rw [hm];unfold zbu_p0 at ih ⊢;rw [qAs hst];exact ih
theorem contains_is (l:List BA) (hl:l.length≤140737488355329) (v:BA):zbt_s l v=some (decide (v∈l)):=by
 have h:=index_loop v l hl l.length 0 (by omega);rw [List.drop_zero,show ((0:Nat):Int)=0 from rfl] at h;unfold zbt_s zbu_s;rcases h with ⟨k,h,hm⟩ | ⟨h,hm⟩
 ·rw [h,obS,Sum.elim_inl,obS,deT (by omega),deT hm]
 ·rw [h,obS,Sum.elim_inr,obS,deF (by omega),deF hm]
def allowV (p:qIm) (h:qH7):Int:=if algS h.alg=⟨#[]⟩∨¬algS h.alg∈p.algs then 112 else if p.hasTyp=true∧¬(h.hasTyp=true∧h.typ=p.typ) then 113 else 0
theorem allow_is (p:qIm) (h:qH7) (ha:qAe h.alg) (hl:p.algs.length≤140737488355329):zae_s p h=some (allowV p h):=by
 have n1:qCg h.alg=some (algS h.alg):=qAa (by unfold qAe at ha; omega) _;unfold zae_s allowV;rw [n1,obS,contains_is p.algs hl,obS];by_cases h1:algS h.alg=(⟨#[]⟩:BA)
 ·rw [deT h1,cnT,if_pos (.inl h1)]
 rw [deF h1,cnF];by_cases h2:algS h.alg∈p.algs
 ·rw [deT h2,Bool.not_true,cnF,if_neg (fun h=>h.elim h1 (fun g=>g h2))];cases p.hasTyp <;> cases h.hasTyp <;> by_cases h3:h.typ=p.typ <;> simp [h3]
 ·rw [deF h2,Bool.not_false,cnT,if_pos (.inr h2)]
theorem started_is:zbs_s=some true:=by
 have e1:=st_parse;have e2:=sv_header;have e3:=su_parse;have a1:=allow_is ⟨[(⟨#[110,111,110,101]⟩:BA),(⟨#[69,83,51,56,52]⟩:BA)],(⟨#[]⟩:BA),false,(⟨#[]⟩:BA),false,(⟨#[74,87,84]⟩:BA),true,(0:Int),[]⟩ stH (by unfold qAe; decide) (by decide);have a2:=allow_is ⟨[],(⟨#[]⟩:BA),false,(⟨#[]⟩:BA),false,(⟨#[]⟩:BA),false,(0:Int),[]⟩ stH (by unfold qAe; decide) (by decide);have b1:allowV ⟨[(⟨#[110,111,110,101]⟩:BA),(⟨#[69,83,51,56,52]⟩:BA)],(⟨#[]⟩:BA),false,(⟨#[]⟩:BA),false,(⟨#[74,87,84]⟩:BA),true,(0:Int),[]⟩ stH=0:=by decide +kernel
 have b2:allowV ⟨[],(⟨#[]⟩:BA),false,(⟨#[]⟩:BA),false,(⟨#[]⟩:BA),false,(0:Int),[]⟩ stH=112:=by decide +kernel
 rw [b1] at a1;rw [b2] at a2;unfold stT at e1;unfold suT at e3;unfold zbs_s;rw [e1,obS,e2,obS,e3,obS,a1,obS,a2];rfl
theorem algFrom_is (s:BA):∀j k:Nat,qC6 s j k≠0→qEr (qC6 s j k)=s∧k≤qC6 s j k∧qC6 s j k<k+j
 | 0,k,h=>(h rfl).elim
 | j+1,k,h=>by
  unfold qC6 at h ⊢;by_cases hk:qEr k=s
  ·rw [if_pos hk];exact ⟨hk,Nat.le_refl _,by omega⟩
  ·rw [if_neg hk] at h ⊢;have ih:=algFrom_is s j (k+1) h;exact ⟨ih.1,by omega,by omega⟩
theorem algS_of {s:BA} (h:qD3 s≠0):algS (qD3 s:Int)=s∧qD3 s<13∧1≤qD3 s:=by
 have h1:=algFrom_is s 12 1 h;have h2:qD3 s=qC6 s 12 1:=rfl;rw [←h2] at h1;refine ⟨?_,by omega,by omega⟩;unfold algS;rw [if_neg (by omega),Int.toNat_natCast];exact h1.1
def goodC (v:List Eng.Node) (a k t n:Int):Bool:=((((((decide (((v.getD (Int.toNat (0:Int)) (ET.dft .node)).kind)=(7:Int))) && (decide (((v.getD (Int.toNat (0:Int)) (ET.dft .node)).kids)=n))) && (decide ((0:Int)≤a))) && (decide ((0:Int)≤k))) && (decide (((v.getD (Int.toNat a) (ET.dft .node)).kind)=(5:Int)))) && (decide (((v.getD (Int.toNat k) (ET.dft .node)).kind)=(5:Int)))) && ((decide (t<(0:Int))) || (decide (((v.getD (Int.toNat t) (ET.dft .node)).kind)=(5:Int))))
def sameH (e c al:Int) (kid typ:BA) (has:Bool):Bool:=(decide (e=c)) && (decide (al=(0:Int)) && (decide (kid=(⟨#[]⟩:BA)) && (decide (typ=(⟨#[]⟩:BA)) && ((has == false) && true))))
theorem sameH_no (c:Int):sameH c c noH.alg noH.kid noH.typ noH.hasTyp=true:=by
 unfold sameH noH;simp
theorem closed_bad {e a k t n al:Int} {kid typ:BA} {has:Bool} {v:List Eng.Node} (hv:0<v.length) (ha:a<v.length) (hk:k<v.length) (ht:t<v.length) (hg:goodC v a k t n=false) :
  zbr_p0 e a k t n al kid typ has v=some (sameH e 110 al kid typ has):=by
 unfold zbr_p0
 repeat refine (qAa (by first
  | omega
  | (intro h; first | omega | (simp only [Bool.and_eq_true,decide_eq_true_eq] at h; omega))
  | (intro h1 h; simp only [decide_eq_false_iff_not] at h1; omega)) _).trans ?_
 show (bif !(goodC v a k t n) then _ else _)=_;rw [hg];rfl
theorem closed_good {e a k t n al:Int} {kid typ:BA} {has:Bool} {v:List Eng.Node} (hv:0<v.length) (ha:a<v.length) (hk:k<v.length) (ht:t<v.length) (hal:qAe al) (hg:goodC v a k t n=true) :
  zbr_p0 e a k t n al kid typ has v=some (if qD3 (v.getD a.toNat (ET.dft .node)).text=0 then sameH e 111 al kid typ has else
   (decide (e=0∧al=qD3 (v.getD a.toNat (ET.dft .node)).text∧algS al=(v.getD a.toNat (ET.dft .node)).text∧kid=(v.getD k.toNat (ET.dft .node)).text∧has=decide (0≤t)∧if t<0 then typ=⟨#[]⟩ else typ=(v.getD t.toNat (ET.dft .node)).text))):=by
 have h0:0≤a∧0≤k:=by
  unfold goodC at hg;simp only [Bool.and_eq_true,decide_eq_true_eq] at hg;exact ⟨hg.1.1.1.1.2,hg.1.1.1.2⟩
 have n1:qCg al=some (algS al):=qAa (by unfold qAe at hal; omega) _;unfold zbr_p0
 repeat refine (qAa (by first
  | omega
  | (intro h; first | omega | (simp only [Bool.and_eq_true,decide_eq_true_eq] at h; omega))
  | (intro h1 h; simp only [decide_eq_false_iff_not] at h1; omega)) _).trans ?_
 show (bif !(goodC v a k t n) then _ else _)=_;rw [hg,Bool.not_true,cnF,qAa (by omega),qAa (by omega),qAa (by omega)];have ho:qE2 (v.getD a.toNat (ET.dft .node)).text=some (qD3 (v.getD a.toNat (ET.dft .node)).text:Int):=rfl;rw [ho,obS];generalize (v.getD a.toNat (ET.dft .node)).text=s
 by_cases hz:qD3 s=0
 ·rw [if_pos hz,hz];rfl
 rw [if_neg hz,deF (by omega),cnF];rw [qAa (fun _=>by omega),qAa (fun _=>by omega),qAa (fun _=>by omega),n1,obS,qAa (fun _=>by omega),qAa (fun _=>by omega),qAa (fun _=>by omega)];generalize (v.getD k.toNat (ET.dft .node)).text=u
 by_cases h1:¬(e=0)
 ·rw [deF h1,Bool.not_false,Bool.true_or,Bool.true_or,Bool.true_or,Bool.true_or,cnT,deF (fun h=>h1 h.1)]
 replace h1:=Classical.not_not.1 h1;by_cases h2:¬(al=qD3 s)
 ·rw [deF h2,Bool.not_false,Bool.or_true,Bool.true_or,Bool.true_or,Bool.true_or,cnT,deF (fun h=>h2 h.2.1)]
 replace h2:=Classical.not_not.1 h2;by_cases h3:¬(algS al=s)
 ·rw [deF h3,Bool.not_false,Bool.or_true,Bool.true_or,Bool.true_or,cnT,deF (fun h=>h3 h.2.2.1)]
 replace h3:=Classical.not_not.1 h3;by_cases h4:¬(kid=u)
 ·rw [deF h4,Bool.not_false,Bool.or_true,Bool.true_or,cnT,deF (fun h=>h4 h.2.2.2.1)]
 replace h4:=Classical.not_not.1 h4;rw [deT h1,deT h2,deT h3,deT h4];simp only [Bool.not_true,Bool.or_self,Bool.false_or];by_cases h5:¬(has=decide (0≤t))
 ·have:(has == decide (0≤t))=false:=by simpa using h5
  rw [this,Bool.not_false,cnT,deF (fun h=>h5 h.2.2.2.2.1)]
 replace h5:=Classical.not_not.1 h5;have h6:(has == decide (0≤t))=true:=by simpa using h5
 rw [h6,Bool.not_true,cnF];refine (qAa (fun h _=>by simp only [decide_eq_true_eq] at h; omega) _).trans ((qAa (fun h _=>by simp only [decide_eq_true_eq] at h; omega) _).trans ((qAa (fun h _=>by simp only [decide_eq_true_eq] at h; omega) _).trans ?_));by_cases h6:t<0
 ·rw [deT h6,deF (show ¬0≤t by omega)] at *
  simp only [Bool.true_and,Bool.false_and,Bool.or_false];congr 1
  by_cases h7:typ=⟨#[]⟩
  ·rw [deT h7,deT ⟨h1,h2,h3,h4,h5,by rw [if_pos h6]; exact h7⟩]
  ·rw [deF h7,deF (fun h=>h7 (by have:=h.2.2.2.2.2; rwa [if_pos h6] at this))]
 ·rw [deF h6,deT (show 0≤t by omega)] at *
  simp only [Bool.true_and,Bool.false_and,Bool.false_or];congr 1
  by_cases h7:typ=(v.getD t.toNat (ET.dft .node)).text
  ·rw [deT h7,deT ⟨h1,h2,h3,h4,h5,by rw [if_neg h6]; exact h7⟩]
  ·rw [deF h7,deF (fun h=>h7 (by have:=h.2.2.2.2.2; rwa [if_neg h6] at this))]
theorem mem_lt {l:List Eng.Node} {L:List Nat} (hO:Obj l L) (key:BA):memI (qAr l key L)<l.length:=by
 have:=hO.ne;cases h:qAr l key L with
 | none=>show (-1:Int)<_; omega
 | some p =>
  have:=hO.lt (findK_mem h).1;show (p:Int)<_;omega
theorem str_all {l:List Eng.Node} {L:List Nat} (hO:Obj l L) (hk:L.all (keyH l)=true) (h:∀key p,(key=hAlg∨key=hKid∨key=hTyp)→qAr l key L=some p→strH l p=true):L.all (strH l)=true:=by
 rw [List.all_eq_true] at hk ⊢;intro p hp;have h1:=hk p hp;obtain ⟨pre,post,rfl⟩:=List.append_of_mem hp;have hf:=hO.uniq.find;refine h (qBp l p) p ?_ hf;unfold keyH at h1;simp only [Bool.or_eq_true,decide_eq_true_eq] at h1;rcases h1 with (h1 | h1) | h1
 ·exact .inl h1
 ·exact .inr (.inl h1)
 ·exact .inr (.inr h1)
theorem good_iff {l:List Eng.Node} {L:List Nat} (hO:Obj l L) {n:Int} (hn:n=if (qAr l hTyp L).isSome=true then 3 else 2) :
  goodC l (memI (qAr l hAlg L)) (memI (qAr l hKid L)) (memI (qAr l hTyp L)) n=true↔(L.all (qGa l)=true∧(qAr l hAlg L).isSome=true∧(qAr l hKid L).isSome=true):=by
 have c0:=cnt_all l L;have c1:=cnt_find (key:=hAlg) hO.uniq;have c2:=cnt_find (key:=hKid) hO.uniq;have c3:=cnt_find (key:=hTyp) hO.uniq;have hkd:=hO.kind;have hct:=hO.cnt;unfold goodC;rw [show Int.toNat 0=0 from rfl];simp only [Bool.and_eq_true,Bool.or_eq_true,decide_eq_true_eq];rw [good_all,Bool.and_eq_true];constructor
 ·rintro ⟨⟨⟨⟨⟨⟨_,g1⟩,g2⟩,g3⟩,g4⟩,g5⟩,g6⟩
  cases hA:qAr l hAlg L with
  | none=>rw [hA] at g2; exact absurd g2 (by decide)
  | some a =>
   cases hK:qAr l hKid L with
   | none=>rw [hK] at g3; exact absurd g3 (by decide)
   | some k =>
    rw [hA] at c1 g4;rw [hK] at c2 g5;rw [if_pos (show (some a).isSome=true from rfl)] at c1;rw [if_pos (show (some k).isSome=true from rfl)] at c2;have ho:(L.countP fun p=>!keyH l p)=0:=by
     cases hT:qAr l hTyp L with
     | none=>rw [hT] at c3 hn; rw [if_neg (show ¬(none:Option Nat).isSome=true by decide)] at c3 hn; omega
     | some t=>rw [hT] at c3 hn; rw [if_pos (show (some t).isSome=true from rfl)] at c3 hn; omega
    have hall:=others_none.1 ho;refine ⟨⟨hall,str_all hO hall fun key p hkey hf=>?_⟩,rfl,rfl⟩;unfold strH;rw [decide_eq_true_eq];rcases hkey with rfl | rfl | rfl
    ·rw [hA] at hf;cases hf;exact g4
    ·rw [hK] at hf;cases hf;exact g5
    ·rw [hf] at g6;rcases g6 with g6 | g6
     ·exact absurd g6 (by show ¬(p:Int)<0; omega)
     ·exact g6
 ·rintro ⟨⟨hk,hs⟩,h1,h2⟩
  have ho:=others_none.2 hk;rw [List.all_eq_true] at hs;have kd:∀ {key p},qAr l key L=some p→(l.getD p (ET.dft .node)).kind=5:=fun h=>by
   have:=hs _ (findK_mem h).1;unfold strH at this;simpa using this
  cases hA:qAr l hAlg L with
  | none=>rw [hA] at h1; cases h1
  | some a =>
   cases hK:qAr l hKid L with
   | none=>rw [hK] at h2; cases h2
   | some k =>
    rw [hA] at c1;rw [hK] at c2;rw [if_pos (show (some a).isSome=true from rfl)] at c1;rw [if_pos (show (some k).isSome=true from rfl)] at c2;refine ⟨⟨⟨⟨⟨⟨hkd,?_⟩,by show (0:Int)≤(a:Int); omega⟩,by show (0:Int)≤(k:Int); omega⟩,kd hA⟩,kd hK⟩,?_⟩
    ·cases hT:qAr l hTyp L with
     | none=>rw [hT] at c3 hn; rw [if_neg (show ¬(none:Option Nat).isSome=true by decide)] at c3 hn; omega
     | some t=>rw [hT] at c3 hn; rw [if_pos (show (some t).isSome=true from rfl)] at c3 hn; omega
    ·cases hT:qAr l hTyp L with
     | none=>exact .inl (by show (-1:Int)<0; decide)
     | some t=>exact .inr (kd hT)
theorem headerClosed_plain (t:BA):zbr_s t=some true:=by
 obtain ⟨x,hx⟩:=hread t;unfold zbr_s;rw [started_is,obS,Bool.not_true,cnF,p_header hx,obS,p_Parse,obS];cases hx with
 | bad c b h1 hc =>
  rw [h1];dsimp only;rw [deF hc,Bool.not_false,cnT];exact congrArg some (sameH_no c)
 | no l h1 hok hT hz hlt h7 =>
  obtain ⟨nd,g1,g2,g3⟩:=hT.node;obtain ⟨L,hL⟩:=g3.places;have hm:∀key,zap_s l 0 key=some (-1):=fun key=>by
   have:=(member_find hok.1 g1 g2 g3 hL key).1;rw [show ((0:Nat):Int)=0 from rfl,if_neg (by rw [nd_get g1] at h7; exact h7)] at this;exact this
  rw [h1];dsimp only;rw [deT rfl,Bool.not_true,cnF,hm,obS,hm,obS,hm,obS,
   deF (show ¬(l.length:Int)=0 by omega),deF (show ¬(l.length:Int) ≤ -1 by omega),Bool.or_self,Bool.or_self,Bool.or_self,cnF,deF (by decide),cnF]
  rw [closed_bad hlt (by omega) (by omega) (by omega) (by unfold goodC; rw [show Int.toNat 0=0 from rfl,deF h7]; rfl),obS];exact congrArg some (sameH_no 110)
 | obj l L h1 hs h2 hO hL hz =>
  have m1:zap_s l 0 (⟨#[97,108,103]⟩:BA)=some (memI (qAr l hAlg L)):=(hO.mem hAlg).1;have m2:zap_s l 0 (⟨#[107,105,100]⟩:BA)=some (memI (qAr l hKid L)):=(hO.mem hKid).1;have m3:zap_s l 0 (⟨#[116,121,112]⟩:BA)=some (memI (qAr l hTyp L)):=(hO.mem hTyp).1;have l1:=mem_lt hO hAlg;have l2:=mem_lt hO hKid;have l3:=mem_lt hO hTyp;have hlt:=hO.ne;have key:∀n:Int,(n=if (qAr l hTyp L).isSome=true then 3 else 2)→zbr_p0 (hdrV l L).2 (memI (qAr l hAlg L)) (memI (qAr l hKid L)) (memI (qAr l hTyp L)) n (hdrV l L).1.alg (hdrV l L).1.kid (hdrV l L).1.typ (hdrV l L).1.hasTyp l=some true:=fun n hn=>by
   have hiff:=good_iff hO hn;cases hg:goodC l (memI (qAr l hAlg L)) (memI (qAr l hKid L)) (memI (qAr l hTyp L)) n with
   | false =>
    rw [closed_bad hlt l1 l2 l3 hg];have:hdrV l L=(noH,110):=by
     unfold hdrV;rw [if_neg (fun h=>by rw [hiff.2 h] at hg; cases hg)]
    rw [this];exact congrArg some (sameH_no 110)
   | true =>
    have hgood:=hiff.1 hg;have hv:hdrV l L=(if qD3 (txtF l (qAr l hAlg L))=0 then (noH,111) else (⟨qD3 (txtF l (qAr l hAlg L)),txtF l (qAr l hKid L),txtF l (qAr l hTyp L),(qAr l hTyp L).isSome⟩,0)):=by
     unfold hdrV;rw [if_pos hgood]
    obtain ⟨_,g1,g2⟩:=hgood;cases hA:qAr l hAlg L with
    | none=>rw [hA] at g1; cases g1
    | some a =>
     cases hK:qAr l hKid L with
     | none=>rw [hK] at g2; cases g2
     | some k =>
      rw [hA,hK] at hg hv;rw [hA] at l1;rw [hK] at l2;have hta:(l.getD (memI (some a)).toNat (ET.dft .node)).text=txtF l (some a):=rfl;have htk:(l.getD (memI (some k)).toNat (ET.dft .node)).text=txtF l (some k):=rfl;by_cases hz0:qD3 (txtF l (some a))=0
      ·rw [if_pos hz0] at hv;rw [hv,closed_good hlt l1 l2 l3 (by show qAe 0; unfold qAe; omega) hg,hta,if_pos hz0];exact congrArg some (sameH_no 111)
      ·rw [if_neg hz0] at hv;obtain ⟨q1,q2,q3⟩:=algS_of hz0;rw [hv,closed_good hlt l1 l2 l3 (by show qAe ((qD3 (txtF l (some a)):Nat):Int); unfold qAe; omega) hg,hta,htk,if_neg hz0];congr 1
       rw [decide_eq_true_eq];refine ⟨rfl,rfl,q1,rfl,?_,?_⟩
       ·cases hT:qAr l hTyp L with
        | none=>rfl
        | some p=>exact (deT (show (0:Int)≤(p:Int) by omega)).symm
       ·cases hT:qAr l hTyp L with
        | none=>rw [if_pos (by show (-1:Int)<0; decide)]; rfl
        | some p=>rw [if_neg (by show ¬(p:Int)<0; omega)]; rfl
  rw [h1];dsimp only;rw [deT rfl,Bool.not_true,cnF,m1,obS,m2,obS,m3,obS,
   deF (show ¬(l.length:Int)=0 by omega),deF (show ¬(l.length:Int)≤memI (qAr l hAlg L) by omega),deF (show ¬(l.length:Int)≤memI (qAr l hKid L) by omega),deF (show ¬(l.length:Int)≤memI (qAr l hTyp L) by omega),Bool.or_self,Bool.or_self,Bool.or_self,cnF]
  cases hT:qAr l hTyp L with
  | none =>
   rw [hT] at key;rw [deF (by show ¬(0:Int) ≤ -1; decide),cnF,key 2 rfl,obS]
  | some p =>
   rw [hT] at key;rw [deT (by show (0:Int)≤(p:Int); omega),cnT,key 3 rfl,obS]
end Go.Proofs.YticplgndjpljiaaDoor
namespace Go.Eng
open Go.RowKit
set_option linter.unusedVariables false
theorem reach_of {x:Nat} (h:decide (x≤reachBytes)=true):x≤140737488351232:=by
 have h2:=of_decide_eq_true h;exact h2
theorem size_of_weights {H:Type} {P:Program} {T:TypeId} {s:BA} (h:∀x∈(DataW.lit (.string s.data.toList):DataW H).weights P T,x≤140737488351232):s.size≤140737488351232:=by
 have h2:=h s.data.toList.length (by simp only [DataW.weights]; exact List.mem_singleton.2 rfl);rw [Array.length_toList] at h2;exact h2
structure LowB (w w':World):Prop where
 os:w'.os=w.os
 output:w'.output=w.output
 size:w.heap.size≤w'.heap.size
 block:∀k,k<w.heap.size→w'.heap[k]?=w.heap[k]?
theorem lowB_of_stays {w w':World} (h:Stays (fun _=>False) w w'):LowB w w':=⟨h.os,h.output,h.size,fun k hk=>h.block k hk id⟩
theorem LowB.frame {W w':World} (h:LowB W w') (may:MemPlace→Prop):W.keptBut w' may:=by
 refine ⟨h.os,h.output,fun i hi=>?_⟩;rw [h.block i hi];split <;> simp_all
theorem LowB.same {W w':World} (h:LowB W w') {p:MemPlace} (hp:p.block<W.heap.size):W.sameAt w' p:=by
 cases p with
 | cell b o=>exact World.cell?_of_block (w:=W) (h.block b hp)
 | map b=>exact h.block b hp
theorem LowB.trod {H:Type} {enc:TypeId × Value→H} {P:Program} {t:TypeId} (hl:laidOutB P=true) (hr:P.readableRec t=true) (hrow:t<P.types.size) {W W':World} {v:Value} {d:DataW H} {ps:List MemPlace}
  (h:DataW.Trod enc P W 0 (fun _=>true) true t v d ps) (hb:LowB W W') (hlt:∀x∈ps,x.block<W.heap.size) :
  DataW.Trod enc P W' 0 (fun b=>decide (b<W.heap.size)) true t v d ps :=
 WideElems.Trod_stays hl hr hrow h (fun x hx=>hb.same (hlt x hx)) (fun x hx=>by simpa using hlt x hx)
theorem callS {P:Program} {f:Nat} {C:CS} (h:qAm P f C) {args:List SV} {v:SV} (hc:C args [] (SV × List SB) (fun v hp'=>some (v,hp'))=some (v,[])) (hs:args.all SV.shut=true) (hv:v.shut=true) (w:World) (ht:tabOK noX w) (vs:List Value) (hvs:args.map (SV.den fun _=>undef)=vs) :
  Calls P f vs.toArray w fun e w'=>e=.returned (v.den fun _=>undef)∧LowB w w':=by
 have:=h.2 args [] v [] hc (fun v hv=>SV.shut_lt (List.all_eq_true.1 hs v hv) _) noX w (fun _=>undef) (HpSat.nil _ _ ht _);rw [hvs] at this;exact this.mono fun e w' ⟨ρ',_,_,a,_,_,b⟩=>⟨by rw [a,SV.shut_den hv ρ' fun _=>undef],lowB_of_stays b⟩
end Go.Eng
namespace Go.Proofs
open Go.Shelf
shelf_lay Lays.n260 Nm 260 at Tryd as Tryd.laysSlow
end Go.Proofs
namespace Go.Proofs.YticplgndjpljiaaDoor
open Go.Eng Go.Shelf
set_option linter.unusedVariables false
theorem first_data:(Rows.laid_unicode_utf8_first:DataW Unit)=Lib.firstData:=by kernel_rfl
theorem accept_data:(Rows.laid_unicode_utf8_acceptRanges:DataW Unit)=Lib.acceptData:=by kernel_rfl
theorem cells_strs {H:Type} {enc:TypeId × Value→H} {P:Program} {w:World} {base:Nat} {sp:Nat→Bool} {held:Bool} {fuel:Nat} {t e:TypeId} {n:Nat} {cs:List Value} {zs:List (List UInt8)} {p:List MemPlace}
  (ht:P.underlying t=some (.array n e)) (he:P.underlying e=some .string) (hce:P.cellsOf e=1) (hct:P.cellsOf t=n)
  (h:DataW.trod enc P w base sp held fuel t cs=some (.agg (zs.map fun z=>.lit (.string z)),p)):cs=zs.map fun z=>Value.string ⟨z.toArray⟩:=by
 cases fuel with
 | zero=>simp [DataW.trod] at h
 | succ fuel =>
  simp only [DataW.trod,ht,hce,hct,Nat.mul_one] at h;split at h
  ·rename_i hl;obtain ⟨xs,hm,hx⟩:=Option.map_eq_some_iff.1 h;have hxs:xs.map (·.1)=zs.map fun z=>(DataW.lit (.string z):DataW H):=by
    have:=congrArg Prod.fst hx;simpa using this
   have hxl:xs.length=n:=by simpa using Lib.mapM_length hm
   have hzl:zs.length=n:=by
    have:=congrArg List.length hxs;simp at this;omega
   apply List.ext_getElem?;intro i;by_cases hi:i<n
   ·obtain ⟨b,hb,hf⟩:=Lib.mapM_at hm i i (by simp [hi]);obtain ⟨z,hc,rfl,_⟩:=DataW.trod_string he hf;have h1:cs[i]?=some (.string z):=by
     have:=congrArg (·[0]?) hc;simpa [List.getElem?_take,List.getElem?_drop] using this
    have h2:(xs.map (·.1))[i]?=some (DataW.lit (.string z.data.toList):DataW H):=by simp [hb]
    rw [hxs] at h2;simp only [List.getElem?_map,Option.map_eq_some_iff,DataW.lit.injEq,Lit.string.injEq] at h2;obtain ⟨z',hz',rfl⟩:=h2;simp only [h1,List.getElem?_map,hz',Option.map_some]
   ·rw [List.getElem?_eq_none (by omega),List.getElem?_eq_none (by simp; omega)]
  ·cases h
def namesZ:List (List UInt8):=[[],[72,83,50,53,54],[72,83,51,56,52],[72,83,53,49,50],[82,83,50,53,54],[82,83,51,56,52],[82,83,53,49,50],[80,83,50,53,54],[80,83,51,56,52],[80,83,53,49,50],[69,83,50,53,54],[69,83,51,56,52],[69,100,68,83,65]]
theorem names_cells {W:World} (h:Lib.VarReads Tryd.prog W "signet/keyset.names" Rows.laid_signet_keyset_names):∀k,k<13→W.cell? ⟨0,k,none⟩=some (.string (qEr k)):=by
 intro k hk;obtain ⟨g,t,cs,fuel,p,hg,hty,hvar,hd⟩:=h;have hg':Tryd.prog.globalNamed "signet/keyset.names" = some 0:=by kernel_rfl
 obtain rfl:=Option.some.inj (hg'.symm.trans hg);have hty':(Tryd.prog.globals[0]?).map (·.type)=some 91:=by kernel_rfl
 obtain rfl:=Option.some.inj (hty'.symm.trans hty);have hcs:=cells_strs (n:=13) (e:=9) (zs:=namesZ) (by kernel_rfl) (by kernel_rfl) (by kernel_rfl) (by kernel_rfl) hd;rw [World.var?_cell hg hvar k,←Array.getElem?_toList,hcs];match k,hk with
 | 0,_ | 1,_ | 2,_ | 3,_ | 4,_ | 5,_ | 6,_ | 7,_ | 8,_ | 9,_ | 10,_ | 11,_ | 12,_=>rfl
theorem utf8N_tabs {W:World} (h3:Lib.VarReads Tryd.prog W "unicode/utf8.first" Rows.laid_unicode_utf8_first) (h4:Lib.VarReads Tryd.prog W "unicode/utf8.acceptRanges" Rows.laid_unicode_utf8_acceptRanges) (h5:Lib.VarReads Tryd.prog W "signet/keyset.names" Rows.laid_signet_keyset_names):tabOK noX W:=by
 rw [first_data] at h3;rw [accept_data] at h4;exact ⟨utf8Tabs_of_reads Tryd.laysSlow ⟨by kernel_rfl,by kernel_rfl,by kernel_rfl,by kernel_rfl,by kernel_rfl,by kernel_rfl,by kernel_rfl⟩ h3 h4,names_cells h5,fun h=>h,fun h=>h,fun h=>h⟩
end Go.Proofs.YticplgndjpljiaaDoor
namespace Go.Proofs.YticplgndjpljiaaDoor
open Go.Eng
set_option linter.unusedVariables false
set_option linter.unusedSimpArgs false
theorem headerClosed_tabs {W:World} (h:laidMetH Tryd.prog Rows.headerClosedRow.laid W):tabOK noX W:=by
 have h':laidMet Tryd.prog Rows.headerClosedRow.laid W:=h;exact utf8N_tabs (Lib.laidMet.reads h' (List.mem_cons_of_mem _ (List.mem_cons_of_mem _ List.mem_cons_self))) (Lib.laidMet.reads h' List.mem_cons_self) (Lib.laidMet.reads h' (List.mem_cons_of_mem _ List.mem_cons_self))
theorem headerClosed_walk (s0:BA) (W:World) (h0:s0.size≤140737488351232) (hT:tabOK noX W):Calls Tryd.prog 7 #[.string s0] W fun e w'=>e=.returned (.bool true)∧LowB W w':=by
 refine callS zbr_val (args:=[.c (.o (.val (.string s0)))]) (v:=.c (.o (.val (.bool true)))) ?_ rfl rfl W hT [.string s0] rfl;show ((zbr_s s0).bind fun r=>some ((.c (.o (.val (.bool r))),[]):SV × List SB))=_;rw [headerClosed_plain s0];rfl
end Go.Proofs.YticplgndjpljiaaDoor
