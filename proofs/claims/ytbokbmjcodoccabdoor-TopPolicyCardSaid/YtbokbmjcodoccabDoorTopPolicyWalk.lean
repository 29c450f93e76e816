/-
  Texts of a claim.
-/
import Derived.Below
import Derived.Carry
import Derived.Lib.LaidU8
import Derived.Shelf.Lay
import Derived.Ground.NamesProg
import Derived.Test.YtbokbmjcodoccabDoorPTreeS
import Derived.Test.YtbokbmjcodoccabDoorJW
import Derived.Test.YtbokbmjcodoccabDoorProg
import Derived.Test.YtbokbmjcodoccabDoorRows
set_option linter.unusedSimpArgs false
set_option linter.unusedVariables false
namespace Go.Proofs.YtbokbmjcodoccabDoor
open Go.Eng
noncomputable def subP(l:List Eng.Node)(p:Nat):List Nat:=((zag_s l (p:Int)).getD []).map Int.toNat
structure Sub (l:List Eng.Node) (p:Nat):Prop where
 lt:p<l.length
 j:zag_s l (p:Int)=some (upN (subP l p))
 src:∃nd e,l[p]?=some nd/\0<=nd.kids/\Trees l nd.kids.toNat (p+1) e/\qFs l nd.kids.toNat (p+1) (subP l p) e
 inn:∀q∈subP l p,q<l.length
 len:(subP l p).length<=2000000
theorem Sub.kidsR{l:List Eng.Node}{p:Nat}(h:Sub l p)(hl:l.length<=2000000):zbp_s l (p:Int)=some (upN (subP l p)):=by
 obtain⟨nd,e,h1,h2,h3,hL⟩:=h.src;exact r_kids hl h1 h2 h3 hL
theorem upN_back(L:List Nat):(upN L).map Int.toNat=L:=by
 unfold upN;rw[List.map_map];exact(List.map_congr_left λa _=>Int.toNat_natCast a).trans (List.map_id L)
theorem upN_at(pre post:List Nat)(p:Nat):(upN (pre++p::post)).getD pre.length (ET.dft .i64)=(p:Int):=by
 unfold upN;rw[List.getD_eq_getElem?_getD,List.getElem?_map,List.getElem?_append_right (Nat.le_refl _),Nat.sub_self];rfl
theorem places_tree{v:List Eng.Node}:∀ {k a e:Nat} {L:List Nat},qFs v k a L e->∀p∈L,∃e',Tree v p e'
 | 0,a,e,L,h,p,hp=>by rw[h.1] at hp;cases hp
 | k+1,a,e,L,h,p,hp=>by
  obtain⟨b,r,rfl,g1,g2⟩:=h;rcases List.mem_cons.1 hp with rfl | hp
  ·exact⟨b,g1⟩
  ·exact places_tree g2 p hp
theorem sub_of{l:List Eng.Node}(hok:OkL l){p e:Nat}(h:Tree l p e):Sub l p/\∀q∈subP l p,∃e',Tree l q e':=by
 obtain⟨nd,h1,h2,h3⟩:=h.node;obtain⟨L,hL⟩:=h3.places;have hlen:=hL.len;have hlt:=(List.getElem?_eq_some_iff.1 h1).1;have h4:=hok.1;have hj:=j_kids hok.1 h1 h2 h3 hL;have e1:subP l p=L:=by
  unfold subP;rw[hj];exact upN_back L
 exact⟨⟨hlt,by rw[e1];exact hj,⟨nd,_,h1,h2,h3,by rw[e1];exact hL⟩,by rw[e1];exact places_in hL,by rw[e1];have:=h3.le;omega⟩,by rw[e1];exact places_tree hL⟩
def tX(l:List Eng.Node)(p:Nat):BA:=(l.getD p (ET.dft .node)).text
def strB(l:List Eng.Node)(p:Nat):Bool:=decide ((l.getD p (ET.dft .node)).kind=5)
noncomputable def textsV(l:List Eng.Node)(p:Nat):Option (List BA):=if(l.getD p (ET.dft .node)).kind=6/\(subP l p).all (strB l)=true then some ((subP l p).map (tX l)) else none
theorem texts_p{l:List Eng.Node}{L:List Nat}(hL:L.length<=2000000)(hin:∀q∈L,q<l.length) :
  ∀(post pre:List Nat) (A:List BA),L=pre++post->A.length=pre.length->zbf_p0 ((upN L).length:Int) (pre.length:Int) l A (upN L)=some (if post.all (strB l)=true then .inr (A++post.map (tX l)) else .inl (false,[]))
 | [],pre,A,h,hA=>by
  unfold zbf_p0;refine qAf ?_;unfold qEa;rw[qG1,deF (by rw[h,List.append_nil];omega),cnF,if_pos (by rfl),List.map_nil,List.append_nil]
 | p::post,pre,A,h,hA=>by
  have hlen:L.length=pre.length+(post.length+1):=by rw[h,List.length_append,List.length_cons]
  have hp:=hin p (by rw[h];exact List.mem_append_right _ List.mem_cons_self);have hat:(upN L).getD pre.length (ET.dft .i64)=(p:Int):=by rw[h];exact upN_at pre post p
  by_cases hk:(l.getD p (ET.dft .node)).kind=5
  ·have ih:=texts_p hL hin post (pre++[p]) (A++[tX l p]) (by rw[h];simp) (by simp[hA]);have hs:strB l p=true:=deT hk;rw[List.all_cons,hs,Bool.true_and,List.map_cons,show A++tX l p::post.map (tX l)=(A++[tX l p])++post.map (tX l) from by simp,<-ih];unfold zbf_p0;refine qAm (y:=((((pre++[p]).length:Nat):Int),A++[tX l p])) ?_;unfold qEa;dsimp only;rw[qG1,deT (by omega),cnT,qAa (by omega),Int.toNat_natCast,qAa (by omega),hat,Int.toNat_natCast,qAa (by omega),qAa (by omega),qAa (by omega),deT hk,Bool.not_true,cnF,qAa (by omega),qAa (by omega),qAa (by omega),qAa (by rw[List.length_singleton];omega)];refine(qAa (by unfold qAc;omega) _).trans ?_;rw[List.length_append];rfl
  ·have hs:strB l p=false:=deF hk;rw[List.all_cons,hs,Bool.false_and,if_neg (by decide)];unfold zbf_p0;refine qAf ?_;unfold qEa;dsimp only;rw[qG1,deT (by omega),cnT,qAa (by omega),Int.toNat_natCast,qAa (by omega),hat,Int.toNat_natCast,qAa (by omega),qAa (by omega),qAa (by omega),deF hk,Bool.not_false,cnT]
theorem texts_r{l:List Eng.Node}{L:List Nat}(hL:L.length<=2000000)(hin:∀q∈L,q<l.length) :
  ∀(post pre:List Nat) (A:List BA),L=pre++post->A.length=pre.length->zbj_p0 (pre.length:Int) l A (upN L)=some (if post.all (strB l)=true then .inr (A++post.map (tX l)) else .inl (false,[]))
 | [],pre,A,h,hA=>by
  unfold zbj_p0;refine qAf ?_;unfold qEc;rw[qG1,deF (by rw[h,List.append_nil];omega),cnF,if_pos (by rfl),List.map_nil,List.append_nil]
 | p::post,pre,A,h,hA=>by
  have hlen:L.length=pre.length+(post.length+1):=by rw[h,List.length_append,List.length_cons]
  have hp:=hin p (by rw[h];exact List.mem_append_right _ List.mem_cons_self);have hat:(upN L).getD pre.length (ET.dft .i64)=(p:Int):=by rw[h];exact upN_at pre post p
  by_cases hk:(l.getD p (ET.dft .node)).kind=5
  ·have ih:=texts_r hL hin post (pre++[p]) (A++[tX l p]) (by rw[h];simp) (by simp[hA]);have hs:strB l p=true:=deT hk;rw[List.all_cons,hs,Bool.true_and,List.map_cons,show A++tX l p::post.map (tX l)=(A++[tX l p])++post.map (tX l) from by simp,<-ih];unfold zbj_p0;refine qAm (y:=((((pre++[p]).length:Nat):Int),A++[tX l p])) ?_;unfold qEc;dsimp only;rw[qG1,deT (by omega),cnT,qAa (by omega),Int.toNat_natCast,qAa (by omega),hat,Int.toNat_natCast,qAa (by omega),qAa (by omega),qAa (by omega),deT hk,Bool.not_true,cnF,qAa (by omega),qAa (by omega),qAa (by omega),qAa (by omega),qAa (by omega),qAa (by rw[List.length_singleton];omega)];refine(qAa (by unfold qAc;omega) _).trans ?_;rw[List.length_append];rfl
  ·have hs:strB l p=false:=deF hk;rw[List.all_cons,hs,Bool.false_and,if_neg (by decide)];unfold zbj_p0;refine qAf ?_;unfold qEc;dsimp only;rw[qG1,deT (by omega),cnT,qAa (by omega),Int.toNat_natCast,qAa (by omega),hat,Int.toNat_natCast,qAa (by omega),qAa (by omega),qAa (by omega),deF hk,Bool.not_false,cnT]
def ansT:Option (List BA)->List BA × Bool
 | some A=>(A,true)
 | none=>([],false)
section
variable {l:List Eng.Node} {p:Nat} (hp:Sub l p)
include hp
theorem p_texts:zbf_s l (p:Int)=some (ansT (textsV l p)):=by
 have hlt:=hp.lt;unfold zbf_s textsV;rw[qAa (by omega),Int.toNat_natCast,qAa (by omega),qAa (by omega)];by_cases h6:(l.getD p (ET.dft .node)).kind=6
 ·have hlp:=texts_p hp.len hp.inn (subP l p) [] [] rfl rfl;rw[show((([]:List Nat).length:Nat):Int)=0 from rfl] at hlp;rw[deT h6,Bool.not_true,cnF,hp.j,obS,hlp,obS];by_cases ha:(subP l p).all (strB l)=true
  ·rw[if_pos ha,if_pos ⟨h6,ha⟩];rfl
  ·rw[if_neg ha,if_neg (λh=>ha h.2)];rfl
 ·rw[deF h6,Bool.not_false,cnT,if_neg (λh=>h6 h.1)];rfl
theorem r_texts(hl:l.length<=2000000):zbj_s l (p:Int)=some (ansT (textsV l p)):=by
 have hlt:=hp.lt;unfold zbj_s textsV;rw[qAa (by omega),Int.toNat_natCast,qAa (by omega),qAa (by omega)];by_cases h6:(l.getD p (ET.dft .node)).kind=6
 ·have hlp:=texts_r hp.len hp.inn (subP l p) [] [] rfl rfl;rw[show((([]:List Nat).length:Nat):Int)=0 from rfl] at hlp;rw[deT h6,Bool.not_true,cnF,hp.kidsR hl,obS,hlp,obS];by_cases ha:(subP l p).all (strB l)=true
  ·rw[if_pos ha,if_pos ⟨h6,ha⟩];rfl
  ·rw[if_neg ha,if_neg (λh=>ha h.2)];rfl
 ·rw[deF h6,Bool.not_false,cnT,if_neg (λh=>h6 h.1)];rfl
theorem textsV_len{A:List BA}(h:textsV l p=some A):A.length<=2000000:=by
 unfold textsV at h;split at h
 ·cases h;rw[List.length_map];exact hp.len
 ·cases h
end
def kAlgs:BA:=⟨#[97,108,103,115]⟩
def kNeed:BA:=⟨#[110,101,101,100]⟩
def kIss:BA:=⟨#[105,115,115]⟩
def kAud:BA:=⟨#[97,117,100]⟩
def kTyp:BA:=⟨#[116,121,112]⟩
def kLee:BA:=⟨#[108,101,101,119,97,121]⟩
def leeB(n:Eng.Node):Bool:=((decide (n.kind=4) && n.whole) && decide (0<=n.int)) && decide (n.int<=600)
noncomputable def polS(l:List Eng.Node)(p:Nat)(P:qHw):Option qHw :=
 let n:=l.getD p (ET.dft .node)
 if n.key=kAlgs then(textsV l p).map λA=>⟨A,P.iss,P.hasIss,P.aud,P.hasAud,P.typ,P.hasTyp,P.leeway,P.need⟩
 else if n.key=kNeed then(textsV l p).map λA=>⟨P.algs,P.iss,P.hasIss,P.aud,P.hasAud,P.typ,P.hasTyp,P.leeway,A⟩
 else if n.key=kIss then if n.kind=5 then some ⟨P.algs,n.text,true,P.aud,P.hasAud,P.typ,P.hasTyp,P.leeway,P.need⟩ else none
 else if n.key=kAud then if n.kind=5 then some ⟨P.algs,P.iss,P.hasIss,n.text,true,P.typ,P.hasTyp,P.leeway,P.need⟩ else none
 else if n.key=kTyp then if n.kind=5 then some ⟨P.algs,P.iss,P.hasIss,P.aud,P.hasAud,n.text,true,P.leeway,P.need⟩ else none
 else if n.key=kLee then if leeB n=true then some ⟨P.algs,P.iss,P.hasIss,P.aud,P.hasAud,P.typ,P.hasTyp,n.int,P.need⟩ else none
 else none
noncomputable def polL(l:List Eng.Node):List Nat->qHw->Option qHw
 | [],P=>some P
 | p::r,P=>(polS l p P).bind (polL l r)
def tupP(P:qHw):BA × Bool × BA × Bool × BA × Bool × Int × List BA × List BA:=(P.iss,P.hasIss,P.aud,P.hasAud,P.typ,P.hasTyp,P.leeway,P.algs,P.need)
def noP:qHw:=⟨[],⟨#[]⟩,false,⟨#[]⟩,false,⟨#[]⟩,false,0,[]⟩
theorem p_set{l:List Eng.Node}{p:Nat}(hp:Sub l p)(P:qHw):∃Q b,zbe_s P l (p:Int)=some (Q,b)/\polS l p P=if b=true then some Q else none:=by
 have hlt:=hp.lt;have ht:=p_texts hp;unfold zbe_s;rw[qAa (by omega),Int.toNat_natCast,qAa (by omega),qAa (by omega),qAa (by omega),qAa (by omega)];unfold zbe_p0 polS;dsimp only;generalize l.getD p (ET.dft .node)=n
 by_cases k1:n.key=kAlgs
 ·rw[deT (show n.key=⟨#[97,108,103,115]⟩ from k1),cnT,if_pos k1,ht];cases textsV l p <;> exact⟨_,_,rfl,rfl⟩
 rw[deF (show ¬n.key=⟨#[97,108,103,115]⟩ from k1),cnF,if_neg k1];by_cases k2:n.key=kNeed
 ·rw[deT (show n.key=⟨#[110,101,101,100]⟩ from k2),cnT,if_pos k2,ht];cases textsV l p <;> exact⟨_,_,rfl,rfl⟩
 rw[deF (show ¬n.key=⟨#[110,101,101,100]⟩ from k2),cnF,if_neg k2];by_cases k3:n.key=kIss
 ·rw[deT (show n.key=⟨#[105,115,115]⟩ from k3),cnT,if_pos k3];refine⟨_,_,rfl,?_⟩;by_cases h5:n.kind=5 <;> simp[h5]
 rw[deF (show ¬n.key=⟨#[105,115,115]⟩ from k3),cnF,if_neg k3];by_cases k4:n.key=kAud
 ·rw[deT (show n.key=⟨#[97,117,100]⟩ from k4),cnT,if_pos k4];refine⟨_,_,rfl,?_⟩;by_cases h5:n.kind=5 <;> simp[h5]
 rw[deF (show ¬n.key=⟨#[97,117,100]⟩ from k4),cnF,if_neg k4];by_cases k5:n.key=kTyp
 ·rw[deT (show n.key=⟨#[116,121,112]⟩ from k5),cnT,if_pos k5];refine⟨_,_,rfl,?_⟩;by_cases h5:n.kind=5 <;> simp[h5]
 rw[deF (show ¬n.key=⟨#[116,121,112]⟩ from k5),cnF,if_neg k5];by_cases k6:n.key=kLee
 ·rw[deT (show n.key=⟨#[108,101,101,119,97,121]⟩ from k6),cnT,if_pos k6];exact⟨_,_,rfl,rfl⟩
 rw[deF (show ¬n.key=⟨#[108,101,101,119,97,121]⟩ from k6),cnF,if_neg k6];exact⟨_,_,rfl,rfl⟩
abbrev BadT:=Int × BA × Bool × BA × Bool × BA × Bool × Int × List BA × List BA
def badV:BadT:=(12,⟨#[]⟩,false,⟨#[]⟩,false,⟨#[]⟩,false,0,[],[])
abbrev TupT:=BA × Bool × BA × Bool × BA × Bool × Int × List BA × List BA
def ansL:Option qHw->BadT ⊕ TupT
 | some Q=>.inr (tupP Q)
 | none=>.inl badV
def ansS(i:Int):Option qHw->(Int × TupT) ⊕ (BadT ⊕ TupT)
 | some Q=>.inl (i,tupP Q)
 | none=>.inr (.inl badV)
section
variable {l:List Eng.Node} {L:List Nat} (hl:l.length<=2000000) (hL:L.length<=2000000) (hin:∀q∈L,Sub l q)
include hl hL hin
set_option linter.unusedSectionVars false in
theorem p_step{pre post:List Nat}{p:Nat}(h:L=pre++p::post)(P:qHw):qD9 ((upN L).length:Int) (pre.length:Int) l P.iss P.hasIss P.aud P.hasAud P.typ P.hasTyp P.leeway (upN L) P.algs P.need=some (ansS ((pre.length:Int)+1) (polS l p P)):=by
 have hlen:L.length=pre.length+(post.length+1):=by rw[h,List.length_append,List.length_cons]
 have hp:=hin p (by rw[h];exact List.mem_append_right _ List.mem_cons_self);have hat:(upN L).getD pre.length (ET.dft .i64)=(p:Int):=by rw[h];exact upN_at pre post p
 obtain⟨Q,b,h1,h2⟩:=p_set hp P;have h1':zbe_s (⟨P.algs,P.iss,P.hasIss,P.aud,P.hasAud,P.typ,P.hasTyp,P.leeway,P.need⟩:qHw) l (p:Int)=some (Q,b):=h1;unfold qD9;rw[qG1,deT (by omega),cnT,qAa (by omega),Int.toNat_natCast,qAa (by omega),hat,h1',obS,h2];cases b with
 | true=>exact qAa (by unfold qAc;omega) _
 | false=>rfl
theorem r_step{pre post:List Nat}{p:Nat}(h:L=pre++p::post)(P:qHw):qEb (pre.length:Int) l P.iss P.hasIss P.aud P.hasAud P.typ P.hasTyp P.leeway (upN L) P.algs P.need=some (ansS ((pre.length:Int)+1) (polS l p P)):=by
 have hlen:L.length=pre.length+(post.length+1):=by rw[h,List.length_append,List.length_cons]
 have hp:=hin p (by rw[h];exact List.mem_append_right _ List.mem_cons_self);have hlt:=hp.lt;have hat:(upN L).getD pre.length (ET.dft .i64)=(p:Int):=by rw[h];exact upN_at pre post p
 have ht:=r_texts hp hl;have he:qAn (pre.length:Int) l (upN L)=l.getD p (ET.dft .node):=by
  unfold qAn;rw[Int.toNat_natCast,hat,Int.toNat_natCast]
 have hi:qAc ((pre.length:Int)+1):=by unfold qAc;omega
 unfold qEb;rw[qG1,deT (by omega),cnT,qAa (by omega),Int.toNat_natCast,qAa (by omega),hat,Int.toNat_natCast,qAa (by omega),qAa (by omega),he];unfold polS;dsimp only;generalize l.getD p (ET.dft .node)=n
 by_cases k1:n.key=kAlgs
 ·rw[deT (show n.key=⟨#[97,108,103,115]⟩ from k1),cnT,if_pos k1,qAa (by omega),qAa (by omega),ht];cases textsV l p with
  | none=>rfl
  | some A=>exact qAa hi _
 rw[deF (show ¬n.key=⟨#[97,108,103,115]⟩ from k1),cnF,if_neg k1];by_cases k2:n.key=kNeed
 ·rw[deT (show n.key=⟨#[110,101,101,100]⟩ from k2),cnT,if_pos k2,qAa (by omega),qAa (by omega),ht];cases textsV l p with
  | none=>rfl
  | some A=>exact qAa hi _
 rw[deF (show ¬n.key=⟨#[110,101,101,100]⟩ from k2),cnF,if_neg k2];by_cases k3:n.key=kIss
 ·rw[deT (show n.key=⟨#[105,115,115]⟩ from k3),cnT,if_pos k3];by_cases h5:n.kind=5
  ·rw[if_pos h5,deT h5];exact qAa hi _
  ·rw[if_neg h5,deF h5];rfl
 rw[deF (show ¬n.key=⟨#[105,115,115]⟩ from k3),cnF,if_neg k3];by_cases k4:n.key=kAud
 ·rw[deT (show n.key=⟨#[97,117,100]⟩ from k4),cnT,if_pos k4];by_cases h5:n.kind=5
  ·rw[if_pos h5,deT h5];exact qAa hi _
  ·rw[if_neg h5,deF h5];rfl
 rw[deF (show ¬n.key=⟨#[97,117,100]⟩ from k4),cnF,if_neg k4];by_cases k5:n.key=kTyp
 ·rw[deT (show n.key=⟨#[116,121,112]⟩ from k5),cnT,if_pos k5];by_cases h5:n.kind=5
  ·rw[if_pos h5,deT h5];exact qAa hi _
  ·rw[if_neg h5,deF h5];rfl
 rw[deF (show ¬n.key=⟨#[116,121,112]⟩ from k5),cnF,if_neg k5];by_cases k6:n.key=kLee
 ·rw[deT (show n.key=⟨#[108,101,101,119,97,121]⟩ from k6),cnT,if_pos k6];show((zbi_p1 (leeB n)).bind _)=_;by_cases h5:leeB n=true
  ·rw[if_pos h5,h5];exact qAa hi _
  ·rw[if_neg h5,Bool.eq_false_iff.2 h5];rfl
 rw[deF (show ¬n.key=⟨#[108,101,101,119,97,121]⟩ from k6),cnF,if_neg k6];rfl
theorem p_loop:∀(post pre:List Nat) (P:qHw),L=pre++post->zbd_p0 ((upN L).length:Int) (pre.length:Int) l P.iss P.hasIss P.aud P.hasAud P.typ P.hasTyp P.leeway (upN L) P.algs P.need=some (ansL (polL l post P))
 | [],pre,P,h=>by
  unfold zbd_p0;refine qAf ?_;unfold qD9;rw[qG1,deF (by rw[h,List.append_nil];omega),cnF];rfl
 | p::post,pre,P,h=>by
  have hs:=p_step hl hL hin h P;unfold polL;cases hq:polS l p P with
  | none =>
   rw[hq] at hs;exact qAf hs
  | some Q =>
   rw[hq] at hs;have ih:=p_loop post (pre++[p]) Q (by rw[h];simp);rw[obS,<-ih];refine(qAm hs).trans ?_;rw[List.length_append];rfl
theorem r_loop:∀(post pre:List Nat) (P:qHw),L=pre++post->zbi_p0 (pre.length:Int) l P.iss P.hasIss P.aud P.hasAud P.typ P.hasTyp P.leeway (upN L) P.algs P.need=some (ansL (polL l post P))
 | [],pre,P,h=>by
  unfold zbi_p0;refine qAf ?_;unfold qEb;rw[qG1,deF (by rw[h,List.append_nil];omega),cnF];rfl
 | p::post,pre,P,h=>by
  have hs:=r_step hl hL hin h P;unfold polL;cases hq:polS l p P with
  | none =>
   rw[hq] at hs;exact qAf hs
  | some Q =>
   rw[hq] at hs;have ih:=r_loop post (pre++[p]) Q (by rw[h];simp);rw[obS,<-ih];refine(qAm hs).trans ?_;rw[List.length_append];rfl
end
theorem polS_len{l:List Eng.Node}{p:Nat}(hp:Sub l p){P Q:qHw}(h:polS l p P=some Q)(h1:P.algs.length<=2000000)(h2:P.need.length<=2000000):Q.algs.length<=2000000/\Q.need.length<=2000000:=by
 unfold polS at h;dsimp only at h;split at h
 ·obtain⟨A,hA,rfl⟩:=Option.map_eq_some_iff.1 h;exact⟨textsV_len hp hA,h2⟩
 split at h
 ·obtain⟨A,hA,rfl⟩:=Option.map_eq_some_iff.1 h;exact⟨h1,textsV_len hp hA⟩
 split at h
 ·split at h <;> cases h
  exact⟨h1,h2⟩
 split at h
 ·split at h <;> cases h
  exact⟨h1,h2⟩
 split at h
 ·split at h <;> cases h
  exact⟨h1,h2⟩
 split at h
 ·split at h <;> cases h
  exact⟨h1,h2⟩
 ·cases h
theorem polL_len{l:List Eng.Node}:∀ {L:List Nat} {P Q:qHw},(∀q∈L,Sub l q)->polL l L P=some Q->P.algs.length<=2000000->P.need.length<=2000000->Q.algs.length<=2000000/\Q.need.length<=2000000
 | [],P,Q,hin,h,h1,h2=>by cases h;exact⟨h1,h2⟩
 | p::r,P,Q,hin,h,h1,h2=>by
  obtain⟨R,hR,hr⟩:=Option.bind_eq_some_iff.1 h;obtain⟨a,b⟩:=polS_len (hin p List.mem_cons_self) hR h1 h2;exact polL_len (λq hq=>hin q (List.mem_cons_of_mem _ hq)) hr a b
theorem policy_both(t:BA):∃P c,zbd_s t=some (P,c)/\zbi_s t=some (P,c)/\P.algs.length<=2000000/\P.need.length<=2000000:=by
 unfold zbd_s zbi_s;rw[p_Parse,r_Parse,obS,obS];rcases parseR_cases t with⟨l,h1,hs,h2,hne,hll,hT,hz⟩ | ⟨c,b,h1,hc⟩
 ·rw[h1];have hlt:0<l.length:=List.length_pos_iff.2 hne;dsimp only;rw[deT rfl,Bool.not_true,cnF,cnF,qAa (by omega),qAa (by omega),qAa (by omega),qAa (by omega),qAa (by omega),qAa (by omega)];rw[show Int.toNat 0=0 from rfl];by_cases h7:(l.getD 0 (ET.dft .node)).kind=7
  ·have hok:OkL l:=⟨by omega,λn hn=>(hz n hn).okN (by omega)⟩;obtain⟨h0,hin⟩:=sub_of hok hT;have hin:∀q∈subP l 0,Sub l q:=λq hq=>by
    obtain⟨e,he⟩:=hin q hq;exact(sub_of hok he).1
   have k1:=h0.j;have k2:=h0.kidsR hok.1;rw[show((0:Nat):Int)=0 from rfl] at k1 k2;have l1:=p_loop hok.1 h0.len hin (subP l 0) [] noP rfl;have l2:=r_loop hok.1 h0.len hin (subP l 0) [] noP rfl;have l1':zbd_p0 ((upN (subP l 0)).length:Int) 0 l (⟨#[]⟩:BA) false (⟨#[]⟩:BA) false (⟨#[]⟩:BA) false (0:Int) (upN (subP l 0)) [] []=_:=l1;have l2':zbi_p0 0 l (⟨#[]⟩:BA) false (⟨#[]⟩:BA) false (⟨#[]⟩:BA) false (0:Int) (upN (subP l 0)) [] []=_:=l2;rw[deT h7,Bool.not_true,cnF,cnF,k1,k2,obS,obS,l1',l2'];simp only[obS];cases hq:polL l (subP l 0) noP with
   | none=>exact⟨noP,12,rfl,rfl,Nat.zero_le _,Nat.zero_le _⟩
   | some Q =>
    obtain⟨a,b⟩:=polL_len hin hq (Nat.zero_le _) (Nat.zero_le _);exact⟨Q,0,rfl,rfl,a,b⟩
  ·rw[deF h7,Bool.not_false,cnT,cnT];exact⟨noP,12,rfl,rfl,Nat.zero_le _,Nat.zero_le _⟩
 ·rw[h1];dsimp only;rw[deF hc,Bool.not_false,cnT,cnT];exact⟨noP,c,rfl,rfl,Nat.zero_le _,Nat.zero_le _⟩
theorem texts_loop(l:List BA)(hl:l.length<=4000000):∀(j i:Nat),i+j=l.length->zbh_p0 (i:Int) l l=some (.inr ())
 | 0,i,h=>by
  unfold zbh_p0;refine qAf ?_;unfold qF2;rw[deF (by omega),cnF]
 | j+1,i,h=>by
  have ih:=texts_loop l hl j (i+1) (by omega);unfold zbh_p0 at ih ⊢;rw[qAm (y:=((i+1:Nat):Int)) ?_,ih];unfold qF2;rw[deT (by omega),cnT,qAa (by omega),qAa (by omega),qAa (by omega),qAa (by omega)];simp only[decide_true,Bool.not_true,cnF];exact qAa (by unfold qAc;omega) _
theorem texts_self(l:List BA)(hl:l.length<=4000000):zbh_s l l=some true:=by
 have:=texts_loop l hl l.length 0 (by omega);rw[show((0:Nat):Int)=0 from rfl] at this;unfold zbh_s;rw[deT rfl,Bool.not_true,cnF,this];rfl
theorem policy_self(P:qHw)(h1:P.algs.length<=2000000)(h2:P.need.length<=2000000):zbg_s P P=some true:=by
 unfold zbg_s;rw[texts_self _ (by omega),obS,cnT,texts_self _ (by omega),obS];simp
theorem fill_loop{m:BA}{step:Int × List BA->Option ((Int × List BA) ⊕ List BA)}{N:Nat}(h1:∀(k:Nat) (l:List BA),l.length=N->k<N->step ((k:Int),l)=some (.inl ((k:Int)+1,l.set k m)))(h2:∀l:List BA,l.length=N->step ((N:Int),l)=some (.inr l)) :
  ∀(j k:Nat) (l:List BA),k+j=N->l.length=N->(∀i,i<k->l[i]?=some m)->qAr step ((k:Int),l)=some (List.replicate N m)
 | 0,k,l,hk,hl,hm=>by
  obtain rfl:k=N:=by omega
  rw[qAf (h2 l hl)];congr 1
  refine List.eq_replicate_iff.2 ⟨hl,λb hb=>?_⟩;obtain⟨i,hi,rfl⟩:=List.mem_iff_getElem.1 hb;have:=hm i (by omega);rw[List.getElem?_eq_getElem hi] at this;exact Option.some.inj this
 | j+1,k,l,hk,hl,hm=>by
  rw[qAm (h1 k l hl (by omega))];refine fill_loop h1 h2 j (k+1) (l.set k m) (by omega) (by rw[List.length_set];exact hl) λi hi=>?_
  rw[List.getElem?_set];split
  ·rename_i e;rw[if_pos (by omega)]
  ·exact hm i (by omega)
theorem grow_loop{m:BA}{step:Int × List BA->Option ((Int × List BA) ⊕ List BA)}(h1:∀(k:Nat) (l:List BA),l.length<=3000000->k<70->step ((k:Int),l)=some (.inl ((k:Int)+1,l++[m])))(h2:∀l:List BA,step (((70:Nat):Int),l)=some (.inr l)) :
  ∀(j k:Nat) (l:List BA),k+j=70->l.length+j<=3000000->qAr step ((k:Int),l)=some (l++List.replicate j m)
 | 0,k,l,hk,hl=>by
  obtain rfl:k=70:=by omega
  rw[qAf (h2 l)];simp
 | j+1,k,l,hk,hl=>by
  rw[qAm (h1 k l (by omega) (by omega))];refine(grow_loop h1 h2 j (k+1) (l++[m]) (by omega) (by simp;omega)).trans ?_;rw[List.replicate_succ,List.append_assoc];rfl
theorem qG7{step:Int->Option (Int ⊕ (Bool ⊕ Unit))}{N:Nat}(h1:∀k:Nat,k<N->step (k:Int)=some (.inl ((k:Int)+1)))(h2:step (N:Int)=some (.inr (.inr ()))) :
  ∀(j k:Nat),k+j=N->qAr step (k:Int)=some (.inr ())
 | 0,k,hk=>by
  obtain rfl:k=N:=by omega
  exact qAf h2
 | j+1,k,hk=>by
  rw[qAm (h1 k (by omega))];exact qG7 h1 h2 j (k+1) (by omega)
def mkL:List BA:=[⟨#[103,111,110,101,32,97]⟩,⟨#[103,111,110,101,32,98]⟩,⟨#[103,111,110,101,32,99]⟩,⟨#[103,111,110,101,32,100]⟩]
theorem rep_at(n k:Nat)(m:BA)(h:k<n):(List.replicate n m).getD k (ET.dft .str)=m:=by
 rw[List.getD_eq_getElem?_getD,List.getElem?_replicate,if_pos h];rfl
theorem cmp_cond{n k:Nat}{m:BA}(h:k<n+70):((!decide ((List.replicate (n+70) m).getD k (ET.dft .str)=m)) || (decide ((k:Int)<(((List.replicate (n+70) m).take n).length:Int)) && !decide (((List.replicate (n+70) m).take n).getD k (ET.dft .str)=m)))=false:=by
 rw[rep_at _ _ _ h,deT rfl,Bool.not_true,Bool.false_or,List.take_replicate,Nat.min_eq_left (by omega),List.length_replicate];by_cases hk:k<n
 ·rw[rep_at _ _ _ hk,deT (p:=m=m) rfl,Bool.not_true,Bool.and_false]
 ·rw[deF (by omega),Bool.false_and]
def mk0:BA:=(mkL.getD (Int.toNat ((0:Int) % (4:Int))) (ET.dft .str))
theorem fill0(l:List BA)(hn:l.length<=2000000):zcj_p0 (0:Int) l mkL=some (List.replicate l.length mk0):=by
 unfold zcj_p0;refine fill_loop (N:=l.length) (m:=mk0) (λk l' hl hk=>?_) (λl' hl=>?_) l.length 0 l (by omega) rfl (λi hi=>by omega)
 ·dsimp only;unfold qF8;rw[qAa (by omega),deT (by omega),cnT,qAa (by omega),qAa (by omega),qAa (by decide),qAa (by decide),qAa (by omega),Int.toNat_natCast,qAa (by omega)];exact qAa (by unfold qAc;omega) _
 ·dsimp only;unfold qF8;rw[qAa (by omega),deF (by omega),cnF]
theorem grow0(n:Nat)(hn:n<=2000000):zcj_p4 (0:Int) mkL (List.replicate n mk0)=some (List.replicate (n+70) mk0):=by
 unfold zcj_p4;refine(grow_loop (m:=mk0) (λk l' hl hk=>?_) (λl'=>?_) 70 0 (List.replicate n mk0) (by omega) (by simp;omega)).trans (by rw[List.replicate_append_replicate])
 ·dsimp only;unfold qGc;rw[deT (by omega),cnT,qAa (by omega),qAa (by decide),qAa (by decide),qAa (by rw[List.length_singleton];omega)];exact qAa (by unfold qAc;omega) _
 ·dsimp only;unfold qGc;rw[deF (by omega),cnF]
theorem cmp0(n:Nat)(hn:n<=2000000):zcj_p8 (0:Int) mkL (List.replicate (n+70) mk0) n=some (.inr ()):=by
 unfold zcj_p8;refine qG7 (N:=n+70) (λk hk=>?_) ?_ (n+70) 0 (by omega)
 ·have hc:=cmp_cond (n:=n) (m:=mk0) hk;unfold mk0 at hc ⊢;unfold qGg;rw[qAa (by omega),List.length_replicate,deT (by omega),cnT,qAa (by omega),qAa (by omega),Int.toNat_natCast,qAa (by omega),qAa (by omega),qAa (by decide),qAa (by decide),
   qAa (λ_=>by omega),qAa (λ_ _=>by omega),qAa (λh _=>by have:=of_decide_eq_true h;omega),qAa (λh _=>by have:=of_decide_eq_true h;omega),qAa (λ_ _=>by omega),qAa (λ_ _=>by decide),qAa (λ_ _=>by decide),hc,cnF]
  exact qAa (by unfold qAc;omega) _
 ·unfold qGg;rw[qAa (by omega),List.length_replicate,deF (by omega),cnF]
def mk1:BA:=(mkL.getD (Int.toNat (((0:Int)+(1:Int)) % (4:Int))) (ET.dft .str))
theorem fill1(l:List BA)(hn:l.length<=2000000):zcj_p1 (0:Int) l mkL=some (List.replicate l.length mk1):=by
 unfold zcj_p1;refine fill_loop (N:=l.length) (m:=mk1) (λk l' hl hk=>?_) (λl' hl=>?_) l.length 0 l (by omega) rfl (λi hi=>by omega)
 ·dsimp only;unfold qF9;rw[qAa (by omega),deT (by omega),cnT,qAa (by omega),qAa (by omega),qAa (by decide),qAa (by decide),qAa (by omega),Int.toNat_natCast,qAa (by omega)];exact qAa (by unfold qAc;omega) _
 ·dsimp only;unfold qF9;rw[qAa (by omega),deF (by omega),cnF]
theorem grow1(n:Nat)(hn:n<=2000000):zcj_p5 (0:Int) mkL (List.replicate n mk1)=some (List.replicate (n+70) mk1):=by
 unfold zcj_p5;refine(grow_loop (m:=mk1) (λk l' hl hk=>?_) (λl'=>?_) 70 0 (List.replicate n mk1) (by omega) (by simp;omega)).trans (by rw[List.replicate_append_replicate])
 ·dsimp only;unfold qGd;rw[deT (by omega),cnT,qAa (by omega),qAa (by decide),qAa (by decide),qAa (by rw[List.length_singleton];omega)];exact qAa (by unfold qAc;omega) _
 ·dsimp only;unfold qGd;rw[deF (by omega),cnF]
theorem cmp1(n:Nat)(hn:n<=2000000):zcj_p9 (0:Int) mkL (List.replicate (n+70) mk1) n=some (.inr ()):=by
 unfold zcj_p9;refine qG7 (N:=n+70) (λk hk=>?_) ?_ (n+70) 0 (by omega)
 ·have hc:=cmp_cond (n:=n) (m:=mk1) hk;unfold mk1 at hc ⊢;unfold qGh;rw[qAa (by omega),List.length_replicate,deT (by omega),cnT,qAa (by omega),qAa (by omega),Int.toNat_natCast,qAa (by omega),qAa (by omega),qAa (by decide),qAa (by decide),
   qAa (λ_=>by omega),qAa (λ_ _=>by omega),qAa (λh _=>by have:=of_decide_eq_true h;omega),qAa (λh _=>by have:=of_decide_eq_true h;omega),qAa (λ_ _=>by omega),qAa (λ_ _=>by decide),qAa (λ_ _=>by decide),hc,cnF]
  exact qAa (by unfold qAc;omega) _
 ·unfold qGh;rw[qAa (by omega),List.length_replicate,deF (by omega),cnF]
def mk2:BA:=(mkL.getD (Int.toNat ((((0:Int)+(1:Int))+(1:Int)) % (4:Int))) (ET.dft .str))
theorem fill2(l:List BA)(hn:l.length<=2000000):zcj_p2 (0:Int) l mkL=some (List.replicate l.length mk2):=by
 unfold zcj_p2;refine fill_loop (N:=l.length) (m:=mk2) (λk l' hl hk=>?_) (λl' hl=>?_) l.length 0 l (by omega) rfl (λi hi=>by omega)
 ·dsimp only;unfold qGa;rw[qAa (by omega),deT (by omega),cnT,qAa (by omega),qAa (by omega),qAa (by decide),qAa (by decide),qAa (by omega),Int.toNat_natCast,qAa (by omega)];exact qAa (by unfold qAc;omega) _
 ·dsimp only;unfold qGa;rw[qAa (by omega),deF (by omega),cnF]
theorem grow2(n:Nat)(hn:n<=2000000):zcj_p6 (0:Int) mkL (List.replicate n mk2)=some (List.replicate (n+70) mk2):=by
 unfold zcj_p6;refine(grow_loop (m:=mk2) (λk l' hl hk=>?_) (λl'=>?_) 70 0 (List.replicate n mk2) (by omega) (by simp;omega)).trans (by rw[List.replicate_append_replicate])
 ·dsimp only;unfold qGe;rw[deT (by omega),cnT,qAa (by omega),qAa (by decide),qAa (by decide),qAa (by rw[List.length_singleton];omega)];exact qAa (by unfold qAc;omega) _
 ·dsimp only;unfold qGe;rw[deF (by omega),cnF]
theorem cmp2(n:Nat)(hn:n<=2000000):zcj_p10 (0:Int) mkL (List.replicate (n+70) mk2) n=some (.inr ()):=by
 unfold zcj_p10;refine qG7 (N:=n+70) (λk hk=>?_) ?_ (n+70) 0 (by omega)
 ·have hc:=cmp_cond (n:=n) (m:=mk2) hk;unfold mk2 at hc ⊢;unfold qEx;rw[qAa (by omega),List.length_replicate,deT (by omega),cnT,qAa (by omega),qAa (by omega),Int.toNat_natCast,qAa (by omega),qAa (by omega),qAa (by decide),qAa (by decide),
   qAa (λ_=>by omega),qAa (λ_ _=>by omega),qAa (λh _=>by have:=of_decide_eq_true h;omega),qAa (λh _=>by have:=of_decide_eq_true h;omega),qAa (λ_ _=>by omega),qAa (λ_ _=>by decide),qAa (λ_ _=>by decide),hc,cnF]
  exact qAa (by unfold qAc;omega) _
 ·unfold qEx;rw[qAa (by omega),List.length_replicate,deF (by omega),cnF]
def mk3:BA:=(mkL.getD (Int.toNat (((((0:Int)+(1:Int))+(1:Int))+(1:Int)) % (4:Int))) (ET.dft .str))
theorem fill3(l:List BA)(hn:l.length<=2000000):zcj_p3 (0:Int) l mkL=some (List.replicate l.length mk3):=by
 unfold zcj_p3;refine fill_loop (N:=l.length) (m:=mk3) (λk l' hl hk=>?_) (λl' hl=>?_) l.length 0 l (by omega) rfl (λi hi=>by omega)
 ·dsimp only;unfold qGb;rw[qAa (by omega),deT (by omega),cnT,qAa (by omega),qAa (by omega),qAa (by decide),qAa (by decide),qAa (by omega),Int.toNat_natCast,qAa (by omega)];exact qAa (by unfold qAc;omega) _
 ·dsimp only;unfold qGb;rw[qAa (by omega),deF (by omega),cnF]
theorem grow3(n:Nat)(hn:n<=2000000):zcj_p7 (0:Int) mkL (List.replicate n mk3)=some (List.replicate (n+70) mk3):=by
 unfold zcj_p7;refine(grow_loop (m:=mk3) (λk l' hl hk=>?_) (λl'=>?_) 70 0 (List.replicate n mk3) (by omega) (by simp;omega)).trans (by rw[List.replicate_append_replicate])
 ·dsimp only;unfold qGf;rw[deT (by omega),cnT,qAa (by omega),qAa (by decide),qAa (by decide),qAa (by rw[List.length_singleton];omega)];exact qAa (by unfold qAc;omega) _
 ·dsimp only;unfold qGf;rw[deF (by omega),cnF]
theorem cmp3(n:Nat)(hn:n<=2000000):zcj_p11 (0:Int) mkL (List.replicate (n+70) mk3) n=some (.inr ()):=by
 unfold zcj_p11;refine qG7 (N:=n+70) (λk hk=>?_) ?_ (n+70) 0 (by omega)
 ·have hc:=cmp_cond (n:=n) (m:=mk3) hk;unfold mk3 at hc ⊢;unfold qEy;rw[qAa (by omega),List.length_replicate,deT (by omega),cnT,qAa (by omega),qAa (by omega),Int.toNat_natCast,qAa (by omega),qAa (by omega),qAa (by decide),qAa (by decide),
   qAa (λ_=>by omega),qAa (λ_ _=>by omega),qAa (λh _=>by have:=of_decide_eq_true h;omega),qAa (λh _=>by have:=of_decide_eq_true h;omega),qAa (λ_ _=>by omega),qAa (λ_ _=>by decide),qAa (λ_ _=>by decide),hc,cnF]
  exact qAa (by unfold qAc;omega) _
 ·unfold qEy;rw[qAa (by omega),List.length_replicate,deF (by omega),cnF]
theorem apart_true(l0 l1 l2 l3:List BA)(h0:l0.length<=2000000)(h1:l1.length<=2000000)(h2:l2.length<=2000000)(h3:l3.length<=2000000):zcj_s l0 l1 l2 l3=some true:=by
 unfold zcj_s;have f0:=fill0 l0 h0;have f1:=fill1 l1 h1;have f2:=fill2 l2 h2;have f3:=fill3 l3 h3;have g0:=grow0 l0.length h0;have g1:=grow1 l1.length h1;have g2:=grow2 l2.length h2;have g3:=grow3 l3.length h3;have c0:=cmp0 l0.length h0;have c1:=cmp1 l1.length h1;have c2:=cmp2 l2.length h2;have c3:=cmp3 l3.length h3;unfold mkL at f0 f1 f2 f3 g0 g1 g2 g3 c0 c1 c2 c3;rw[f0,obS,qAa (by unfold qAc;omega),f1,obS,qAa (by unfold qAc;omega),f2,obS,qAa (by unfold qAc;omega),f3,obS,qAa (by unfold qAc;omega),qAa (by omega),
  g0,obS,qAa (by omega),qAa (by unfold qAc;omega),qAa (by omega),g1,obS,qAa (by omega),qAa (by unfold qAc;omega),qAa (by omega),g2,obS,qAa (by omega),qAa (by unfold qAc;omega),qAa (by omega),g3,obS,qAa (by omega),qAa (by unfold qAc;omega),
  List.length_replicate,List.length_replicate,List.length_replicate,List.length_replicate,c0,obS,Sum.elim_inr,qAa (by unfold qAc;omega),c1,obS,Sum.elim_inr,qAa (by unfold qAc;omega),c2,obS,Sum.elim_inr,qAa (by unfold qAc;omega),c3,obS,Sum.elim_inr,qAa (by unfold qAc;omega)]
theorem topPolicy_plain(t:BA):zci_s t=some true:=by
 obtain⟨P,c,h1,h2,h3,h4⟩:=policy_both t;unfold zci_s;rw[h1,h2,obS,obS,deT rfl,Bool.not_true,cnF,policy_self P h3 h4,obS,Bool.not_true,cnF,obS];dsimp only;rw[deT rfl,Bool.not_true,cnF,policy_self P h3 h4,obS,Bool.not_true,cnF,apart_true _ _ _ _ h3 h4 h3 h4,obS,Bool.not_true,cnF,obS];dsimp only;rw[deT rfl,cnT,policy_self P h3 h4,obS]
end Go.Proofs.YtbokbmjcodoccabDoor
namespace Go.Eng
open Go.RowKit
theorem reach_of{x:Nat}(h:decide (x<=reachBytes)=true):x<=140737488351232:=by
 have h2:=of_decide_eq_true h;exact h2
theorem size_of_weights{H:Type}{P:Program}{T:TypeId}{s:BA}(h:∀x∈(DataW.lit (.string s.data.toList):DataW H).weights P T,x<=140737488351232):s.size<=140737488351232:=by
 have h2:=h s.data.toList.length (by simp only[DataW.weights];exact List.mem_singleton.2 rfl);rw[Array.length_toList] at h2;exact h2
structure LowB (w w':World):Prop where
 os:w'.os=w.os
 output:w'.output=w.output
 size:w.heap.size<=w'.heap.size
 block:∀k,k<w.heap.size->w'.heap[k]?=w.heap[k]?
theorem lowB_of_stays{w w':World}(h:Stays (λ_=>False) w w'):LowB w w':=⟨h.os,h.output,h.size,λk hk=>h.block k hk id⟩
theorem LowB.frame{W w':World}(h:LowB W w')(may:MemPlace->Prop):W.keptBut w' may:=by
 refine⟨h.os,h.output,λi hi=>?_⟩;rw[h.block i hi];split <;> simp_all
theorem LowB.same{W w':World}(h:LowB W w'){p:MemPlace}(hp:p.block<W.heap.size):W.sameAt w' p:=by
 cases p with
 | cell b o=>exact World.cell?_of_block (w:=W) (h.block b hp)
 | map b=>exact h.block b hp
theorem LowB.trod{H:Type}{enc:TypeId × Value->H}{P:Program}{t:TypeId}(hl:laidOutB P=true)(hr:P.readableRec t=true)(hrow:t<P.types.size){W W':World}{v:Value}{d:DataW H}{ps:List MemPlace}
  (h:DataW.Trod enc P W 0 (λ_=>true) true t v d ps) (hb:LowB W W') (hlt:∀x∈ps,x.block<W.heap.size) :
  DataW.Trod enc P W' 0 (λb=>decide (b<W.heap.size)) true t v d ps :=
 WideElems.Trod_stays hl hr hrow h (λx hx=>hb.same (hlt x hx)) (λx hx=>by simpa using hlt x hx)
theorem callS{P:Program}{f:Nat}{C:CS}(h:qAi P f C){args:List SV}{v:SV}(hc:C args [] (SV × List SB) (λv hp'=>some (v,hp'))=some (v,[]))(hs:args.all SV.shut=true)(hv:v.shut=true)(w:World)(ht:tabOK noX w)(vs:List Value)(hvs:args.map (SV.den λ_=>undef)=vs) :
  Calls P f vs.toArray w λe w'=>e=.returned (v.den λ_=>undef)/\LowB w w':=by
 have:=h.2 args [] v [] hc (λv hv=>SV.shut_lt (List.all_eq_true.1 hs v hv) _) noX w (λ_=>undef) (HpSat.nil _ _ ht _);rw[hvs] at this;exact this.mono λe w' ⟨Z',_,_,a,_,_,b⟩=>⟨by rw[a,SV.shut_den hv Z' λ_=>undef],lowB_of_stays b⟩
end Go.Eng
namespace Go.Proofs
open Go.Shelf
shelf_lay Lays.n260 Nm 260 at Tryd as Tryd.laysSlow
end Go.Proofs
namespace Go.Proofs.YtbokbmjcodoccabDoor
open Go.Eng Go.Shelf
theorem first_data:(Rows.laid_unicode_utf8_first:DataW Unit)=Lib.firstData:=by kernel_rfl
theorem accept_data:(Rows.laid_unicode_utf8_acceptRanges:DataW Unit)=Lib.acceptData:=by kernel_rfl
theorem utf8_tabs{W:World}(h3:Lib.VarReads Tryd.prog W "unicode/utf8.first" Rows.laid_unicode_utf8_first)(h4:Lib.VarReads Tryd.prog W "unicode/utf8.acceptRanges" Rows.laid_unicode_utf8_acceptRanges):tabOK noX W:=by
 rw[first_data] at h3;rw[accept_data] at h4;exact⟨utf8Tabs_of_reads Tryd.laysSlow ⟨by kernel_rfl,by kernel_rfl,by kernel_rfl,by kernel_rfl,by kernel_rfl,by kernel_rfl,by kernel_rfl⟩ h3 h4,λh=>h,λh=>h⟩
end Go.Proofs.YtbokbmjcodoccabDoor
namespace Go.Proofs.YtbokbmjcodoccabDoor
open Go.Eng
theorem topPolicy_tabs{W:World}(h:laidMetH Tryd.prog Rows.topPolicyRow.laid W):tabOK noX W:=by
 have h':laidMet Tryd.prog Rows.topPolicyRow.laid W:=h;exact utf8_tabs (Lib.laidMet.reads h' (List.mem_cons_of_mem _ List.mem_cons_self)) (Lib.laidMet.reads h' List.mem_cons_self)
theorem topPolicy_walk(s0:BA)(W:World)(h0:s0.size<=140737488351232)(hT:tabOK noX W):Calls Tryd.prog 3 #[.string s0] W λe w'=>e=.returned (.bool true)/\LowB W w':=by
 refine callS zci_val (args:=[.c (.o (.val (.string s0)))]) (v:=.c (.o (.val (.bool true)))) ?_ rfl rfl W hT [.string s0] rfl;show((zci_s s0).bind λr=>some ((.c (.o (.val (.bool r))),[]):SV × List SB))=_;rw[topPolicy_plain s0];rfl
end Go.Proofs.YtbokbmjcodoccabDoor
