/-
  signet/keyset.Name: its word (the names lie in a package variable).
-/
import Derived.WalkKit
import Derived.BigQuiet
import Derived.Test.YtngikdcgcakaaaaDoorPShaped
import Derived.Test.YtngikdcgcakaaaaDoorProg
namespace Go.Proofs.YtngikdcgcakaaaaDoor
open Go.Eng
set_option linter.unusedVariables false
set_option linter.unusedSimpArgs false
theorem w64_id{x:Int}(h:qAd x):w64 x=x:=by
 unfold qAd at h;unfold w64 IntKind.wrap;simp[IntKind.signed,IntKind.bits];omega
def jbF(v:List Eng.Node):Nat->Int->Nat->Nat
 | 0,_,a=>a
 | f+1,left,a=>if 0<left/\a<v.length then jbF v f (w64 (left+w64 ((v.getD a (ET.dft .node)).kids - 1))) (a+1) else a
theorem jbF_le(v:List Eng.Node):∀(f:Nat) (left:Int) (a:Nat),a<=jbF v f left a/\(a<=v.length->jbF v f left a<=v.length)
 | 0,_,a=>⟨Nat.le_refl _,λh=>h⟩
 | f+1,left,a=>by
  unfold jbF;split
  ·rename_i h;obtain⟨h1,h2⟩:=jbF_le v f (w64 (left+w64 ((v.getD a (ET.dft .node)).kids - 1))) (a+1);exact⟨by omega,λ_=>h2 (by omega)⟩
  ·exact⟨Nat.le_refl _,λh=>h⟩
theorem p_jb(v:List Eng.Node)(hv:v.length<=2000000):∀(f:Nat) (left:Int) (a:Nat),v.length - a<=f->zaa_p0 (a:Int) left v=some (jbF v f left a:Int)
 | 0,left,a,h=>by
  unfold zaa_p0;refine qAf ?_;unfold qC3;dsimp only;rw[deF (show ¬(a:Int)<v.length by omega),Bool.and_false,cnF];rfl
 | f+1,left,a,h=>by
  unfold jbF;by_cases hc:0<left/\a<v.length
  ·rw[if_pos hc];have ih:=p_jb v hv f (w64 (left+w64 ((v.getD a (ET.dft .node)).kids - 1))) (a+1) (by omega);unfold zaa_p0 at ih ⊢;rw[qAo (y:=(((a+1:Nat):Int),w64 (left+w64 ((v.getD a (ET.dft .node)).kids - 1)))) ?_]
   ·exact ih
   ·unfold qC3;dsimp only;rw[deT hc.1,deT (show(a:Int)<v.length by omega),Bool.and_self,cnT,qAa (by omega),qAa (by omega),qAa (by omega),qAa (by unfold qAd;omega)];rfl
  ·rw[if_neg hc];unfold zaa_p0;refine qAf ?_;unfold qC3;dsimp only;have:(decide (0<left) && decide ((a:Int)<v.length))=false:=by
    rw[Bool.and_eq_false_iff,decide_eq_false_iff_not,decide_eq_false_iff_not];omega
   rw[this,cnF]
theorem p_jBehind(v:List Eng.Node)(hv:v.length<=2000000){a:Nat}(ha:a<v.length):zaa_s v (a:Int)=some (jbF v (v.length - a) 1 a:Int):=by
 unfold zaa_s;rw[deF (show ¬(a:Int)<0 by omega),deF (show ¬(v.length:Int)<=a by omega),Bool.or_self,cnF,p_jb v hv (v.length - a) 1 a (Nat.le_refl _)];rfl
theorem p_jBehind_out(v:List Eng.Node){a:Int}(ha:a<0\/(v.length:Int)<=a):zaa_s v a=some (-1):=by
 unfold zaa_s;have:(decide (a<0) || decide ((v.length:Int)<=a))=true:=by
  rw[Bool.or_eq_true,decide_eq_true_eq,decide_eq_true_eq];exact ha
 rw[this,cnT]
theorem jbF_trees{v:List Eng.Node}(hv:v.length<=2000000){k a e:Nat}(h:Trees v k a e):∀(L:Nat),L+e<=4000000->jbF v (v.length - a) ((L+k:Nat):Int) a=jbF v (v.length - e) (L:Int) e:=by
 induction h with
 | nil a ha=>intro L hL;rfl
 | @cons k a b e n hn h0 h1 h2 i1 i2 =>
  intro L hL;have ha:=(List.getElem?_eq_some_iff.1 hn).1;have l1:=h1.le;have l2:=h2.le;obtain⟨m,hm⟩:=Int.eq_ofNat_of_zero_le h0;have hmn:n.kids.toNat=m:=by omega
  rw[hmn] at i1 l1;have ih1:=i1 (L+k) (by omega);rw[i2 L hL] at ih1;rw[<-ih1,show v.length - a=(v.length - (a+1))+1 by omega];conv=>lhs;unfold jbF
  rw[if_pos ⟨by omega,ha⟩,nd_get hn,hm,w64_id (x:=(m:Int) - 1) (by unfold qAd;omega),w64_id (by unfold qAd;omega)];congr 1
  omega
theorem jBehind_tree{v:List Eng.Node}(hv:v.length<=2000000){a e:Nat}(h:Tree v a e):zaa_s v (a:Int)=some (e:Int):=by
 have hl:=Trees.le h;rw[p_jBehind v hv (by omega)];have:=jbF_trees hv h 0 (by omega);rw[show((0+1:Nat):Int)=1 from rfl] at this;rw[this];congr 1
 cases hf:v.length - e with
 | zero=>rfl
 | succ f =>
  unfold jbF;rw[if_neg (λh=>by have:=h.1;simp at this)]
theorem jBehind_some(v:List Eng.Node)(hv:v.length<=2000000)(a:Nat):∃r:Int,zaa_s v (a:Int)=some r/\(a<v.length->∃b:Nat,r=b/\a<b/\b<=v.length) /\ -1<=r/\r<=2000000:=by
 by_cases ha:a<v.length
 ·obtain⟨h1,h2⟩:=jbF_le v (v.length - a) 1 a;have h3:=h2 (by omega);refine⟨_,p_jBehind v hv ha,λ_=>⟨_,rfl,?_,h3⟩,by omega,by omega⟩;rw[show v.length - a=(v.length - (a+1))+1 by omega];unfold jbF;rw[if_pos ⟨by omega,ha⟩];have:=(jbF_le v (v.length - (a+1)) (w64 (1+w64 ((v.getD a (ET.dft .node)).kids - 1))) (a+1)).1;omega
 ·exact⟨-1,p_jBehind_out v (.inr (by omega)),λh=>(ha h).elim,by omega,by omega⟩
theorem rb_loop{v:List Eng.Node}(hv:v.length<=2000000){a:Nat}(ha:a<v.length){kids:Nat}(hk:(v.getD a (ET.dft .node)).kids=kids)(hkb:kids<=4000000){self:List Eng.Node->Int->Option Int}(hself:∀b e:Nat,a<b->Tree v b e->self v (b:Int)=some (e:Int)) :
  ∀(k i next e:Nat),i+k=kids->a<next->Trees v k next e->zat_p0 self (a:Int) (next:Int) (i:Int) v=some (e:Int)
 | 0,i,next,e,h1,h2,h=>by
  have:=h.zero;subst this;unfold zat_p0;refine qAf ?_;unfold qEg;dsimp only;rw[qAa (by omega),qAa (by omega),qAa (by omega),Int.toNat_natCast,hk,deF (show ¬(i:Int)<kids by omega),Bool.false_and,cnF]
 | k+1,i,next,e,h1,h2,h=>by
  obtain⟨b,g1,g2⟩:=h.one;have l1:=Trees.le g1;have l3:=h.le;have ih:=rb_loop hv ha hk hkb hself k (i+1) b e (by omega) (by omega) g2;unfold zat_p0 at ih ⊢;rw[qAo (y:=((b:Int),((i+1:Nat):Int))) ?_]
  ·exact ih
  ·unfold qEg;dsimp only;rw[qAa (by omega),qAa (by omega),qAa (by omega),Int.toNat_natCast,hk,deT (show(i:Int)<kids by omega),deT (show(0:Int)<=next by omega),Bool.and_self,cnT,hself next b h2 g1,obS];exact(qAa (by unfold qAd;omega) _).trans rfl
theorem rb_all{v:List Eng.Node}(hv:v.length<=2000000):∀(m a e:Nat),v.length - a<=m->Tree v a e->∀n,m<n->zat_n n v (a:Int)=some (e:Int)
 | 0,a,e,h,ht,n,hn=>by
  have:=Trees.le ht;omega
 | m+1,a,e,h,ht,n,hn=>by
  obtain⟨nd,h1,h2,h3⟩:=ht.node;have ha:=(List.getElem?_eq_some_iff.1 h1).1;have l3:=h3.le;obtain⟨kk,hkk⟩:=Int.eq_ofNat_of_zero_le h2;rw[hkk,Int.toNat_natCast] at h3 l3;cases n with
  | zero=>omega
  | succ n =>
   show zat_t (zat_n n) v a=_;unfold zat_t;rw[deF (show ¬(a:Int)<0 by omega),deF (show ¬(v.length:Int)<=a by omega),Bool.or_self,cnF,qAa (by unfold qAd;omega)];have:=rb_loop hv ha (kids:=kk) (by rw[nd_get h1,hkk]) (by omega) (self:=zat_n n) (λb e' hb hb2=>rb_all hv m b e' (by omega) hb2 n (by omega)) kk 0 (a+1) e (by omega) (by omega) h3;rw[show((a+1:Nat):Int)=(a:Int)+1 by omega,show((0:Nat):Int)=0 from rfl] at this;rw[this];rfl
theorem rBehind_tree{v:List Eng.Node}(hv:v.length<=2000000){a e:Nat}(h:Tree v a e):zat_s v (a:Int)=some (e:Int) :=
 evt_eq (N:=v.length+1) λn hn=>rb_all hv v.length a e (by omega) h n (by omega)
def upN(l:List Nat):List Int:=l.map λx:Nat=>(x:Int)
theorem upN_len(l:List Nat):(upN l).length=l.length:=by simp[upN]
theorem r_kids_loop{v:List Eng.Node}(hv:v.length<=2000000){a:Nat}(ha:a<v.length){kids:Nat}(hk:(v.getD a (ET.dft .node)).kids=kids)(hkb:kids<=4000000) :
  ∀(k i next e:Nat) (l:List Nat) (out:List Int),i+k=kids->out.length=i->Trees v k next e->placesT v k next l e->zav_p0 (a:Int) (next:Int) (i:Int) v out=some (out++upN l)
 | 0,i,next,e,l,out,h1,ho,h,hp=>by
  obtain⟨rfl,rfl⟩:=hp;unfold zav_p0;refine qAf ?_;unfold qEh;dsimp only;rw[qAa (by omega),qAa (by omega),qAa (by omega),Int.toNat_natCast,hk,deF (show ¬(i:Int)<kids by omega),Bool.false_and,Bool.false_and,cnF];simp[upN]
 | k+1,i,next,e,l,out,h1,ho,h,hp=>by
  obtain⟨b,r,rfl,g1,g3⟩:=hp;obtain⟨b',g1',g2⟩:=h.one;have:=Trees.det g1 g1';subst this;have l1:=Trees.le g1;have ih:=r_kids_loop hv ha hk hkb k (i+1) b e r (out++[(next:Int)]) (by omega) (by simp[ho]) g2 g3;unfold zav_p0 at ih ⊢;rw[qAo (y:=((b:Int),((i+1:Nat):Int),out++[(next:Int)])) ?_]
  ·rw[ih];simp[upN]
  ·unfold qEh;dsimp only;rw[qAa (by omega),qAa (by omega),qAa (by omega),Int.toNat_natCast,hk,deT (show(i:Int)<kids by omega),deT (show(0:Int)<=next by omega),deT (show(next:Int)<v.length by omega),Bool.and_self,Bool.and_self,cnT];rw[qAa (by simp only[List.length_singleton,ho];omega),rBehind_tree hv g1,obS];exact(qAa (by unfold qAd;omega) _).trans rfl
theorem r_kids{v:List Eng.Node}(hv:v.length<=2000000){a e:Nat}{nd:Eng.Node}(h1:v[a]?=some nd)(h2:0<=nd.kids)(h3:Trees v nd.kids.toNat (a+1) e){l:List Nat}(hl:placesT v nd.kids.toNat (a+1) l e):zav_s v (a:Int)=some (upN l):=by
 have ha:=(List.getElem?_eq_some_iff.1 h1).1;have l3:=h3.le;obtain⟨kk,hkk⟩:=Int.eq_ofNat_of_zero_le h2;rw[hkk,Int.toNat_natCast] at h3 l3 hl;unfold zav_s;rw[deF (show ¬(a:Int)<0 by omega),deF (show ¬(v.length:Int)<=a by omega),Bool.or_self,cnF,qAa (by unfold qAd;omega)];have:=r_kids_loop hv ha (kids:=kk) (by rw[nd_get h1,hkk]) (by omega) kk 0 (a+1) e l [] (by omega) rfl h3 hl;rw[show((a+1:Nat):Int)=(a:Int)+1 by omega,show((0:Nat):Int)=0 from rfl] at this;rw[this];rfl
def findK(v:List Eng.Node)(key:BA):List Nat->Option Nat
 | []=>none
 | p::r=>if(v.getD p (ET.dft .node)).key=key then some p else findK v key r
theorem j_mem_loop{v:List Eng.Node}(hv:v.length<=2000000){a:Nat}(ha:a<v.length){kids:Nat}(hk:(v.getD a (ET.dft .node)).kids=kids)(hkb:kids<=4000000)(key:BA) :
  ∀(k i next e:Nat) (l:List Nat),i+k=kids->Trees v k next e->placesT v k next l e->zab_p0 (a:Int) key (next:Int) (i:Int) v=some (match findK v key l with | some p=>.inl (p:Int) | none=>.inr ())
 | 0,i,next,e,l,h1,h,hp=>by
  obtain⟨rfl,rfl⟩:=hp;unfold zab_p0;refine qAf ?_;unfold qBk;dsimp only;rw[qAa (by omega),qAa (by omega),qAa (by omega),Int.toNat_natCast,hk,deF (show ¬(i:Int)<kids by omega),Bool.false_and,Bool.false_and,cnF];rfl
 | k+1,i,next,e,l,h1,h,hp=>by
  obtain⟨b,r,rfl,g1,g3⟩:=hp;obtain⟨b',g1',g2⟩:=h.one;have:=Trees.det g1 g1';subst this;have l1:=Trees.le g1;have ih:=j_mem_loop hv ha hk hkb key k (i+1) b e r (by omega) g2 g3;unfold findK;by_cases hkey:(v.getD next (ET.dft .node)).key=key
  ·rw[if_pos hkey];unfold zab_p0;refine qAf ?_;unfold qBk;dsimp only;rw[qAa (by omega),qAa (by omega),qAa (by omega),Int.toNat_natCast,hk,deT (show(i:Int)<kids by omega),deT (show(0:Int)<=next by omega),deT (show(next:Int)<v.length by omega),Bool.and_self,Bool.and_self,cnT];rw[qAa (by omega),qAa (by omega),qAa (by omega),Int.toNat_natCast,deT hkey,cnT]
  ·rw[if_neg hkey,<-ih];unfold zab_p0;rw[qAo (y:=((b:Int),((i+1:Nat):Int))) ?_];unfold qBk;dsimp only;rw[qAa (by omega),qAa (by omega),qAa (by omega),Int.toNat_natCast,hk,deT (show(i:Int)<kids by omega),deT (show(0:Int)<=next by omega),deT (show(next:Int)<v.length by omega),Bool.and_self,Bool.and_self,cnT];rw[qAa (by omega),qAa (by omega),qAa (by omega),Int.toNat_natCast,deF hkey,cnF,jBehind_tree hv g1,obS];exact(qAa (by unfold qAd;omega) _).trans rfl
theorem r_mem_loop{v:List Eng.Node}(hv:v.length<=2000000)(key:BA){L:List Nat}(hL:L.length<=4000000)(hin:∀p∈L,p<v.length) :
  ∀(pre l:List Nat),L=pre++l->zaw_p0 key (pre.length:Int) v (upN L)=some (match findK v key l with | some p=>.inl (p:Int) | none=>.inr ())
 | pre,[],h=>by
  unfold zaw_p0;refine qAf ?_;unfold qDa;rw[upN_len,deF (by rw[h];simp),cnF];rfl
 | pre,p::r,h=>by
  have ih:=r_mem_loop hv key hL hin (pre++[p]) r (by rw[h];simp);have hlt:pre.length<L.length:=by rw[h];simp
  have hget:(upN L).getD pre.length (ET.dft .i64)=(p:Int):=by
   rw[List.getD_eq_getElem?_getD];unfold upN;rw[List.getElem?_map,h,List.getElem?_append_right (Nat.le_refl _),Nat.sub_self];rfl
  have hp:=hin p (by rw[h];simp);unfold findK;by_cases hkey:(v.getD p (ET.dft .node)).key=key
  ·rw[if_pos hkey];unfold zaw_p0;refine qAf ?_;unfold qDa;rw[upN_len,deT (by omega),cnT,qAa (by omega),Int.toNat_natCast,qAa (by omega),hget,Int.toNat_natCast,qAa (by omega),qAa (by omega),qAa (by omega),deT hkey,cnT,qAa (by omega),qAa (by omega)]
  ·rw[if_neg hkey,<-ih];unfold zaw_p0;rw[qAo (y:=((pre++[p]).length:Int)) ?_];unfold qDa;rw[upN_len,deT (by omega),cnT,qAa (by omega),Int.toNat_natCast,qAa (by omega),hget,Int.toNat_natCast,qAa (by omega),qAa (by omega),qAa (by omega),deF hkey,cnF];refine(qAa (by unfold qAd;omega) _).trans ?_;rw[List.length_append];rfl
theorem places_in{v:List Eng.Node}:∀ {k a e:Nat} {l:List Nat},placesT v k a l e->∀p∈l,p<v.length
 | 0,a,e,l,h,p,hp=>by rw[h.1] at hp;cases hp
 | k+1,a,e,l,h,p,hp=>by
  obtain⟨b,r,rfl,g1,g2⟩:=h;rcases List.mem_cons.1 hp with rfl | hp
  ·have:=Trees.le g1;omega
  ·exact places_in g2 p hp
theorem member_tree{v:List Eng.Node}(hv:v.length<=2000000){a e:Nat}(h:Tree v a e)(key:BA):∃r,zab_s v (a:Int) key=some r/\zaw_s v (a:Int) key=some r /\ -1<=r/\r<v.length:=by
 obtain⟨nd,h1,h2,h3⟩:=h.node;have ha:=(List.getElem?_eq_some_iff.1 h1).1;have l3:=h3.le;obtain⟨l,hl⟩:=h3.places;have hkids:=r_kids hv h1 h2 h3 hl;have hlen:=hl.len;obtain⟨kk,hkk⟩:=Int.eq_ofNat_of_zero_le h2;rw[hkk,Int.toNat_natCast] at h3 l3 hl hlen;have hj:=j_mem_loop hv ha (kids:=kk) (by rw[nd_get h1,hkk]) (by omega) key kk 0 (a+1) e l (by omega) h3 hl;have hr:=r_mem_loop hv key (L:=l) (by omega) (places_in hl) [] l rfl;rw[show((a+1:Nat):Int)=(a:Int)+1 by omega,show((0:Nat):Int)=0 from rfl] at hj;rw[show(([]:List Nat).length:Int)=0 from rfl] at hr;have e1:(decide ((a:Int)<0) || decide ((v.length:Int)<=a))=false:=by
  rw[deF (show ¬(a:Int)<0 by omega),deF (show ¬(v.length:Int)<=a by omega)];rfl
 unfold zab_s zaw_s;rw[e1];simp only[Int.toNat_natCast];rw[qAa (λ_=>by omega),qAa (λ_=>by omega),qAa (λ_=>by omega),qAa (λ_=>by omega),qAa (λ_=>by omega),qAa (λ_=>by omega),Bool.false_or];by_cases h7:(v.getD a (ET.dft .node)).kind=7
 ·rw[deT h7,Bool.not_true,cnF,cnF,qAa (by unfold qAd;omega),hj,obS,hkids,obS,hr,obS];cases hf:findK v key l with
  | none=>exact⟨-1,rfl,rfl,by omega,by omega⟩
  | some p =>
   refine⟨(p:Int),rfl,rfl,by omega,?_⟩;have:p∈l:=by
    clear hj hr hl hkids hlen;induction l with
    | nil=>cases hf
    | cons q r ih =>
     unfold findK at hf;split at hf
     ·cases hf;exact List.mem_cons_self
     ·exact List.mem_cons_of_mem _ (ih hf)
   have:=places_in hl p this;omega
 ·rw[deF h7,Bool.not_false,cnT,cnT];exact⟨-1,rfl,rfl,by omega,by omega⟩
theorem member_out{v:List Eng.Node}{a:Int}(ha:a<0\/(v.length:Int)<=a)(key:BA):zab_s v a key=some (-1)/\zaw_s v a key=some (-1):=by
 have e1:(decide (a<0) || decide ((v.length:Int)<=a))=true:=by
  rw[Bool.or_eq_true,decide_eq_true_eq,decide_eq_true_eq];exact ha
 unfold zab_s zaw_s;rw[e1];rw[qAa (λh=>by cases h),qAa (λh=>by cases h),qAa (λh=>by cases h),qAa (λh=>by cases h),qAa (λh=>by cases h),qAa (λh=>by cases h),Bool.true_or,cnT,cnT];exact⟨rfl,rfl⟩
theorem j_member_lt(v:List Eng.Node)(hv:v.length<=2000000)(a:Int)(key:BA):∃r,zab_s v a key=some r/\r<v.length:=by
 by_cases ha:a<0\/(v.length:Int)<=a
 ·exact⟨_,(member_out ha key).1,by omega⟩
 ·obtain⟨b,rfl⟩:=Int.eq_ofNat_of_zero_le (show 0<=a by omega);have loop:∀(m next i:Nat),v.length - next<=m->i<=next->next<=v.length->∃r,zab_p0 (b:Int) key (next:Int) (i:Int) v=some r/\∀q,r=.inl q->q<v.length:=by
   intro m;induction m with
   | zero =>
    intro next i h1 h3 h4;refine⟨.inr (),?_,λq hq=>by cases hq⟩;unfold zab_p0;refine qAf ?_;unfold qBk;dsimp only;rw[qAa (by omega),qAa (by omega),qAa (by omega),deF (show ¬(next:Int)<v.length by omega),Bool.and_false,cnF]
   | succ m ih =>
    intro next i h1 h3 h4;cases hc:((decide ((i:Int)<(v.getD (Int.toNat (b:Int)) (ET.dft .node)).kids) && decide ((0:Int)<=next)) && decide ((next:Int)<v.length)) with
    | false =>
     refine⟨.inr (),?_,λq hq=>by cases hq⟩;unfold zab_p0;refine qAf ?_;unfold qBk;dsimp only;rw[qAa (by omega),qAa (by omega),qAa (by omega),hc,cnF]
    | true =>
     have hlt:next<v.length:=by
      rw[Bool.and_eq_true] at hc;have:=of_decide_eq_true hc.2;omega
     by_cases hkey:(v.getD (Int.toNat (next:Int)) (ET.dft .node)).key=key
     ·refine⟨.inl (next:Int),?_,λq hq=>by cases hq;omega⟩;unfold zab_p0;refine qAf ?_;unfold qBk;dsimp only;rw[qAa (by omega),qAa (by omega),qAa (by omega),hc,cnT,qAa (by omega),qAa (by omega),qAa (by omega),deT hkey,cnT]
     ·obtain⟨r,r1,r2,_⟩:=jBehind_some v hv next;obtain⟨c,rfl,c1,c2⟩:=r2 hlt;obtain⟨y,hy,hyl⟩:=ih c (i+1) (by omega) (by omega) c2;refine⟨y,?_,hyl⟩;unfold zab_p0 at hy ⊢;rw[qAo (y:=((c:Int),((i+1:Nat):Int))) ?_]
      ·exact hy
      ·unfold qBk;dsimp only;rw[qAa (by omega),qAa (by omega),qAa (by omega),hc,cnT,qAa (by omega),qAa (by omega),qAa (by omega),deF hkey,cnF,r1,obS];exact(qAa (by unfold qAd;omega) _).trans rfl
  obtain⟨r,hr,hrl⟩:=loop v.length (b+1) 0 (by omega) (by omega) (by omega);rw[show((b+1:Nat):Int)=(b:Int)+1 by omega,show((0:Nat):Int)=0 from rfl] at hr;unfold zab_s;rw[qAa (λ_=>by omega),qAa (λ_=>by omega),qAa (λ_=>by omega)];cases ((decide ((b:Int)<0) || decide ((v.length:Int)<=b)) || (!decide ((v.getD (Int.toNat (b:Int)) (ET.dft .node)).kind=7))) with
  | true=>exact⟨_,rfl,by omega⟩
  | false =>
   rw[cnF,qAa (by unfold qAd;omega),hr,obS];cases r with
   | inl q=>exact⟨_,rfl,hrl q rfl⟩
   | inr u=>exact⟨_,rfl,by omega⟩
theorem by_trim:∀(m:Nat) (o:List Int),o.length=m->m<=100000->∃k,k<=m/\zau_p1 o=some (o.take k)/\(0<k->0<o.getD (k - 1) (ET.dft .i64))
 | 0,o,h,hm=>by
  refine⟨0,by omega,?_,λh=>by omega⟩;have:o=[]:=List.eq_nil_of_length_eq_zero h;subst this;unfold zau_p1;refine qAf ?_;unfold qC9;rw[qAa (λh=>by simp at h),qAa (λh=>by simp at h),qAa (λh=>by simp at h)];rfl
 | m+1,o,h,hm=>by
  have hlen:Int.toNat ((o.length:Int) - 1)=m:=by omega
  by_cases hc:o.getD m (ET.dft .i64)<=0
  ·obtain⟨k,k1,k2,k3⟩:=by_trim m (o.take m) (by rw[List.length_take];omega) (by omega);refine⟨k,by omega,?_,λhk=>?_⟩
   ·unfold zau_p1 at k2 ⊢;rw[qAo (y:=o.take m) ?_,k2,List.take_take,Nat.min_eq_left k1];unfold qC9;rw[qAa (λ_=>by unfold qAd;omega),qAa (λ_=>by omega),qAa (λ_=>by omega),hlen,deT (show(0:Int)<o.length by omega),deT hc,Bool.and_self,cnT,qAa (by unfold qAd;omega),qAa (by omega)]
   ·have:=k3 hk;rw[List.getD_eq_getElem?_getD,List.getElem?_take_of_lt (by omega)] at this;rw[List.getD_eq_getElem?_getD];exact this
  ·refine⟨m+1,Nat.le_refl _,?_,λ_=>by rw[Nat.add_sub_cancel];omega⟩;rw[List.take_of_length_le (by omega)];unfold zau_p1;refine qAf ?_;unfold qC9;rw[qAa (λ_=>by unfold qAd;omega),qAa (λ_=>by omega),qAa (λ_=>by omega),hlen,deF hc,Bool.and_false,cnF]
theorem getD_mem{o:List Int}{k:Nat}(h:k<o.length):o.getD k (ET.dft .i64)∈o:=by
 rw[List.getD_eq_getElem?_getD,List.getElem?_eq_getElem h];exact List.getElem_mem h
theorem by_loop{v:List Eng.Node}(hv:OkL v):∀(j i:Nat) (o:List Int),i+j=v.length->o.length<=65536->(∀x∈o,qAd x)->∃y,zau_p0 (i:Int) v o=some y
 | 0,i,o,h,ho,hi=>by
  refine⟨.inr (),?_⟩;unfold zau_p0;refine qAf ?_;unfold qC8;dsimp only;rw[deF (by omega),cnF]
 | j+1,i,o,h,ho,hi=>by
  have hlen:=hv.1;obtain⟨k,k1,k2,k3⟩:=by_trim o.length o rfl (by omega);obtain⟨n,_,hmem,hget⟩:=nd_some (v:=v) (a:=i) (by omega);have hkids:=(hv.2 n hmem).kids;have p2:∀q:List Int,q.length=k->(∀x∈q,qAd x)->∃z,zau_p2 (i:Int) v q=some z/\(z=.inl true\/∃q',z=.inr q'/\q'.length<=65536/\∀x∈q',qAd x):=by
   intro q hq hx;unfold zau_p2;rw[qAa (by omega),Int.toNat_natCast,qAa (by omega),qAa (by omega),hget,qAa (by simp only[List.length_singleton];omega)];by_cases h6:(65536:Int)<(q++[n.kids]).length
   ·rw[deT h6,cnT];exact⟨_,rfl,.inl rfl⟩
   ·rw[deF h6,cnF];refine⟨_,rfl,.inr ⟨_,rfl,by omega,λx hx'=>?_⟩⟩;rcases List.mem_append.1 hx' with h | h
    ·exact hx x h
    ·rw[List.mem_singleton] at h;rw[h];exact hkids
  have hstep:∃y,qC8 (i:Int) v o=some y/\((∃z,y=.inr z)\/∃q,y=.inl (((i+1:Nat):Int),q)/\q.length<=65536/\∀x∈q,qAd x):=by
   unfold qC8;rw[deT (by omega),cnT,k2,obS];have hk8:(o.take k).length=k:=by rw[List.length_take];omega
   have htk:∀x∈o.take k,qAd x:=λx hx=>hi x (List.mem_of_mem_take hx)
   have fin:∀q:List Int,q.length=k->(∀x∈q,qAd x)->∃y,((zau_p2 (i:Int) v q).bind λo9=>(Sum.elim (λ(o9_0:Bool)=>some (.inr (.inl o9_0))) (λ(o9_1:(List Int))=>gd (qAd ((i:Int)+1)) <| some (.inl (((i:Int)+1),o9_1)))) o9:Option ((Int × (List Int)) ⊕ (Bool ⊕ Unit)))=some y/\((∃z,y=.inr z)\/∃q,y=.inl (((i+1:Nat):Int),q)/\q.length<=65536/\∀x∈q,qAd x):=by
    intro q hq hx;obtain⟨z,z1,z2⟩:=p2 q hq hx;rw[z1,obS];rcases z2 with rfl | ⟨q',rfl,q1,q2⟩
    ·exact⟨_,rfl,.inl ⟨_,rfl⟩⟩
    ·exact⟨_,qAa (by unfold qAd;omega) _,.inr ⟨q',rfl,q1,q2⟩⟩
   by_cases h0:0<k
   ·rw[hk8,deT (by omega),cnT];have hkt:Int.toNat ((k:Int) - 1)=k - 1:=by omega
    have hgd:(o.take k).getD (k - 1) (ET.dft .i64)=o.getD (k - 1) (ET.dft .i64):=by
     rw[List.getD_eq_getElem?_getD,List.getElem?_take_of_lt (by omega),<-List.getD_eq_getElem?_getD]
    have hpos:=k3 h0;have hin:=hi _ (getD_mem (o:=o) (k:=k - 1) (by omega));unfold qAd at hin;rw[qAa (by unfold qAd;omega),qAa (by unfold qAd;omega),qAa (by omega),hkt,hgd,qAa (by omega),qAa (by unfold qAd;omega),qAa (by omega),qAa (by omega)];refine fin _ (by rw[List.length_set,hk8]) λx hx=>?_
    rcases List.mem_or_eq_of_mem_set hx with h | rfl
    ·exact htk x h
    ·unfold qAd;omega
   ·rw[hk8,deF (by omega),cnF];exact fin _ hk8 htk
  obtain⟨y,h1,h2⟩:=hstep;rcases h2 with⟨z,rfl⟩ | ⟨q,rfl,q1,q2⟩
  ·refine⟨z,?_⟩;unfold zau_p0;exact qAf h1
  ·obtain⟨y,hy⟩:=by_loop hv j (i+1) q (by omega) q1 q2;refine⟨y,?_⟩;unfold zau_p0 at hy ⊢;rw[qAo h1];exact hy
theorem beyond_total{v:List Eng.Node}(hv:OkL v):∃b,zau_s v=some b:=by
 obtain⟨y,hy⟩:=by_loop hv v.length 0 [] (by omega) (by simp) (λx hx=>by cases hx);unfold zau_s;rw[show((0:Nat):Int)=0 from rfl] at hy;rw[hy,obS];cases y <;> exact⟨_,rfl⟩
open Go.RowKit Go.Eng
theorem given_contN{U β γ:Type}{A:Dec U (List SV)}{B:Dec β (List SB)}(f:U->Option γ)(v:γ->SV)(args:List SV)(hp:List SB)(R:Type)(k:SV->List SB->Option R) :
  ((Dec.d A args).bind λx=>(Dec.d B hp).bind λy=>(f x).bind λr=>k (v r) [])=(((Dec.d A args).bind λx=>(Dec.d B hp).bind λy=>(f x).bind λr=>some (v r,([]:List SB))):Option (SV × List SB)).bind λz=>k z.1 z.2:=by
 cases Dec.d A args with
 | none=>rfl
 | some x =>
  cases Dec.d B hp with
  | none=>rfl
  | some y=>simp only[obS,Option.bind_assoc]
structure HidN (p:Prop):Prop where
 out:p
theorem keyName_run(a:Int)(w:World)(ha:a<=9223372036854775807)(ht:∀k,k<13->w.cell? ⟨0,k,none⟩=some (.string (algAt k))) :
  Calls Tryd.prog 8 #[.int .i64 a] w λe w'=>e=.returned (.string (algS a))/\w=w':=by
 by_cases h0:a<0
 ·have Hn:HidN (algS a=⟨#[]⟩):=⟨by unfold algS;rw[if_pos (.inl h0)]⟩;clear ht;go_enter Tryd.func8,Tryd.ntmps8
  go_wp2
  go_ret
  exact⟨by rw[Hn.out];rfl,rfl⟩
 ·by_cases h1:13<=a
  ·have Hn:HidN (algS a=⟨#[]⟩):=⟨by unfold algS;rw[if_pos (.inr h1)]⟩;clear ht;go_enter Tryd.func8,Tryd.ntmps8
   go_wp2
   go_ret
   exact⟨by rw[Hn.out];rfl,rfl⟩
  ·obtain⟨k,rfl⟩:=Int.eq_ofNat_of_zero_le (Int.not_lt.1 h0);have Hn:HidN (algS k=algAt k):=⟨by unfold algS;rw[if_neg (by omega)];rfl⟩;have hc:=ht k (by omega);clear ht;go_enter Tryd.func8,Tryd.ntmps8
   go_wp2
   go_ret
   exact⟨by rw[Hn.out];rfl,rfl⟩
def keyName_da:=(qAb (dVC (dCO (dI .i64))) dNil)
def keyName_db:=(dNil:Dec Unit (List SB))
noncomputable def qDw(a:Int):Option BA:=gd (a<=9223372036854775807) (some (algS a))
noncomputable def keyset_Name_c:CS:=λargs hp R k=>(Dec.d keyName_da args).bind λx=>(Dec.d keyName_db hp).bind λy=>(qDw x.1).bind λr=>k (.c (.o (.val (.string r)))) []
theorem keyset_Name_val:qAj Tryd.prog 8 keyset_Name_c:=by
 refine⟨λargs hp R k=>given_contN (A:=keyName_da) (B:=keyName_db) (λx=>qDw x.1) (λr=>.c (.o (.val (.string r)))) args hp R k,λargs hp v hp' hC hlt X w Z hhp=>?_⟩;obtain⟨x,h1,h2⟩:=Option.bind_eq_some_iff.1 hC;obtain⟨y,h3,h4⟩:=Option.bind_eq_some_iff.1 h2;obtain⟨r,h5,h6⟩:=Option.bind_eq_some_iff.1 h4;obtain⟨hi,h7⟩:=gd_some.1 h5;rw[Dec.ok _ _ _ h1];have hhp':=Dec.ok _ _ _ h3;obtain⟨s,u⟩:=x;simp only[snJ,Prod.mk.injEq] at h6 h7;obtain⟨rfl,rfl⟩:=h6;simp only at hi;subst h7;rw[hhp'] at hhp ⊢;refine(keyName_run s w hi hhp.tab.2.1).mono ?_;rintro e w' ⟨rfl,rfl⟩
 obtain⟨g1,g2⟩:=hhp.past ⟨rfl,rfl,Nat.le_refl _,λk _ _=>rfl⟩ ⟨rfl,rfl,Nat.le_refl _,λk _ _=>rfl⟩;exact⟨Z,λ_ _=>rfl,Nat.le_refl _,rfl,trivial,g1,g2⟩
noncomputable def keyset_Name_w:CQ:=qCm [] keyset_Name_c
theorem keyset_Name_ok:qAg Tryd.prog 8 keyset_Name_w:=qA5 keyset_Name_val
end Go.Proofs.YtngikdcgcakaaaaDoor
