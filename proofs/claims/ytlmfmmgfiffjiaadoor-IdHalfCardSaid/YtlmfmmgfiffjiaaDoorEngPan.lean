/-
  Texts of a claim.
-/
import Derived.Test.YtlmfmmgfiffjiaaDoorPShaped
import Derived.Test.YtlmfmmgfiffjiaaDoorEngO
set_option linter.unusedSimpArgs false
set_option linter.unusedVariables false
namespace Go.Proofs.YtlmfmmgfiffjiaaDoor
open Go.Eng
theorem w64_id {x:Int} (h:qAc x):w64 x=x:=by
 unfold qAc at h;unfold w64 IntKind.wrap;simp [IntKind.signed,IntKind.bits];omega
def jbF (v:List Eng.Node):Nat→Int→Nat→Nat
 | 0,_,a=>a
 | f+1,left,a=>if 0<left∧a<v.length then jbF v f (w64 (left+w64 ((v.getD a (ET.dft .node)).kids - 1))) (a+1) else a
theorem p_jb (v:List Eng.Node) (hv:v.length≤2000000):∀(f:Nat) (left:Int) (a:Nat),v.length - a≤f→zbc_p0 (a:Int) left v=some (jbF v f left a:Int)
 | 0,left,a,h=>by
  unfold zbc_p0;refine qAj ?_;unfold qDw;dsimp only;rw [deF (show ¬(a:Int)<v.length by omega),Bool.and_false,cnF];rfl
 | f+1,left,a,h=>by
  unfold jbF;by_cases hc:0<left∧a<v.length
  ·rw [if_pos hc];have ih:=p_jb v hv f (w64 (left+w64 ((v.getD a (ET.dft .node)).kids - 1))) (a+1) (by omega);unfold zbc_p0 at ih ⊢;rw [qAu (y:=(((a+1:Nat):Int),w64 (left+w64 ((v.getD a (ET.dft .node)).kids - 1)))) ?_]
   ·exact ih
   ·unfold qDw;dsimp only;rw [deT hc.1,deT (show (a:Int)<v.length by omega),Bool.and_self,cnT,qAb (by omega),qAb (by omega),qAb (by omega),qAb (by unfold qAc; omega)];rfl
  ·rw [if_neg hc];unfold zbc_p0;refine qAj ?_;unfold qDw;dsimp only;have:(decide (0<left) && decide ((a:Int)<v.length))=false:=by
    rw [Bool.and_eq_false_iff,decide_eq_false_iff_not,decide_eq_false_iff_not];omega
   rw [this,cnF]
theorem p_jBehind (v:List Eng.Node) (hv:v.length≤2000000) {a:Nat} (ha:a<v.length):zbc_s v (a:Int)=some (jbF v (v.length - a) 1 a:Int):=by
 unfold zbc_s;rw [deF (show ¬(a:Int)<0 by omega),deF (show ¬(v.length:Int)≤a by omega),Bool.or_self,cnF,p_jb v hv (v.length - a) 1 a (Nat.le_refl _)];rfl
theorem jbF_trees {v:List Eng.Node} (hv:v.length≤2000000) {k a e:Nat} (h:Trees v k a e):∀(L:Nat),L+e≤4000000→jbF v (v.length - a) ((L+k:Nat):Int) a=jbF v (v.length - e) (L:Int) e:=by
 induction h with
 | nil a ha=>intro L hL; rfl
 | @cons k a b e n hn h0 h1 h2 i1 i2 =>
  intro L hL;have ha:=(List.getElem?_eq_some_iff.1 hn).1;have l1:=h1.le;have l2:=h2.le;obtain ⟨m,hm⟩:=Int.eq_ofNat_of_zero_le h0;have hmn:n.kids.toNat=m:=by omega
  rw [hmn] at i1 l1;have ih1:=i1 (L+k) (by omega);rw [i2 L hL] at ih1;rw [←ih1,show v.length - a=(v.length - (a+1))+1 by omega];conv=>lhs; unfold jbF
  rw [if_pos ⟨by omega,ha⟩,nd_get hn,hm,w64_id (x:=(m:Int) - 1) (by unfold qAc; omega),w64_id (by unfold qAc; omega)];congr 1
  omega
theorem jBehind_tree {v:List Eng.Node} (hv:v.length≤2000000) {a e:Nat} (h:Tree v a e):zbc_s v (a:Int)=some (e:Int):=by
 have hl:=Trees.le h;rw [p_jBehind v hv (by omega)];have:=jbF_trees hv h 0 (by omega);rw [show ((0+1:Nat):Int)=1 from rfl] at this;rw [this];congr 1
 cases hf:v.length - e with
 | zero=>rfl
 | succ f =>
  unfold jbF;rw [if_neg (fun h=>by have:=h.1; simp at this)]
def upN (l:List Nat):List Int:=l.map fun x:Nat=>(x:Int)
theorem upN_len (l:List Nat):(upN l).length=l.length:=by simp [upN]
theorem j_kids_loop {v:List Eng.Node} (hv:v.length≤2000000) {a:Nat} (ha:a<v.length) {kids:Nat} (hk:(v.getD a (ET.dft .node)).kids=kids) (hkb:kids≤4000000) :
  ∀(k i next e:Nat) (l:List Nat) (out:List Int),i+k=kids→out.length=i→Trees v k next e→qEh v k next l e→zbd_p0 (a:Int) (next:Int) (i:Int) v out=some (out++upN l)
 | 0,i,next,e,l,out,h1,ho,h,hp=>by
  obtain ⟨rfl,rfl⟩:=hp;unfold zbd_p0;refine qAj ?_;unfold qFc;dsimp only;rw [qAb (by omega),qAb (by omega),qAb (by omega),Int.toNat_natCast,hk,deF (show ¬(i:Int)<kids by omega),Bool.false_and,Bool.false_and,cnF];simp [upN]
 | k+1,i,next,e,l,out,h1,ho,h,hp=>by
  obtain ⟨b,r,rfl,g1,g3⟩:=hp;obtain ⟨b',g1',g2⟩:=h.one;have:=Trees.det g1 g1';subst this;have l1:=Trees.le g1;have ih:=j_kids_loop hv ha hk hkb k (i+1) b e r (out++[(next:Int)]) (by omega) (by simp [ho]) g2 g3;unfold zbd_p0 at ih ⊢;rw [qAu (y:=((b:Int),((i+1:Nat):Int),out++[(next:Int)])) ?_]
  ·rw [ih];simp [upN]
  ·unfold qFc;dsimp only;rw [qAb (by omega),qAb (by omega),qAb (by omega),Int.toNat_natCast,hk,deT (show (i:Int)<kids by omega),deT (show (0:Int)≤next by omega),deT (show (next:Int)<v.length by omega),Bool.and_self,Bool.and_self,cnT];rw [qAb (by simp only [List.length_singleton,ho]; omega),jBehind_tree hv g1,obS];exact (qAb (by unfold qAc; omega) _).trans rfl
theorem j_kids {v:List Eng.Node} (hv:v.length≤2000000) {a e:Nat} {nd:Eng.Node} (h1:v[a]?=some nd) (h2:0≤nd.kids) (h3:Trees v nd.kids.toNat (a+1) e) {l:List Nat} (hl:qEh v nd.kids.toNat (a+1) l e):zbd_s v (a:Int)=some (upN l):=by
 have ha:=(List.getElem?_eq_some_iff.1 h1).1;have l3:=h3.le;obtain ⟨kk,hkk⟩:=Int.eq_ofNat_of_zero_le h2;rw [hkk,Int.toNat_natCast] at h3 l3 hl;unfold zbd_s;rw [deF (show ¬(a:Int)<0 by omega),deF (show ¬(v.length:Int)≤a by omega),Bool.or_self,cnF,qAb (by unfold qAc; omega)];have:=j_kids_loop hv ha (kids:=kk) (by rw [nd_get h1,hkk]) (by omega) kk 0 (a+1) e l [] (by omega) rfl h3 hl;rw [show ((a+1:Nat):Int)=(a:Int)+1 by omega,show ((0:Nat):Int)=0 from rfl] at this;rw [this];rfl
def qB3 (v:List Eng.Node) (key:BA):List Nat→Option Nat
 | []=>none
 | p::r=>if (v.getD p (ET.dft .node)).key=key then some p else qB3 v key r
theorem j_mem_loop {v:List Eng.Node} (hv:v.length≤2000000) {a:Nat} (ha:a<v.length) {kids:Nat} (hk:(v.getD a (ET.dft .node)).kids=kids) (hkb:kids≤4000000) (key:BA) :
  ∀(k i next e:Nat) (l:List Nat),i+k=kids→Trees v k next e→qEh v k next l e→zbe_p0 (a:Int) key (next:Int) (i:Int) v=some (match qB3 v key l with | some p=>.inl (p:Int) | none=>.inr ())
 | 0,i,next,e,l,h1,h,hp=>by
  obtain ⟨rfl,rfl⟩:=hp;unfold zbe_p0;refine qAj ?_;unfold qDx;dsimp only;rw [qAb (by omega),qAb (by omega),qAb (by omega),Int.toNat_natCast,hk,deF (show ¬(i:Int)<kids by omega),Bool.false_and,Bool.false_and,cnF];rfl
 | k+1,i,next,e,l,h1,h,hp=>by
  obtain ⟨b,r,rfl,g1,g3⟩:=hp;obtain ⟨b',g1',g2⟩:=h.one;have:=Trees.det g1 g1';subst this;have l1:=Trees.le g1;have ih:=j_mem_loop hv ha hk hkb key k (i+1) b e r (by omega) g2 g3;unfold qB3;by_cases hkey:(v.getD next (ET.dft .node)).key=key
  ·rw [if_pos hkey];unfold zbe_p0;refine qAj ?_;unfold qDx;dsimp only;rw [qAb (by omega),qAb (by omega),qAb (by omega),Int.toNat_natCast,hk,deT (show (i:Int)<kids by omega),deT (show (0:Int)≤next by omega),deT (show (next:Int)<v.length by omega),Bool.and_self,Bool.and_self,cnT];rw [qAb (by omega),qAb (by omega),qAb (by omega),Int.toNat_natCast,deT hkey,cnT]
  ·rw [if_neg hkey,←ih];unfold zbe_p0;rw [qAu (y:=((b:Int),((i+1:Nat):Int))) ?_];unfold qDx;dsimp only;rw [qAb (by omega),qAb (by omega),qAb (by omega),Int.toNat_natCast,hk,deT (show (i:Int)<kids by omega),deT (show (0:Int)≤next by omega),deT (show (next:Int)<v.length by omega),Bool.and_self,Bool.and_self,cnT];rw [qAb (by omega),qAb (by omega),qAb (by omega),Int.toNat_natCast,deF hkey,cnF,jBehind_tree hv g1,obS];exact (qAb (by unfold qAc; omega) _).trans rfl
theorem places_in {v:List Eng.Node}:∀ {k a e:Nat} {l:List Nat},qEh v k a l e→∀p∈l,p<v.length
 | 0,a,e,l,h,p,hp=>by rw [h.1] at hp; cases hp
 | k+1,a,e,l,h,p,hp=>by
  obtain ⟨b,r,rfl,g1,g2⟩:=h;rcases List.mem_cons.1 hp with rfl | hp
  ·have:=Trees.le g1; omega
  ·exact places_in g2 p hp
def memI:Option Nat→Int
 | none => -1
 | some p=>(p:Int)
theorem j_member {v:List Eng.Node} (hv:v.length≤2000000) {a e:Nat} {nd:Eng.Node} (h1:v[a]?=some nd) (h2:0≤nd.kids) (h3:Trees v nd.kids.toNat (a+1) e) {l:List Nat} (hl:qEh v nd.kids.toNat (a+1) l e) (key:BA) :
  zbe_s v (a:Int) key=some (if nd.kind=7 then memI (qB3 v key l) else -1):=by
 have ha:=(List.getElem?_eq_some_iff.1 h1).1;have l3:=h3.le;have hlen:=hl.len;obtain ⟨kk,hkk⟩:=Int.eq_ofNat_of_zero_le h2;rw [hkk,Int.toNat_natCast] at h3 l3 hl hlen;have hj:=j_mem_loop hv ha (kids:=kk) (by rw [nd_get h1,hkk]) (by omega) key kk 0 (a+1) e l (by omega) h3 hl;rw [show ((a+1:Nat):Int)=(a:Int)+1 by omega,show ((0:Nat):Int)=0 from rfl] at hj;have e1:(decide ((a:Int)<0) || decide ((v.length:Int)≤a))=false:=by
  rw [deF (show ¬(a:Int)<0 by omega),deF (show ¬(v.length:Int)≤a by omega)]; rfl
 unfold zbe_s;rw [e1];simp only [Int.toNat_natCast];rw [qAb (fun _=>by omega),qAb (fun _=>by omega),qAb (fun _=>by omega),Bool.false_or];by_cases h7:nd.kind=7
 ·have h7':(v.getD a (ET.dft .node)).kind=7:=by rw [nd_get h1]; exact h7
  rw [deT h7',Bool.not_true,cnF,qAb (by unfold qAc; omega),hj,obS,if_pos h7];cases hf:qB3 v key l with
  | none=>rfl
  | some p=>rfl
 ·have h7':¬(v.getD a (ET.dft .node)).kind=7:=by rw [nd_get h1]; exact h7
  rw [deF h7',Bool.not_false,cnT,if_neg h7]
end Go.Proofs.YtlmfmmgfiffjiaaDoor
namespace Go.Eng
open Go.RowKit
end Go.Eng
