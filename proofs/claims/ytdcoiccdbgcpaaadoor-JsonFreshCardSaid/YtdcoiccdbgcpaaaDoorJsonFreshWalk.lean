/-
  JsonFresh: its call returns true.
-/
import Derived.Below
import Derived.Carry
import Derived.Lib.LaidU8
import Derived.Shelf.Lay
import Derived.Ground.NamesProg
import Derived.Test.YtdcoiccdbgcpaaaDoorPJBack
import Derived.Test.YtdcoiccdbgcpaaaDoorJF
import Derived.Test.YtdcoiccdbgcpaaaDoorEngN
import Derived.Test.YtdcoiccdbgcpaaaDoorEngO
import Derived.Test.YtdcoiccdbgcpaaaDoorProg
import Derived.Test.YtdcoiccdbgcpaaaDoorRows
namespace Go.Proofs.YtdcoiccdbgcpaaaDoor
open Go.Eng
set_option linter.unusedVariables false
set_option linter.unusedSimpArgs false
def n99:Eng.Node:=⟨99,⟨#[]⟩,⟨#[]⟩,false,0,0⟩
def n98:Eng.Node:=⟨98,⟨#[]⟩,⟨#[]⟩,false,0,0⟩
theorem fill_loop:∀(k i:Nat) (u:List Eng.Node),i+k=u.length→u.length≤3000000→(∀j,j<i→u.getD j (ET.dft .node)=n99) →
  ∃r,zbl_p0 (i:Int) u=some r∧r.length=u.length∧∀j,j<r.length→r.getD j (ET.dft .node)=n99
 | 0,i,u,h,hl,hj=>by
  refine ⟨u,?_,rfl,fun j h=>hj j (by omega)⟩;unfold zbl_p0;refine qAi ?_;unfold qFf;rw [deF (by dsimp only; omega),cnF]
 | k+1,i,u,h,hl,hj=>by
  obtain ⟨r,h1,h2,h3⟩:=fill_loop k (i+1) (u.set i n99) (by rw [List.length_set]; omega) (by rw [List.length_set]; omega) (fun j hj'=>by
   rw [List.getD_eq_getElem?_getD,List.getElem?_set];by_cases e:i=j
   ·rw [if_pos e,if_pos (by omega)]; rfl
   ·rw [if_neg e,←List.getD_eq_getElem?_getD];exact hj j (by omega))
  rw [List.length_set] at h2;refine ⟨r,?_,h2,h3⟩;unfold zbl_p0 at h1 ⊢;rw [←h1];refine qAn ?_;unfold qFf;dsimp only;rw [deT (by omega),cnT,qAa (by omega),qAa (by omega),qAa (by unfold qAe; omega),Int.toNat_natCast];rfl
theorem grow_loop:∀(k i:Nat) (u:List Eng.Node),i+k=70→u.length+k≤3000000→zbl_p1 (i:Int) u=some (u++List.replicate k n98)
 | 0,i,u,h,hl=>by
  unfold zbl_p1;rw [List.replicate_zero,List.append_nil];refine qAi ?_;unfold qFj;rw [deF (by dsimp only; omega),cnF]
 | k+1,i,u,h,hl=>by
  have ih:=grow_loop k (i+1) (u++[n98]) (by omega) (by rw [List.length_append,List.length_singleton]; omega);rw [List.replicate_succ,←List.singleton_append,←List.append_assoc,←ih];unfold zbl_p1;refine qAn ?_;unfold qFj;dsimp only;rw [deT (by omega),cnT];refine (qAa (by simp only [List.length_singleton]; omega) _).trans ((qAa (by unfold qAe; omega) _).trans ?_);rfl
theorem fillI_loop:∀(k i:Nat) (u:List Int),i+k=u.length→u.length≤3000000→(∀j,j<i→u.getD j (ET.dft .i64) = -7) →
  ∃r,zbl_p2 (i:Int) u=some r∧r.length=u.length∧∀j,j<r.length→r.getD j (ET.dft .i64) = -7
 | 0,i,u,h,hl,hj=>by
  refine ⟨u,?_,rfl,fun j h=>hj j (by omega)⟩;unfold zbl_p2;refine qAi ?_;unfold qFe;rw [deF (by dsimp only; omega),cnF]
 | k+1,i,u,h,hl,hj=>by
  obtain ⟨r,h1,h2,h3⟩:=fillI_loop k (i+1) (u.set i (-7:Int)) (by rw [List.length_set]; omega) (by rw [List.length_set]; omega) (fun j hj'=>by
   rw [List.getD_eq_getElem?_getD,List.getElem?_set];by_cases e:i=j
   ·rw [if_pos e,if_pos (by omega)]; rfl
   ·rw [if_neg e,←List.getD_eq_getElem?_getD];exact hj j (by omega))
  rw [List.length_set] at h2;refine ⟨r,?_,h2,h3⟩;unfold zbl_p2 at h1 ⊢;rw [←h1];refine qAn ?_;unfold qFe;dsimp only;rw [deT (by omega),cnT,qAa (by omega),qAa (by omega),qAa (by unfold qAe; omega),Int.toNat_natCast];rfl
theorem growI_loop:∀(k i:Nat) (u:List Int),i+k=70→u.length+k≤3000000→zbl_p3 (i:Int) u=some (u++List.replicate k (-8:Int))
 | 0,i,u,h,hl=>by
  unfold zbl_p3;rw [List.replicate_zero,List.append_nil];refine qAi ?_;unfold qF0;rw [deF (by dsimp only; omega),cnF]
 | k+1,i,u,h,hl=>by
  have ih:=growI_loop k (i+1) (u++[(-8:Int)]) (by omega) (by rw [List.length_append,List.length_singleton]; omega);rw [List.replicate_succ,←List.singleton_append,←List.append_assoc,←ih];unfold zbl_p3;refine qAn ?_;unfold qF0;dsimp only;rw [deT (by omega),cnT];refine (qAa (by simp only [List.length_singleton]; omega) _).trans ((qAa (by unfold qAe; omega) _).trans ?_);rfl
theorem sameI_loop (v:List Int) (hv:v.length≤3000000):∀(j i:Nat),i+j=v.length→zbp_p0 (i:Int) v v=some (.inr ())
 | 0,i,h=>by
  unfold zbp_p0;refine qAi ?_;unfold qFp;rw [deF (by omega),cnF]
 | j+1,i,h=>by
  have ih:=sameI_loop v hv j (i+1) (by omega);unfold zbp_p0 at ih ⊢;rw [qAn (y:=((i+1:Nat):Int)) ?_,ih];unfold qFp;rw [deT (by omega),cnT,qAa (by omega),qAa (by omega),qAa (by omega),qAa (by omega),deT rfl,Bool.not_true,cnF];exact qAa (by unfold qAe; omega) _
theorem sameI_self (v:List Int) (hv:v.length≤3000000):zbp_s v v=some true:=by
 have:=sameI_loop v hv v.length 0 (by omega);rw [show ((0:Nat):Int)=0 from rfl] at this;unfold zbp_s;rw [deT rfl,Bool.not_true,cnF,this];rfl
theorem marks_p0 (more:List Eng.Node) (n:Nat) (hm:more.length≤3000000) (h1:∀j,j<n→(more.getD j (ET.dft .node)).kind=99) (h2:∀j,n≤j→j<more.length→(more.getD j (ET.dft .node)).kind=98) :
  ∀(k i:Nat),i+k=more.length→zbn_p0 (n:Int) (i:Int) more=some (.inr ())
 | 0,i,h=>by
  unfold zbn_p0;refine qAi ?_;unfold qFv;rw [deF (by omega),cnF]
 | k+1,i,h=>by
  have ih:=marks_p0 more n hm h1 h2 k (i+1) (by omega);unfold zbn_p0 at ih ⊢;rw [qAn (y:=((i+1:Nat):Int)) ?_,ih];unfold qFv;rw [deT (by omega),cnT,qAa (fun _=>by omega),qAa (fun _=>by omega),qAa (fun _=>by omega),qAa (fun _ _=>by omega),qAa (fun _ _=>by omega),qAa (fun _ _=>by omega),Int.toNat_natCast];have:(((decide ((i:Int)<(n:Int))) && (!decide (((more.getD i (ET.dft .node)).kind)=(99:Int)))) || ((decide ((n:Int)≤(i:Int))) && (!decide (((more.getD i (ET.dft .node)).kind)=(98:Int)))))=false:=by
   rcases Nat.lt_or_ge i n with hi | hi
   ·rw [h1 i hi,deF (show ¬(n:Int)≤(i:Int) by omega)]; simp
   ·rw [h2 i hi (by omega),deF (show ¬(i:Int)<(n:Int) by omega)]; simp
  rw [this,cnF];exact qAa (by unfold qAe; omega) _
theorem marks_p1 (more:List Int) (n:Nat) (hm:more.length≤3000000) (h1:∀j,j<n→more.getD j (ET.dft .i64) = -7) (h2:∀j,n≤j→j<more.length→more.getD j (ET.dft .i64) = -8) :
  ∀(k i:Nat),i+k=more.length→zbn_p1 (n:Int) (i:Int) more=some (.inr ())
 | 0,i,h=>by
  unfold zbn_p1;refine qAi ?_;unfold qFi;rw [deF (by omega),cnF]
 | k+1,i,h=>by
  have ih:=marks_p1 more n hm h1 h2 k (i+1) (by omega);unfold zbn_p1 at ih ⊢;rw [qAn (y:=((i+1:Nat):Int)) ?_,ih];unfold qFi;rw [deT (by omega),cnT,qAa (fun _=>by omega),qAa (fun _=>by omega),qAa (fun _ _=>by omega),qAa (fun _ _=>by omega),Int.toNat_natCast];have:(((decide ((i:Int)<(n:Int))) && (!decide ((more.getD i (ET.dft .i64))=(-7:Int)))) || ((decide ((n:Int)≤(i:Int))) && (!decide ((more.getD i (ET.dft .i64))=(-8:Int)))))=false:=by
   rcases Nat.lt_or_ge i n with hi | hi
   ·rw [h1 i hi,deF (show ¬(n:Int)≤(i:Int) by omega)]; simp
   ·rw [h2 i hi (by omega),deF (show ¬(i:Int)<(n:Int) by omega)]; simp
  rw [this,cnF];exact qAa (by unfold qAe; omega) _
theorem getD_rep {α:Type} (u:List α) (k:Nat) (x d:α):(∀j,j<u.length→(u++List.replicate k x).getD j d=u.getD j d)∧∀j,u.length≤j→j<(u++List.replicate k x).length→(u++List.replicate k x).getD j d=x:=by
 refine ⟨fun j hj=>?_,fun j h1 h2=>?_⟩
 ·rw [List.getD_eq_getElem?_getD,List.getElem?_append_left hj,←List.getD_eq_getElem?_getD]
 ·rw [List.length_append,List.length_replicate] at h2;rw [List.getD_eq_getElem?_getD,List.getElem?_append_right h1,List.getElem?_replicate,if_pos (by omega)];rfl
theorem marks_is (u:List Eng.Node) (m:List Int) (hu:u.length≤2000000) (hm:m.length≤2000000) (h1:∀j,j<u.length→u.getD j (ET.dft .node)=n99) (h2:∀j,j<m.length→m.getD j (ET.dft .i64) = -7) :
  zbn_s (u++List.replicate 70 n98) (u.length:Int) (m++List.replicate 70 (-8:Int)) (m.length:Int)=some true:=by
 obtain ⟨a1,a2⟩:=getD_rep u 70 n98 (ET.dft .node);obtain ⟨b1,b2⟩:=getD_rep m 70 (-8:Int) (ET.dft .i64);have e1:=marks_p0 (u++List.replicate 70 n98) u.length (by simp; omega) (fun j hj=>by rw [a1 j hj,h1 j hj]; rfl) (fun j hj hj'=>by rw [a2 j hj hj']; rfl) _ 0 (Nat.zero_add _);have e2:=marks_p1 (m++List.replicate 70 (-8:Int)) m.length (by simp; omega) (fun j hj=>by rw [b1 j hj,h2 j hj]) (fun j hj hj'=>b2 j hj hj') _ 0 (Nat.zero_add _);unfold zbn_s;rw [show ((0:Nat):Int)=0 from rfl] at e1 e2;rw [e1,obS,Sum.elim_inr,e2];rfl
def SameK (v v':List Eng.Node):Prop:=v'.length=v.length∧∀j,(v'.getD j (ET.dft .node)).kids=(v.getD j (ET.dft .node)).kids
theorem SameK.at {v v':List Eng.Node} (h:SameK v v') {a:Nat} {n:Eng.Node} (hn:v[a]?=some n):∃n',v'[a]?=some n'∧n'.kids=n.kids:=by
 have ha:=(List.getElem?_eq_some_iff.1 hn).1;have h2:=h.2 a;obtain ⟨n',hn'⟩:∃n',v'[a]?=some n':=⟨_,List.getElem?_eq_getElem (by rw [h.1]; exact ha)⟩;rw [List.getD_eq_getElem?_getD,List.getD_eq_getElem?_getD,hn,hn'] at h2;exact ⟨n',hn',h2⟩
theorem trees_same {v v':List Eng.Node} (h:SameK v v') {k a e:Nat} (ht:Trees v k a e):Trees v' k a e:=by
 induction ht with
 | nil a ha=>exact Trees.nil a (by rw [h.1]; exact ha)
 | cons n hn h0 h1 h2 i1 i2 =>
  obtain ⟨n',hn',hk⟩:=h.at hn;exact Trees.cons n' hn' (by rw [hk]; exact h0) (by rw [hk]; exact i1) i2
theorem places_same {v v':List Eng.Node} (h:SameK v v'):∀ {k a e:Nat} {L:List Nat},qDs v k a L e→qDs v' k a L e
 | 0,a,e,L,hp=>hp
 | k+1,a,e,L,hp=>by
  obtain ⟨b,r,rfl,g1,g2⟩:=hp;exact ⟨b,r,rfl,trees_same h g1,places_same h g2⟩
theorem places_len {v:List Eng.Node}:∀ {k a e:Nat} {L:List Nat},qDs v k a L e→L.length=k
 | 0,a,e,L,hp=>by rw [hp.1]; rfl
 | k+1,a,e,L,hp=>by
  obtain ⟨b,r,rfl,g1,g2⟩:=hp;rw [List.length_cons,places_len g2]
theorem kids_same {v v':List Eng.Node} (h:SameK v v') (hv:v.length≤1000000) (hT:v=[]∨Tree v 0 v.length) (a:Int):∃ks,zai_s v a=some ks∧zai_s v' a=some ks∧ks.length≤v.length:=by
 by_cases ha:a<0∨(v.length:Int)≤a
 ·exact ⟨[],j_kids_out v ha,j_kids_out v' (by rw [h.1]; exact ha),Nat.zero_le _⟩
 ·obtain ⟨p,rfl⟩:=Int.eq_ofNat_of_zero_le (show 0≤a by omega);have hp:p<v.length:=by omega
  rcases hT with rfl | hT
  ·exact absurd hp (by simp)
  obtain ⟨e,ht,_⟩:=Trees.sub hT (Nat.zero_le p) hp;obtain ⟨nd,h1,h2,h3⟩:=Tree.node ht;obtain ⟨L,hL⟩:=h3.places;obtain ⟨n',hn',hk⟩:=h.at h1;have h3':=trees_same h h3;have hL':=places_same h hL;rw [←hk] at h3' hL';refine ⟨upN L,j_kids (by omega) h1 h2 h3 hL,j_kids (by rw [h.1]; omega) hn' (by rw [hk]; exact h2) h3' hL',?_⟩;rw [upN_len,places_len hL];have:=h3.le;omega
theorem SameK.refl (v:List Eng.Node):SameK v v:=⟨rfl,fun _=>rfl⟩
theorem SameK.set {v v':List Eng.Node} (h:SameK v v') (i:Nat) (n:Eng.Node) (hn:n.kids=(v'.getD i (ET.dft .node)).kids):SameK v (v'.set i n):=by
 refine ⟨by rw [List.length_set]; exact h.1,fun j=>?_⟩;rw [←h.2 j,List.getD_eq_getElem?_getD,List.getElem?_set];by_cases e:i=j
 ·rw [if_pos e];subst e;by_cases hl:i<v'.length
  ·rw [if_pos hl]; exact hn
  ·rw [if_neg hl,List.getD_eq_getElem?_getD,List.getElem?_eq_none (by omega)]
 ·rw [if_neg e,←List.getD_eq_getElem?_getD]
theorem blur_loop (v:List Eng.Node) (hv:v.length≤1000000):∀(k i:Nat) (u:List Eng.Node),i+k=u.length→SameK v u→∃r,zbl_p4 (i:Int) u=some r∧SameK v r
 | 0,i,u,h,hs=>by
  refine ⟨u,?_,hs⟩;unfold zbl_p4;refine qAi ?_;unfold qEj;rw [deF (by dsimp only; omega),cnF]
 | k+1,i,u,h,hs=>by
  have hlen:u.length≤1000000:=by rw [hs.1]; exact hv
  have key:∃y,qEj (i:Int) u=some (.inl (((i+1:Nat):Int),y))∧SameK v y∧y.length=u.length:=by
   unfold qEj;rw [deT (by omega),cnT,qAa (by omega),qAa (by omega),qAa (by omega),Int.toNat_natCast];by_cases hk:(u.getD i (ET.dft .node)).kind=5
   ·rw [deT hk,cnT,qAa (by omega),qAa (by omega),qAa (by omega),qAa (by rw [List.length_set]; omega),qAa (by rw [List.length_set]; omega),qAa (by rw [List.length_set]; omega),qAa (by unfold qAe; omega)];refine ⟨_,rfl,?_,by rw [List.length_set,List.length_set]⟩;refine SameK.set ?_ i _ rfl;exact SameK.set hs i _ rfl
   ·rw [deF hk,cnF,qAa (by omega),qAa (by omega),qAa (by omega),qAa (by unfold qAe; omega)];refine ⟨_,rfl,?_,by rw [List.length_set]⟩;exact SameK.set hs i _ rfl
  obtain ⟨y,hy,hsy,hly⟩:=key;obtain ⟨r,h1,h2⟩:=blur_loop v hv k (i+1) y (by omega) hsy;refine ⟨r,?_,h2⟩;unfold zbl_p4 at h1 ⊢;rw [←h1];exact qAn hy
theorem jsonFresh_plain (t:BA) (a:Int):zbl_s t a=some true:=by
 obtain ⟨l,c,b,hp,hl,hT⟩:∃l c b,parseR t=(l,c,b)∧l.length≤262144∧(l=[]∨Tree l 0 l.length):=by
  rcases parseR_cases t with ⟨l,h1,hs,h2,hne,hll,hT,hz⟩ | ⟨c,b,h1,hc⟩
  ·exact ⟨l,0,0,h1,by omega,.inr hT⟩
  ·exact ⟨[],c,b,h1,Nat.zero_le _,.inl rfl⟩
 have hsm:=same3_self l (by omega);have htw:zbq_s l=some l:=qAa (by omega) _;obtain ⟨ks,k1,_,k3⟩:=kids_same (SameK.refl l) (by omega) hT a;have hsi:=sameI_self ks (by omega);obtain ⟨f,f1,f2,f3⟩:=fill_loop l.length 0 l (by omega) (by omega) (fun j h=>by omega);have f4:=grow_loop 70 0 f rfl (by omega);obtain ⟨g,g1,g2,g3⟩:=fillI_loop ks.length 0 ks (by omega) (by omega) (fun j h=>by omega);have g4:=growI_loop 70 0 g rfl (by omega);have hmk:=marks_is f g (by omega) (by omega) f3 g3;obtain ⟨w,w1,w2⟩:=blur_loop l (by omega) l.length 0 l (by omega) (SameK.refl l);obtain ⟨ks',q1,q2,_⟩:=kids_same w2 (by omega) hT a;rw [k1] at q1;cases q1;rw [show ((0:Nat):Int)=0 from rfl] at f1 f4 g1 g4 w1;unfold zbl_s;rw [alive_is,obS,Bool.not_true,cnF,p_Parse,hp];simp only [obS,decide_true,Bool.not_true,cnF];rw [hsm];simp only [obS,Bool.not_true,cnF];rw [htw];simp only [obS];rw [k1];simp only [obS];rw [qAa (by omega),hsi];simp only [obS,Bool.not_true,cnF];rw [f1];simp only [obS];rw [hsm];simp only [obS,Bool.not_true,cnF];rw [f4];simp only [obS];rw [g1];simp only [obS];rw [g4];simp only [obS];rw [hmk];simp only [obS,Bool.not_true,cnF,decide_true];rw [w1];simp only [obS];rw [q2];simp only [obS,decide_true,cnT]
end Go.Proofs.YtdcoiccdbgcpaaaDoor
namespace Go.Eng
open Go.RowKit
set_option linter.unusedVariables false
theorem reach_of {x:Nat} (h:decide (x≤reachBytes)=true):x≤140737488351232:=by
 have h2:=of_decide_eq_true h;exact h2
theorem size_of_weights {H:Type} {P:Program} {T:TypeId} {s:BA} (h:∀x∈(DataW.lit (.string s.data.toList):DataW H).weights P T,x≤140737488351232):s.size≤140737488351232:=by
 have h2:=h s.data.toList.length (by simp only [DataW.weights]; exact List.mem_singleton.2 rfl);rw [Array.length_toList] at h2;exact h2
theorem i64_of_wf {a:Int} (h:(Lit.int .i64 a).wf=true) : -9223372036854775808≤a∧a≤9223372036854775807:=by
 simp [Lit.wf,IntKind.min,IntKind.max,IntKind.signed,IntKind.bits] at h;exact h
structure LowB (w w':World):Prop where
 os:w'.os=w.os
 output:w'.output=w.output
 size:w.heap.size≤w'.heap.size
 block:∀k,k<w.heap.size→w'.heap[k]?=w.heap[k]?
theorem lowB_of_stays {w w':World} (h:Stays (fun _=>False) w w'):LowB w w':=⟨h.os,h.output,h.size,fun k hk=>h.block k hk id⟩
theorem LowB.frame {W w':World} (h:LowB W w') (may:MemPlace→Prop):W.keptBut w' may:=by
 refine ⟨h.os,h.output,fun i hi=>?_⟩;rw [h.block i hi];split <;> simp_all
theorem LowB.same {W w':World} (h:LowB W w') {p:MemPlace} (hp:p.block<W.heap.size):W.sameAt w' p:=by
 cases p with
 | cell b o=>exact World.cell?_of_block (w:=W) (h.block b hp)
 | map b=>exact h.block b hp
theorem LowB.trod {H:Type} {enc:TypeId × Value→H} {P:Program} {t:TypeId} (hl:laidOutB P=true) (hr:P.readableRec t=true) (hrow:t<P.types.size) {W W':World} {v:Value} {d:DataW H} {ps:List MemPlace}
  (h:DataW.Trod enc P W 0 (fun _=>true) true t v d ps) (hb:LowB W W') (hlt:∀x∈ps,x.block<W.heap.size) :
  DataW.Trod enc P W' 0 (fun b=>decide (b<W.heap.size)) true t v d ps :=
 WideElems.Trod_stays hl hr hrow h (fun x hx=>hb.same (hlt x hx)) (fun x hx=>by simpa using hlt x hx)
theorem callS {P:Program} {f:Nat} {C:CS} (h:qAm P f C) {args:List SV} {v:SV} (hc:C args [] (SV × List SB) (fun v hp'=>some (v,hp'))=some (v,[])) (hs:args.all SV.shut=true) (hv:v.shut=true) (w:World) (ht:tabOK noX w) (vs:List Value) (hvs:args.map (SV.den fun _=>undef)=vs) :
  Calls P f vs.toArray w fun e w'=>e=.returned (v.den fun _=>undef)∧LowB w w':=by
 have:=h.2 args [] v [] hc (fun v hv=>SV.shut_lt (List.all_eq_true.1 hs v hv) _) noX w (fun _=>undef) (HpSat.nil _ _ ht _);rw [hvs] at this;exact this.mono fun e w' ⟨ρ',_,_,a,_,_,b⟩=>⟨by rw [a,SV.shut_den hv ρ' fun _=>undef],lowB_of_stays b⟩
end Go.Eng
namespace Go.Proofs
open Go.Shelf
shelf_lay Lays.n260 Nm 260 at Tryd as Tryd.laysSlow
end Go.Proofs
namespace Go.Proofs.YtdcoiccdbgcpaaaDoor
open Go.Eng Go.Shelf
set_option linter.unusedVariables false
theorem first_data:(Rows.laid_unicode_utf8_first:DataW Unit)=Lib.firstData:=by kernel_rfl
theorem accept_data:(Rows.laid_unicode_utf8_acceptRanges:DataW Unit)=Lib.acceptData:=by kernel_rfl
theorem utf8_tabs {W:World} (h3:Lib.VarReads Tryd.prog W "unicode/utf8.first" Rows.laid_unicode_utf8_first) (h4:Lib.VarReads Tryd.prog W "unicode/utf8.acceptRanges" Rows.laid_unicode_utf8_acceptRanges):tabOK noX W:=by
 rw [first_data] at h3;rw [accept_data] at h4;exact ⟨utf8Tabs_of_reads Tryd.laysSlow ⟨by kernel_rfl,by kernel_rfl,by kernel_rfl,by kernel_rfl,by kernel_rfl,by kernel_rfl,by kernel_rfl⟩ h3 h4,fun h=>h,fun h=>h⟩
end Go.Proofs.YtdcoiccdbgcpaaaDoor
namespace Go.Proofs.YtdcoiccdbgcpaaaDoor
open Go.Eng
set_option linter.unusedVariables false
set_option linter.unusedSimpArgs false
theorem jsonFresh_tabs {W:World} (h:laidMetH Tryd.prog Rows.jsonFreshRow.laid W):tabOK noX W:=by
 have h':laidMet Tryd.prog Rows.jsonFreshRow.laid W:=h;exact utf8_tabs (Lib.laidMet.reads h' (List.mem_cons_of_mem _ List.mem_cons_self)) (Lib.laidMet.reads h' List.mem_cons_self)
theorem jsonFresh_walk (s0:BA) (a1:Int) (W:World) (h0:s0.size≤140737488351232) (h1 : -9223372036854775808≤a1∧a1≤9223372036854775807) (hT:tabOK noX W):Calls Tryd.prog 13 #[.string s0,.int .i64 a1] W fun e w'=>e=.returned (.bool true)∧LowB W w':=by
 refine callS zbl_val (args:=[.c (.o (.val (.string s0))),.c (.o (.val (.int .i64 a1)))]) (v:=.c (.o (.val (.bool true)))) ?_ rfl rfl W hT [.string s0,.int .i64 a1] rfl;show ((zbl_s s0 a1).bind fun r=>some ((.c (.o (.val (.bool r))),[]):SV × List SB))=_;rw [jsonFresh_plain s0 a1];rfl
end Go.Proofs.YtdcoiccdbgcpaaaDoor
