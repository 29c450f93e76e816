/-
  Texts of a claim.
-/
import Derived.Below
import Derived.Carry
import Derived.Lib.LaidU8
import Derived.Shelf.Lay
import Derived.Ground.NamesProg
import Derived.Test.YtbokbmjcodoccacDoorJD
import Derived.Test.YtbokbmjcodoccacDoorProg
import Derived.Test.YtbokbmjcodoccacDoorRows
set_option linter.unusedSimpArgs false
set_option linter.unusedVariables false
namespace Go.Proofs.YtbokbmjcodoccacDoor
open Go.Eng
theorem texts_loop(l:List BA)(hl:l.length<=5000000000000):∀(j i:Nat),i+j=l.length->zbp_p0 (i:Int) l l=some (.inr ())
 | 0,i,h=>by
  unfold zbp_p0;refine qAg ?_;unfold qFn;rw[deF (by omega),cnF]
 | j+1,i,h=>by
  have ih:=texts_loop l hl j (i+1) (by omega);unfold zbp_p0 at ih ⊢;rw[qAm (y:=((i+1:Nat):Int)) ?_,ih];unfold qFn;rw[deT (by omega),cnT,qAb (by omega),qAb (by omega),qAb (by omega),qAb (by omega)];simp only[decide_true,Bool.not_true,cnF];exact qAb (by unfold qAc;omega) _
theorem texts_self(l:List BA)(hl:l.length<=5000000000000):zbp_s l l=some true:=by
 have:=texts_loop l hl l.length 0 (by omega);rw[show((0:Nat):Int)=0 from rfl] at this;unfold zbp_s;rw[deT rfl,Bool.not_true,cnF,this];rfl
theorem nodes_loop(v:List Eng.Node)(hv:v.length<=3000000):∀(j i:Nat),i+j=v.length->zbo_p0 (i:Int) v v=some (.inr ())
 | 0,i,h=>by
  unfold zbo_p0;refine qAg ?_;unfold qFm;rw[deF (by omega),cnF]
 | j+1,i,h=>by
  have ih:=nodes_loop v hv j (i+1) (by omega);unfold zbo_p0 at ih ⊢;rw[qAm (y:=((i+1:Nat):Int)) ?_,ih];unfold qFm;rw[deT (by omega),cnT,qAb (by omega),qAb (by omega),qAb (by omega),qAb (by omega)];simp only[decide_true,beq_self_eq_true,Bool.and_self,Bool.not_true,cnF];exact qAb (by unfold qAc;omega) _
theorem nodes_self(v:List Eng.Node)(hv:v.length<=3000000):zbo_s v v=some true:=by
 have:=nodes_loop v hv v.length 0 (by omega);rw[show((0:Nat):Int)=0 from rfl] at this;unfold zbo_s;rw[deT rfl,Bool.not_true,cnF,this];rfl
theorem claims_self(c:qGv)(h1:c.value.length<=2000000)(h2:c.aud.length<=4000000000000):zbn_s c c=some true:=by
 unfold zbn_s;simp only[decide_true,beq_self_eq_true,Bool.and_self,cnT,texts_self c.aud (by omega),nodes_self c.value (by omega),obS]
theorem fill_loop{T:Type}{m:T}{step:Int × List T->Option ((Int × List T) ⊕ List T)}{N:Nat}(h1:∀(k:Nat) (l:List T),l.length=N->k<N->step ((k:Int),l)=some (.inl ((k:Int)+1,l.set k m)))(h2:∀l:List T,l.length=N->step ((N:Int),l)=some (.inr l)) :
  ∀(j k:Nat) (l:List T),k+j=N->l.length=N->(∀i,i<k->l[i]?=some m)->qA0 step ((k:Int),l)=some (List.replicate N m)
 | 0,k,l,hk,hl,hm=>by
  obtain rfl:k=N:=by omega
  rw[qAg (h2 l hl)];congr 1
  refine List.eq_replicate_iff.2 ⟨hl,λb hb=>?_⟩;obtain⟨i,hi,rfl⟩:=List.mem_iff_getElem.1 hb;have:=hm i (by omega);rw[List.getElem?_eq_getElem hi] at this;exact Option.some.inj this
 | j+1,k,l,hk,hl,hm=>by
  rw[qAm (h1 k l hl (by omega))];refine fill_loop h1 h2 j (k+1) (l.set k m) (by omega) (by rw[List.length_set];exact hl) λi hi=>?_
  rw[List.getElem?_set];split
  ·rename_i e;rw[if_pos (by omega)]
  ·exact hm i (by omega)
theorem grow_loop{T U:Type}{m:T}{u:U}{step:Int × List T × List U->Option ((Int × List T × List U) ⊕ (List T × List U))}(h1:∀(k:Nat) (l:List T) (q:List U),l.length<=3000000->q.length<=5000000000000->k<70->step ((k:Int),l,q)=some (.inl ((k:Int)+1,l++[m],q++[u])))(h2:∀(l:List T) (q:List U),step (((70:Nat):Int),l,q)=some (.inr (l,q))) :
  ∀(j k:Nat) (l:List T) (q:List U),k+j=70->l.length+j<=3000000->q.length+j<=5000000000000->qA0 step ((k:Int),l,q)=some (l++List.replicate j m,q++List.replicate j u)
 | 0,k,l,q,hk,hl,hq=>by
  obtain rfl:k=70:=by omega
  rw[qAg (h2 l q)];simp
 | j+1,k,l,q,hk,hl,hq=>by
  rw[qAm (h1 k l q (by omega) (by omega) (by omega))];refine(grow_loop h1 h2 j (k+1) (l++[m]) (q++[u]) (by omega) (by simp;omega) (by simp;omega)).trans ?_;rw[List.replicate_succ,List.replicate_succ,List.append_assoc,List.append_assoc];rfl
theorem qGc{step:Int->Option (Int ⊕ (Bool ⊕ Unit))}{N:Nat}(h1:∀k:Nat,k<N->step (k:Int)=some (.inl ((k:Int)+1)))(h2:step (N:Int)=some (.inr (.inr ()))) :
  ∀(j k:Nat),k+j=N->qA0 step (k:Int)=some (.inr ())
 | 0,k,hk=>by
  obtain rfl:k=N:=by omega
  exact qAg h2
 | j+1,k,hk=>by
  rw[qAm (h1 k (by omega))];exact qGc h1 h2 j (k+1) (by omega)
structure Two {T:Type} (h:List T) (N:Nat) (m u d:T):Prop where
 len:h.length=N+70
 tl:(h.take N).length=N
 lo:∀k,k<N->h.getD k d=m
 tk:∀k,k<N->(h.take N).getD k d=m
 hi:∀k,N<=k->k<N+70->h.getD k d=u
theorem two_rep{T:Type}(N:Nat)(m u d:T):Two (List.replicate N m++List.replicate 70 u) N m u d:=by
 refine⟨by simp,by simp,λk h=>?_,λk h=>?_,λk h1 h2=>?_⟩
 ·rw[List.getD_eq_getElem?_getD,List.getElem?_append_left (by simp;omega),List.getElem?_replicate,if_pos h];rfl
 ·rw[List.getD_eq_getElem?_getD,List.getElem?_take,if_pos h,List.getElem?_append_left (by simp;omega),List.getElem?_replicate,if_pos h];rfl
 ·rw[List.getD_eq_getElem?_getD,List.getElem?_append_right (by simp;omega),List.getElem?_replicate,List.length_replicate,if_pos (by omega)];rfl
def mN0:Eng.Node:=⟨0,⟨#[]⟩,⟨#[]⟩,false,(1000:Int)+(0:Int),0⟩
def uN0:Eng.Node:=⟨0,⟨#[]⟩,⟨#[]⟩,false,(5000:Int)+(0:Int),0⟩
def mT0:BA:=[(⟨#[111,110,101]⟩:BA),(⟨#[116,119,111]⟩:BA)].getD (Int.toNat (0:Int)) (ET.dft .str)
def uT0:BA:=[(⟨#[116,104,114,101,101]⟩:BA),(⟨#[102,111,117,114]⟩:BA)].getD (Int.toNat (0:Int)) (ET.dft .str)
theorem fillN0(l:List Eng.Node)(hn:l.length<=2000000):zbl_p0 (0:Int) l=some (List.replicate l.length mN0):=by
 unfold zbl_p0;refine fill_loop (N:=l.length) (m:=mN0) (λk l' hl hk=>?_) (λl' hl=>?_) l.length 0 l (by omega) rfl (λi hi=>by omega)
 ·dsimp only;unfold qFe;rw[qAb (by omega),deT (by omega),cnT,qAb (by omega),qAb (by unfold qAc;omega),qAb (by omega),Int.toNat_natCast,qAb (by omega)];exact qAb (by unfold qAc;omega) _
 ·dsimp only;unfold qFe;rw[qAb (by omega),deF (by omega),cnF]
theorem fillT0(l:List BA)(hn:l.length<=4000000000000):zbl_p1 (0:Int) l=some (List.replicate l.length mT0):=by
 unfold zbl_p1;refine fill_loop (N:=l.length) (m:=mT0) (λk l' hl hk=>?_) (λl' hl=>?_) l.length 0 l (by omega) rfl (λi hi=>by omega)
 ·have h:zbl_p2 (k:Int) l'=some (.inl ((k:Int)+1,l'.set k mT0)):=by
   unfold zbl_p2;rw[qAb (by omega),deT (by omega),cnT,qAb (by omega),qAb (by decide),qAb (by decide),qAb (by omega),Int.toNat_natCast,qAb (by omega)];exact qAb (by unfold qAc;omega) _
  dsimp only;unfold qFf;rw[h];rfl
 ·have h:zbl_p2 (l.length:Int) l'=some (.inr ()):=by
   unfold zbl_p2;rw[qAb (by omega),deF (by omega),cnF]
  dsimp only;unfold qFf;rw[h];rfl
theorem grow0(n k:Nat)(hn:n<=2000000)(hk:k<=4000000000000):zbl_p6 (0:Int) (List.replicate n mN0) (List.replicate k mT0)=some (List.replicate n mN0++List.replicate 70 uN0,List.replicate k mT0++List.replicate 70 uT0):=by
 unfold zbl_p6;refine grow_loop (m:=uN0) (u:=uT0) (λk l' q' hl hq hk=>?_) (λl' q'=>?_) 70 0 _ _ (by omega) (by simp;omega) (by simp;omega)
 ·dsimp only;unfold qFi;rw[deT (by omega),cnT,qAb (by unfold qAc;omega),qAb (by rw[List.length_singleton];omega),qAb (by decide),qAb (by decide),qAb (by rw[List.length_singleton];omega)];exact qAb (by unfold qAc;omega) _
 ·dsimp only;unfold qFi;rw[deF (by omega),cnF]
theorem chkN0{h:List Eng.Node}{N:Nat}(hN:N<=2000000)(hh:Two h N mN0 uN0 (ET.dft .node)):zbl_p8 (0:Int) h N=some (.inr ()):=by
 have hlen:=hh.len;have htl:=hh.tl;unfold zbl_p8;refine qGc (N:=N+70) (λk hk=>?_) ?_ (N+70) 0 (by omega)
 ·unfold qFk;rw[qAb (by omega),deT (by omega),cnT,qAb (by omega)];unfold qBr;by_cases hkn:k<N
  ·have v1:=hh.lo k hkn;have v2:=hh.tk k hkn;have d1:decide ((k:Int)<(N:Int))=true:=deT (by omega);have d2:decide ((N:Int)<=(k:Int))=false:=deF (by omega);simp only[v1,v2,mN0,Int.toNat_natCast,htl,d1,d2,eq_self,decide_true,Bool.not_true,Bool.not_false,Bool.false_or,Bool.or_false,Bool.or_self,Bool.true_and,Bool.and_true,Bool.false_and,Bool.and_false,Bool.true_or,Bool.or_true,cnT,cnF]
   repeat rw[qAb (by first | omega | decide | (intros;first | omega | decide | contradiction | (unfold qAc;omega)))]
   try rfl
  ·have v1:=hh.hi k (by omega) hk;have d1:decide ((k:Int)<(N:Int))=false:=deF (by omega);have d2:decide ((N:Int)<=(k:Int))=true:=deT (by omega);simp only[v1,uN0,Int.toNat_natCast,htl,d1,d2,eq_self,decide_true,Bool.not_true,Bool.not_false,Bool.false_or,Bool.or_false,Bool.or_self,Bool.true_and,Bool.and_true,Bool.false_and,Bool.and_false,Bool.true_or,Bool.or_true,cnT,cnF]
   repeat rw[qAb (by first | omega | decide | (intros;first | omega | decide | contradiction | (unfold qAc;omega)))]
   try rfl
 ·unfold qFk;rw[qAb (by omega),deF (by omega),cnF]
theorem chkT0{h:List BA}{N:Nat}(hN:N<=4000000000000)(hh:Two h N mT0 uT0 (ET.dft .str)):zbl_p9 (0:Int) h N=some (.inr ()):=by
 have hlen:=hh.len;have htl:=hh.tl;unfold zbl_p9;refine qGc (N:=N+70) (λk hk=>?_) ?_ (N+70) 0 (by omega)
 ·have hq:zbl_p10 (k:Int) h N=some (.inr (.inl ((k:Int)+1))):=by
   unfold zbl_p10;rw[qAb (by omega),deT (by omega),cnT,qAb (by omega)];by_cases hkn:k<N
   ·have v1:=hh.lo k hkn;have v2:=hh.tk k hkn;have d1:decide ((k:Int)<(N:Int))=true:=deT (by omega);have d2:decide ((N:Int)<=(k:Int))=false:=deF (by omega);unfold mT0 at v1 v2;simp only[v1,v2,Int.toNat_natCast,htl,d1,d2,eq_self,decide_true,Bool.not_true,Bool.not_false,Bool.false_or,Bool.or_false,Bool.or_self,Bool.true_and,Bool.and_true,Bool.false_and,Bool.and_false,Bool.true_or,Bool.or_true,cnT,cnF]
    repeat rw[qAb (by first | omega | decide | (intros;first | omega | decide | contradiction | (unfold qAc;omega)))]
    try rfl
   ·have v1:=hh.hi k (by omega) hk;have d1:decide ((k:Int)<(N:Int))=false:=deF (by omega);have d2:decide ((N:Int)<=(k:Int))=true:=deT (by omega);unfold uT0 at v1;simp only[v1,Int.toNat_natCast,htl,d1,d2,eq_self,decide_true,Bool.not_true,Bool.not_false,Bool.false_or,Bool.or_false,Bool.or_self,Bool.true_and,Bool.and_true,Bool.false_and,Bool.and_false,Bool.true_or,Bool.or_true,cnT,cnF]
    repeat rw[qAb (by first | omega | decide | (intros;first | omega | decide | contradiction | (unfold qAc;omega)))]
    try rfl
  unfold qFl;rw[hq];rfl
 ·have hq:zbl_p10 ((N+70:Nat):Int) h N=some (.inr (.inr ())):=by
   unfold zbl_p10;rw[qAb (by omega),deF (by omega),cnF]
  unfold qFl;rw[hq];rfl
def mN1:Eng.Node:=⟨0,⟨#[]⟩,⟨#[]⟩,false,(1000:Int)+((0:Int)+(1:Int)),0⟩
def uN1:Eng.Node:=⟨0,⟨#[]⟩,⟨#[]⟩,false,(5000:Int)+((0:Int)+(1:Int)),0⟩
def mT1:BA:=[(⟨#[111,110,101]⟩:BA),(⟨#[116,119,111]⟩:BA)].getD (Int.toNat ((0:Int)+(1:Int))) (ET.dft .str)
def uT1:BA:=[(⟨#[116,104,114,101,101]⟩:BA),(⟨#[102,111,117,114]⟩:BA)].getD (Int.toNat ((0:Int)+(1:Int))) (ET.dft .str)
theorem fillN1(l:List Eng.Node)(hn:l.length<=2000000):zbl_p3 (0:Int) l=some (List.replicate l.length mN1):=by
 unfold zbl_p3;refine fill_loop (N:=l.length) (m:=mN1) (λk l' hl hk=>?_) (λl' hl=>?_) l.length 0 l (by omega) rfl (λi hi=>by omega)
 ·dsimp only;unfold qFg;rw[qAb (by omega),deT (by omega),cnT,qAb (by omega),qAb (by unfold qAc;omega),qAb (by omega),Int.toNat_natCast,qAb (by omega)];exact qAb (by unfold qAc;omega) _
 ·dsimp only;unfold qFg;rw[qAb (by omega),deF (by omega),cnF]
theorem fillT1(l:List BA)(hn:l.length<=4000000000000):zbl_p4 (0:Int) l=some (List.replicate l.length mT1):=by
 unfold zbl_p4;refine fill_loop (N:=l.length) (m:=mT1) (λk l' hl hk=>?_) (λl' hl=>?_) l.length 0 l (by omega) rfl (λi hi=>by omega)
 ·have h:zbl_p5 (k:Int) l'=some (.inl ((k:Int)+1,l'.set k mT1)):=by
   unfold zbl_p5;rw[qAb (by omega),deT (by omega),cnT,qAb (by omega),qAb (by decide),qAb (by decide),qAb (by omega),Int.toNat_natCast,qAb (by omega)];exact qAb (by unfold qAc;omega) _
  dsimp only;unfold qFh;rw[h];rfl
 ·have h:zbl_p5 (l.length:Int) l'=some (.inr ()):=by
   unfold zbl_p5;rw[qAb (by omega),deF (by omega),cnF]
  dsimp only;unfold qFh;rw[h];rfl
theorem grow1(n k:Nat)(hn:n<=2000000)(hk:k<=4000000000000):zbl_p7 (0:Int) (List.replicate n mN1) (List.replicate k mT1)=some (List.replicate n mN1++List.replicate 70 uN1,List.replicate k mT1++List.replicate 70 uT1):=by
 unfold zbl_p7;refine grow_loop (m:=uN1) (u:=uT1) (λk l' q' hl hq hk=>?_) (λl' q'=>?_) 70 0 _ _ (by omega) (by simp;omega) (by simp;omega)
 ·dsimp only;unfold qFj;rw[deT (by omega),cnT,qAb (by unfold qAc;omega),qAb (by rw[List.length_singleton];omega),qAb (by decide),qAb (by decide),qAb (by rw[List.length_singleton];omega)];exact qAb (by unfold qAc;omega) _
 ·dsimp only;unfold qFj;rw[deF (by omega),cnF]
theorem chkN1{h:List Eng.Node}{N:Nat}(hN:N<=2000000)(hh:Two h N mN1 uN1 (ET.dft .node)):zbl_p11 (0:Int) h N=some (.inr ()):=by
 have hlen:=hh.len;have htl:=hh.tl;unfold zbl_p11;refine qGc (N:=N+70) (λk hk=>?_) ?_ (N+70) 0 (by omega)
 ·unfold qEe;rw[qAb (by omega),deT (by omega),cnT,qAb (by omega)];unfold qBh;by_cases hkn:k<N
  ·have v1:=hh.lo k hkn;have v2:=hh.tk k hkn;have d1:decide ((k:Int)<(N:Int))=true:=deT (by omega);have d2:decide ((N:Int)<=(k:Int))=false:=deF (by omega);simp only[v1,v2,mN1,Int.toNat_natCast,htl,d1,d2,eq_self,decide_true,Bool.not_true,Bool.not_false,Bool.false_or,Bool.or_false,Bool.or_self,Bool.true_and,Bool.and_true,Bool.false_and,Bool.and_false,Bool.true_or,Bool.or_true,cnT,cnF]
   repeat rw[qAb (by first | omega | decide | (intros;first | omega | decide | contradiction | (unfold qAc;omega)))]
   try rfl
  ·have v1:=hh.hi k (by omega) hk;have d1:decide ((k:Int)<(N:Int))=false:=deF (by omega);have d2:decide ((N:Int)<=(k:Int))=true:=deT (by omega);simp only[v1,uN1,Int.toNat_natCast,htl,d1,d2,eq_self,decide_true,Bool.not_true,Bool.not_false,Bool.false_or,Bool.or_false,Bool.or_self,Bool.true_and,Bool.and_true,Bool.false_and,Bool.and_false,Bool.true_or,Bool.or_true,cnT,cnF]
   repeat rw[qAb (by first | omega | decide | (intros;first | omega | decide | contradiction | (unfold qAc;omega)))]
   try rfl
 ·unfold qEe;rw[qAb (by omega),deF (by omega),cnF]
theorem chkT1{h:List BA}{N:Nat}(hN:N<=4000000000000)(hh:Two h N mT1 uT1 (ET.dft .str)):zbl_p12 (0:Int) h N=some (.inr ()):=by
 have hlen:=hh.len;have htl:=hh.tl;unfold zbl_p12;refine qGc (N:=N+70) (λk hk=>?_) ?_ (N+70) 0 (by omega)
 ·have hq:zbl_p13 (k:Int) h N=some (.inr (.inl ((k:Int)+1))):=by
   unfold zbl_p13;rw[qAb (by omega),deT (by omega),cnT,qAb (by omega)];by_cases hkn:k<N
   ·have v1:=hh.lo k hkn;have v2:=hh.tk k hkn;have d1:decide ((k:Int)<(N:Int))=true:=deT (by omega);have d2:decide ((N:Int)<=(k:Int))=false:=deF (by omega);unfold mT1 at v1 v2;simp only[v1,v2,Int.toNat_natCast,htl,d1,d2,eq_self,decide_true,Bool.not_true,Bool.not_false,Bool.false_or,Bool.or_false,Bool.or_self,Bool.true_and,Bool.and_true,Bool.false_and,Bool.and_false,Bool.true_or,Bool.or_true,cnT,cnF]
    repeat rw[qAb (by first | omega | decide | (intros;first | omega | decide | contradiction | (unfold qAc;omega)))]
    try rfl
   ·have v1:=hh.hi k (by omega) hk;have d1:decide ((k:Int)<(N:Int))=false:=deF (by omega);have d2:decide ((N:Int)<=(k:Int))=true:=deT (by omega);unfold uT1 at v1;simp only[v1,Int.toNat_natCast,htl,d1,d2,eq_self,decide_true,Bool.not_true,Bool.not_false,Bool.false_or,Bool.or_false,Bool.or_self,Bool.true_and,Bool.and_true,Bool.false_and,Bool.and_false,Bool.true_or,Bool.or_true,cnT,cnF]
    repeat rw[qAb (by first | omega | decide | (intros;first | omega | decide | contradiction | (unfold qAc;omega)))]
    try rfl
  unfold qEf;rw[hq];rfl
 ·have hq:zbl_p13 ((N+70:Nat):Int) h N=some (.inr (.inr ())):=by
   unfold zbl_p13;rw[qAb (by omega),deF (by omega),cnF]
  unfold qEf;rw[hq];rfl
theorem claimsSpares_plain(t:BA):zbl_s t=some true:=by
 obtain⟨c,k,h1,h2,h3⟩:=parse_some t;have ht:zbq_s c=some c:=by
  unfold zbq_s;rw[qAb (by omega),qAb (by omega)]
 have z:qAc ((0:Int)+1):=by unfold qAc;omega
 have z2:qAc ((0:Int)+1+1):=by unfold qAc;omega
 unfold zbl_s;rw[awake_is,obS,Bool.not_true,cnF,h1,obS,obS,deT rfl,Bool.not_true,cnF];dsimp only;rw[claims_self c h2 h3,obS,Bool.not_true,cnF,ht,obS,fillN0 _ h2,obS,fillT0 _ h3,obS,qAb z,fillN1 _ h2,obS,fillT1 _ h3,obS,qAb z2,qAb (by omega),qAb (by omega),grow0 _ _ h2 h3,obS,qAb (by omega),qAb (by omega),qAb z,qAb (by omega),qAb (by omega),grow1 _ _ h2 h3,obS,qAb (by omega),qAb (by omega),qAb z2];dsimp only;rw[List.length_replicate,List.length_replicate,List.length_replicate,List.length_replicate,chkN0 h2 (two_rep _ _ _ _),obS,Sum.elim_inr,chkT0 h3 (two_rep _ _ _ _),obS,Sum.elim_inr,qAb z,chkN1 h2 (two_rep _ _ _ _),obS,Sum.elim_inr,chkT1 h3 (two_rep _ _ _ _),obS,Sum.elim_inr,qAb z2,obS];dsimp only;rw[deT rfl,cnT,claims_self c h2 h3,obS]
end Go.Proofs.YtbokbmjcodoccacDoor
namespace Go.Eng
open Go.RowKit
theorem reach_of{x:Nat}(h:decide (x<=reachBytes)=true):x<=140737488351232:=by
 have h2:=of_decide_eq_true h;exact h2
theorem size_of_weights{H:Type}{P:Program}{T:TypeId}{s:BA}(h:∀x∈(DataW.lit (.string s.data.toList):DataW H).weights P T,x<=140737488351232):s.size<=140737488351232:=by
 have h2:=h s.data.toList.length (by simp only[DataW.weights];exact List.mem_singleton.2 rfl);rw[Array.length_toList] at h2;exact h2
structure LowB (w w':World):Prop where
 os:w'.os=w.os
 output:w'.output=w.output
 size:w.heap.size<=w'.heap.size
 block:∀k,k<w.heap.size->w'.heap[k]?=w.heap[k]?
theorem lowB_of_stays{w w':World}(h:Stays (λ_=>False) w w'):LowB w w':=⟨h.os,h.output,h.size,λk hk=>h.block k hk id⟩
theorem LowB.frame{W w':World}(h:LowB W w')(may:MemPlace->Prop):W.keptBut w' may:=by
 refine⟨h.os,h.output,λi hi=>?_⟩;rw[h.block i hi];split <;> simp_all
theorem LowB.same{W w':World}(h:LowB W w'){p:MemPlace}(hp:p.block<W.heap.size):W.sameAt w' p:=by
 cases p with
 | cell b o=>exact World.cell?_of_block (w:=W) (h.block b hp)
 | map b=>exact h.block b hp
theorem LowB.trod{H:Type}{enc:TypeId × Value->H}{P:Program}{t:TypeId}(hl:laidOutB P=true)(hr:P.readableRec t=true)(hrow:t<P.types.size){W W':World}{v:Value}{d:DataW H}{ps:List MemPlace}
  (h:DataW.Trod enc P W 0 (λ_=>true) true t v d ps) (hb:LowB W W') (hlt:∀x∈ps,x.block<W.heap.size) :
  DataW.Trod enc P W' 0 (λb=>decide (b<W.heap.size)) true t v d ps :=
 WideElems.Trod_stays hl hr hrow h (λx hx=>hb.same (hlt x hx)) (λx hx=>by simpa using hlt x hx)
theorem callS{P:Program}{f:Nat}{C:CS}(h:qAj P f C){args:List SV}{v:SV}(hc:C args [] (SV × List SB) (λv hp'=>some (v,hp'))=some (v,[]))(hs:args.all SV.shut=true)(hv:v.shut=true)(w:World)(ht:tabOK noX w)(vs:List Value)(hvs:args.map (SV.den λ_=>undef)=vs) :
  Calls P f vs.toArray w λe w'=>e=.returned (v.den λ_=>undef)/\LowB w w':=by
 have:=h.2 args [] v [] hc (λv hv=>SV.shut_lt (List.all_eq_true.1 hs v hv) _) noX w (λ_=>undef) (HpSat.nil _ _ ht _);rw[hvs] at this;exact this.mono λe w' ⟨Z',_,_,a,_,_,b⟩=>⟨by rw[a,SV.shut_den hv Z' λ_=>undef],lowB_of_stays b⟩
end Go.Eng
namespace Go.Proofs
open Go.Shelf
shelf_lay Lays.n260 Nm 260 at Tryd as Tryd.laysSlow
end Go.Proofs
namespace Go.Proofs.YtbokbmjcodoccacDoor
open Go.Eng Go.Shelf
theorem first_data:(Rows.laid_unicode_utf8_first:DataW Unit)=Lib.firstData:=by kernel_rfl
theorem accept_data:(Rows.laid_unicode_utf8_acceptRanges:DataW Unit)=Lib.acceptData:=by kernel_rfl
theorem utf8_tabs{W:World}(h3:Lib.VarReads Tryd.prog W "unicode/utf8.first" Rows.laid_unicode_utf8_first)(h4:Lib.VarReads Tryd.prog W "unicode/utf8.acceptRanges" Rows.laid_unicode_utf8_acceptRanges):tabOK noX W:=by
 rw[first_data] at h3;rw[accept_data] at h4;exact⟨utf8Tabs_of_reads Tryd.laysSlow ⟨by kernel_rfl,by kernel_rfl,by kernel_rfl,by kernel_rfl,by kernel_rfl,by kernel_rfl,by kernel_rfl⟩ h3 h4,λh=>h,λh=>h⟩
end Go.Proofs.YtbokbmjcodoccacDoor
namespace Go.Proofs.YtbokbmjcodoccacDoor
open Go.Eng
theorem claimsSpares_tabs{W:World}(h:laidMetH Tryd.prog Rows.claimsSparesRow.laid W):tabOK noX W:=by
 have h':laidMet Tryd.prog Rows.claimsSparesRow.laid W:=h;exact utf8_tabs (Lib.laidMet.reads h' (List.mem_cons_of_mem _ List.mem_cons_self)) (Lib.laidMet.reads h' List.mem_cons_self)
theorem claimsSpares_walk(s0:BA)(W:World)(h0:s0.size<=140737488351232)(hT:tabOK noX W):Calls Tryd.prog 3 #[.string s0] W λe w'=>e=.returned (.bool true)/\LowB W w':=by
 refine callS zbl_val (args:=[.c (.o (.val (.string s0)))]) (v:=.c (.o (.val (.bool true)))) ?_ rfl rfl W hT [.string s0] rfl;show((zbl_s s0).bind λr=>some ((.c (.o (.val (.bool r))),[]):SV × List SB))=_;rw[claimsSpares_plain s0];rfl
end Go.Proofs.YtbokbmjcodoccacDoor
