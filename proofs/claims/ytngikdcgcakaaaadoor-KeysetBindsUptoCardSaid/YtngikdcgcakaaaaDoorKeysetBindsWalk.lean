import Derived.Below
import Derived.Carry
import Derived.ProofKit
import Derived.Deep.Slices
import Derived.Deep.Fields
import Derived.ChangeSame
import Derived.SliceStrings
import Derived.SizedLaws
import Derived.Lib.LaidU8
import Derived.Test.YtngikdcgcakaaaaDoorJK
import Derived.Test.YtngikdcgcakaaaaDoorRows
import Derived.Test.YtngikdcgcakaaaaDoorProg
set_option linter.unusedSimpArgs false
set_option linter.unusedVariables false
namespace Go.Proofs.YtngikdcgcakaaaaDoor
open Go.Eng
instance memDec (v:BA) (l:List BA):Decidable (v∈l):=decidable_of_iff (l.any (λs=>decide (s=v))=true) (by simp[List.any_eq_true])
theorem getD_str{l:List BA}{i:Nat}(h:i<l.length):l.getD i (ET.dft .str)=l[i]:=by simp[List.getD,h]
theorem index_loop(v:BA)(l:List BA)(hl:l.length<=3000000):∀(j i:Nat),i+j=l.length ->
  (∃k:Nat,zbh_p0 v (l.length:Int) (i:Int) l=some (.inl (k:Int))/\v∈l.drop i)\/(zbh_p0 v (l.length:Int) (i:Int) l=some (.inr ())/\¬v∈l.drop i)
 | 0,i,h=>by
  refine .inr ⟨?_,?_⟩
  ·unfold zbh_p0;refine qAf ?_;unfold qCf;rw[deF (by omega),cnF]
  ·rw[List.drop_eq_nil_of_le (by omega)];exact λh=>by cases h
 | j+1,i,h=>by
  have hi:i<l.length:=by omega
  have hd:l.drop i=l[i]::l.drop (i+1):=List.drop_eq_getElem_cons hi;by_cases he:v=l[i]
  ·refine .inl ⟨i,?_,?_⟩
   ·unfold zbh_p0;refine qAf ?_;unfold qCf;rw[deT (by omega),cnT,qAa (by omega),qAa (by omega),Int.toNat_natCast,getD_str hi,deT he,cnT]
   ·rw[hd,he];exact List.mem_cons_self
  ·have hst:qCf v (l.length:Int) (i:Int) l=some (.inl ((i+1:Nat):Int)):=by
    unfold qCf;rw[deT (by omega),cnT,qAa (by omega),qAa (by omega),Int.toNat_natCast,getD_str hi,deF he,cnF];exact qAa (by unfold qAd;omega) _
   have hm:v∈l.drop i↔v∈l.drop (i+1):=by rw[hd,List.mem_cons];simp[he]
   have ih:=index_loop v l hl j (i+1) (by omega);rw[hm];unfold zbh_p0 at ih ⊢;rw[qAo hst];exact ih
theorem contains_is(l:List BA)(hl:l.length<=3000000)(v:BA):zbg_s l v=some (decide (v∈l)):=by
 have h:=index_loop v l hl l.length 0 (by omega);rw[List.drop_zero,show((0:Nat):Int)=0 from rfl] at h;unfold zbg_s zbh_s;rcases h with⟨k,h,hm⟩ | ⟨h,hm⟩
 ·rw[h,obS,Sum.elim_inl,obS,deT (by omega),deT hm]
 ·rw[h,obS,Sum.elim_inr,obS,deF (by omega),deF hm]
theorem ref_Name(a:Int)(h:qAd a):zal_s a=some (algS a):=by
 have hn:zam_s=some algN:=rfl;have hl:algN.length=13:=rfl;unfold zal_s algS;rw[hn];simp only[obS];by_cases h0:a<0
 ·rw[deT h0,cnT,if_pos (.inl h0)]
 ·rw[deF h0,cnF,hl];by_cases h1:13<=a
  ·rw[deT (by omega),cnT,if_pos (.inr h1)]
  ·rw[deF (by omega),cnF,qAa (by omega),qAa (by omega),if_neg (by omega)];rfl
theorem wants_is(a:Int):zan_s a=zad_s a:=by
 unfold zan_s zad_s zan_p0 zad_p0 zan_p1 zad_p1;rfl
theorem b1_some(a:Int)(b:Bool):∃r,zad_p1 a b=some r:=by
 unfold zad_p1;simp only[Bool.cond_eq_ite];repeat' split
 all_goals exact⟨_,rfl⟩
theorem b0_some(a:Int)(b:Bool):∃r,zad_p0 a b=some r:=by
 have key:∀(x:Int) (y:Bool),∃r,((zad_p1 x y).bind λo=>(Sum.elim (λ(o0:Int × BA)=>some (.inl (o0.1,o0.2))) (λ(o1:Unit)=>some (.inr ()))) o:Option ((Int × BA) ⊕ Unit))=some r:=λx y=>by
  obtain⟨r,hr⟩:=b1_some x y;rw[hr];cases r <;> exact⟨_,rfl⟩
 unfold zad_p0;simp only[Bool.cond_eq_ite];repeat' split
 all_goals first | exact⟨_,rfl⟩ | exact key _ _
theorem bound_some(a:Int):∃t,zad_s a=some t:=by
 have key:∀(x:Int) (y:Bool),∃r,((zad_p0 x y).bind λo=>(Sum.elim (λ(o0:Int × BA)=>some (o0.1,o0.2)) (λ(o1:Unit)=>some ((0:Int),(⟨#[]⟩:BA)))) o:Option (Int × BA))=some r:=λx y=>by
  obtain⟨r,hr⟩:=b0_some x y;rw[hr];cases r <;> exact⟨_,rfl⟩
 unfold zad_s;simp only[Bool.cond_eq_ite];repeat' split
 all_goals first | exact⟨_,rfl⟩ | exact key _ _
def ver:BA:=⟨#[118,101,114,105,102,121]⟩
theorem ops_loop(l:List BA)(hl:l.length<=3000000):∀(j i:Nat) (v:Bool),i+j=l.length->zak_p1 v (i:Int) l=some (v || decide (ver∈l.drop i))
 | 0,i,v,h=>by
  have h0:qC6 v (i:Int) l=some (.inr v):=by
   unfold qC6;rw[deF (by omega),cnF]
  rw[List.drop_eq_nil_of_le (by omega)];unfold zak_p1;exact(qAf h0).trans (by simp)
 | j+1,i,v,h=>by
  have hi:i<l.length:=by omega
  have hd:l.drop i=l[i]::l.drop (i+1):=List.drop_eq_getElem_cons hi;have ih:=ops_loop l hl j (i+1) (v || decide (l[i]=ver)) (by omega)
  have e:(v || decide (ver∈l.drop i))=((v || decide (l[i]=ver)) || decide (ver∈l.drop (i+1))):=by
   rw[hd,Bool.or_assoc,<-Bool.decide_or];congr 1
   exact decide_eq_decide.2 (by rw[List.mem_cons];exact or_congr ⟨Eq.symm,Eq.symm⟩ Iff.rfl)
  rw[e,<-ih];unfold zak_p1;refine qAo (y:=((v || decide (l[i]=ver)),((i+1:Nat):Int))) ?_
  unfold qC6;dsimp only;rw[deT (by omega),cnT,qAa (λ_=>by omega),qAa (λ_=>by omega),Int.toNat_natCast,getD_str hi];exact qAa (by unfold qAd;omega) _
theorem rest_both(a:Int)(ha:qAd a)(ops:List BA)(ho:ops.length<=3000000)(u:BA)(hu:Bool)(al:BA)(hal hop:Bool):∃k,zac_p0 a ops u hu al hal hop=some k/\zak_p0 a ops u hu al hal hop=some k:=by
 have n1:qDw a=some (algS a):=qAa (by unfold qAd at ha;omega) _;have n2:=ref_Name a ha;have n3:=contains_is ops ho ver;have n4:=ops_loop ops ho ops.length 0 (!hop) (by omega);unfold ver at n3 n4;rw[List.drop_zero,show((0:Nat):Int)=0 from rfl] at n4;unfold zac_p0 zak_p0;rw[n1,n2,obS,obS,n3,obS];cases ((hu && (!decide (u=(⟨#[115,105,103]⟩:BA)))) || (hal && (!decide (al=algS a)))) with
 | true=>exact⟨_,rfl,rfl⟩
 | false =>
  rw[cnF,n4,obS];cases hop <;> cases decide ((⟨#[118,101,114,105,102,121]⟩:BA)∈ops) <;> exact⟨_,rfl,rfl⟩
def crv:BA:=⟨#[99,114,118]⟩
theorem bind_some(x:qE9)(a:Int)(ha:qAd a)(hv:x.value.length<=2000000)(ho:x.ops.length<=3000000):∃k,zac_s x a=some k:=by
 obtain⟨t,ht⟩:=bound_some a;obtain⟨k,hk,_⟩:=rest_both a ha x.ops ho x.use x.hasUse x.alg x.hasAlg x.hasOps;obtain⟨r,hr,hl⟩:=j_member_lt x.value hv 0 crv;unfold crv at hr;have tx:∃g,zae_s (⟨x.value,(0:Int),false⟩:keyset_reader) (⟨#[99,114,118]⟩:BA)=some g:=by
  unfold zae_s;dsimp only;rw[hr,obS];by_cases h0:r<0
  ·rw[deT h0,cnT];exact⟨_,rfl⟩
  ·rw[deF h0,cnF,qAa (by omega),qAa (by omega),qAa (by omega),qAa (by omega),qAa (by omega),qAa (by omega)];cases decide ((x.value.getD r.toNat (ET.dft .node)).kind=5) <;> exact⟨_,rfl⟩
 obtain⟨g,hg⟩:=tx;unfold zac_s;rw[ht,obS,hk,hg,obS,obS];cases (decide (t.1=0) || !decide (x.kty=t.1)) <;> cases (!decide (t.2=(⟨#[]⟩:BA))) <;> cases ((!g.2.2) || (!decide (g.2.1=t.2))) <;> exact⟨_,rfl⟩
theorem bind_both(x:qE9)(a:Int)(ha:qAd a)(hv:x.value.length<=2000000)(ho:x.ops.length<=3000000)(hT:Tree x.value 0 x.value.length):∃k,zac_s x a=some k/\zak_s x a=some k:=by
 obtain⟨t,ht⟩:=bound_some a;obtain⟨k,hk,hk2⟩:=rest_both a ha x.ops ho x.use x.hasUse x.alg x.hasAlg x.hasOps;obtain⟨r,hr,hr2,hr3,hl⟩:=member_tree hv hT crv;rw[show((0:Nat):Int)=0 from rfl] at hr hr2;unfold crv at hr hr2;unfold zac_s zak_s;rw[wants_is,ht,obS,obS,hk,hk2,hr2];simp only[obS];cases (decide (t.1=0) || !decide (x.kty=t.1)) with
 | true=>exact⟨_,rfl,rfl⟩
 | false =>
  rw[cnF,cnF];cases (!decide (t.2=(⟨#[]⟩:BA))) with
  | false=>exact⟨_,rfl,rfl⟩
  | true =>
   rw[cnT,cnT];unfold zae_s;dsimp only;rw[hr];simp only[obS];by_cases h0:r<0
   ·rw[deT h0];simp only[cnT,Bool.true_or];rw[qAa (λh=>by cases h),qAa (λh=>by cases h),qAa (λh=>by cases h),qAa (λh=>by cases h),qAa (λh=>by cases h),qAa (λh=>by cases h)];exact⟨_,rfl,rfl⟩
   ·rw[deF h0];simp only[cnF,Bool.false_or];rw[qAa (by omega),qAa (by omega),qAa (by omega),qAa (by omega),qAa (by omega),qAa (by omega),qAa (λ_=>by omega),qAa (λ_=>by omega),qAa (λ_=>by omega),qAa (λ_=>by omega),qAa (λ_=>by omega),qAa (λ_=>by omega)];cases decide ((x.value.getD r.toNat (ET.dft .node)).kind=5) with
    | false=>exact⟨_,rfl,rfl⟩
    | true =>
     simp only[Bool.not_true,cnF,Bool.false_or,obS];cases decide ((x.value.getD r.toNat (ET.dft .node)).text=t.2) <;> exact⟨_,rfl,rfl⟩
theorem two_tree(c:BA):Tree [(⟨7,⟨#[]⟩,⟨#[]⟩,false,0,1⟩:Eng.Node),⟨5,crv,c,false,0,0⟩] 0 2:=by
 refine Trees.cons (b:=2) ⟨7,⟨#[]⟩,⟨#[]⟩,false,0,1⟩ rfl (by decide) ?_ (Trees.nil _ (Nat.le_refl _));refine Trees.cons (k:=0) (b:=2) ⟨5,crv,c,false,0,0⟩ rfl (Int.le_refl 0) (Trees.nil _ (Nat.le_refl _)) (Trees.nil _ (Nat.le_refl _))
theorem rebound_step(a:Int)(ha:qAd a)(types:List Int)(curves:List BA)(hl:types.length=curves.length)(hb:types.length<=100){i:Nat}(hi:i<types.length):qC5 a (i:Int) types curves=some (.inl ((i:Int)+1)):=by
 have ag:∀(c:BA) (t:Int) (o:BA),∃k,zac_s (⟨[(⟨7,⟨#[]⟩,⟨#[]⟩,false,0,1⟩:Eng.Node),(⟨5,crv,c,false,0,0⟩:Eng.Node)],t,⟨#[]⟩,false,⟨#[]⟩,false,⟨#[]⟩,false,[o],true⟩:qE9) a=some k/\zak_s (⟨[(⟨7,⟨#[]⟩,⟨#[]⟩,false,0,1⟩:Eng.Node),(⟨5,crv,c,false,0,0⟩:Eng.Node)],t,⟨#[]⟩,false,⟨#[]⟩,false,⟨#[]⟩,false,[o],true⟩:qE9) a=some k:=λc t o=>bind_both _ a ha (by show(2:Nat)<=_;omega) (by show(1:Nat)<=_;omega) (two_tree c)
 have st:∀ {A:Type} (o1 o2:Option Int) (f:Option A),(∃k,o1=some k/\o2=some k)->(o1.bind λr=>o2.bind λs=>bif(!decide (r=s)) then none else f)=f:=λo1 o2 f h=>by
  obtain⟨k,rfl,rfl⟩:=h;simp
 obtain⟨k1,p1,q1⟩:=ag (curves.getD i (ET.dft .str)) (types.getD i (ET.dft .i64)) ver;obtain⟨k2,p2,q2⟩:=ag (curves.getD i (ET.dft .str)) (types.getD i (ET.dft .i64)) ⟨#[115,105,103,110]⟩;obtain⟨k3,p3,q3⟩:=ag ⟨#[80,45,53,50,49]⟩ (types.getD i (ET.dft .i64)) ver;unfold crv at p1 q1 p2 q2 p3 q3;unfold ver at p1 q1 p3 q3;unfold qC5 qA2 qAv;rw[deT (by omega),cnT,qAa (by omega),qAa (by omega),qAa (by omega),qAa (by omega),Int.toNat_natCast];refine(congrArg (λo=>Option.bind o _) p1).trans ?_;simp only[obS];refine(congrArg (λo=>Option.bind o _) q1).trans ?_;simp only[obS,decide_true,Bool.not_true,cnF];rw[qAa (by decide),qAa (by decide)];refine(congrArg (λo=>Option.bind o _) p2).trans ?_;simp only[obS];refine(congrArg (λo=>Option.bind o _) q2).trans ?_;simp only[obS,decide_true,Bool.not_true,cnF];rw[qAa (by decide),qAa (by decide)];refine(congrArg (λo=>Option.bind o _) p1).trans ?_;simp only[obS];refine(congrArg (λo=>Option.bind o _) q1).trans ?_;simp only[obS,decide_true,Bool.not_true,cnF];rw[qAa (by simp),qAa (by simp),qAa (by simp)];refine(congrArg (λo=>Option.bind o _) p3).trans ?_;simp only[obS];refine(congrArg (λo=>Option.bind o _) q3).trans ?_;simp only[obS,decide_true,Bool.not_true,cnF];exact qAa (by unfold qAd;omega) _
theorem rebound_loop(a:Int)(ha:qAd a)(types:List Int)(curves:List BA)(hl:types.length=curves.length)(hb:types.length<=100):∀(j i:Nat),i+j=types.length->zag_p0 a (i:Int) types curves=some (.inr ())
 | 0,i,h=>by
  unfold zag_p0;refine qAf ?_;unfold qC5;rw[deF (by omega),cnF]
 | j+1,i,h=>by
  have ih:=rebound_loop a ha types curves hl hb j (i+1) (by omega);unfold zag_p0 at ih ⊢;exact(qAo (rebound_step a ha types curves hl hb (i:=i) (by omega))).trans ih
theorem rebound_true(a:Int)(ha:qAd a):zag_s a=some true:=by
 unfold zag_s;rw[show(0:Int)=((0:Nat):Int) from rfl,rebound_loop a ha _ _ rfl (by decide) 5 0 rfl];rfl
theorem texts_loop(l:List BA)(hl:l.length<=4000000):∀(j i:Nat),i+j=l.length->zaj_p0 (i:Int) l l=some (.inr ())
 | 0,i,h=>by
  unfold zaj_p0;refine qAf ?_;unfold qEf;rw[deF (by omega),cnF]
 | j+1,i,h=>by
  have ih:=texts_loop l hl j (i+1) (by omega);unfold zaj_p0 at ih ⊢;rw[qAo (y:=((i+1:Nat):Int)) ?_,ih];unfold qEf;rw[deT (by omega),cnT,qAa (by omega),qAa (by omega),qAa (by omega),qAa (by omega)];simp only[decide_true,Bool.not_true,cnF];exact qAa (by unfold qAd;omega) _
theorem texts_self(l:List BA)(hl:l.length<=4000000):zaj_s l l=some true:=by
 have:=texts_loop l hl l.length 0 (by omega);rw[show((0:Nat):Int)=0 from rfl] at this;unfold zaj_s;rw[deT rfl,Bool.not_true,cnF,this];rfl
theorem nodes_loop(v:List Eng.Node)(hv:v.length<=3000000):∀(j i:Nat),i+j=v.length->zai_p0 (i:Int) v v=some (.inr ())
 | 0,i,h=>by
  unfold zai_p0;refine qAf ?_;unfold qEe;rw[deF (by omega),cnF]
 | j+1,i,h=>by
  have ih:=nodes_loop v hv j (i+1) (by omega);unfold zai_p0 at ih ⊢;rw[qAo (y:=((i+1:Nat):Int)) ?_,ih];unfold qEe;rw[deT (by omega),cnT,qAa (by omega),qAa (by omega),qAa (by omega),qAa (by omega)];simp only[decide_true,beq_self_eq_true,Bool.and_self,Bool.not_true,cnF];exact qAa (by unfold qAd;omega) _
theorem nodes_self(v:List Eng.Node)(hv:v.length<=3000000):zai_s v v=some true:=by
 have:=nodes_loop v hv v.length 0 (by omega);rw[show((0:Nat):Int)=0 from rfl] at this;unfold zai_s;rw[deT rfl,Bool.not_true,cnF,this];rfl
theorem entry_self(x:qE9)(h1:x.value.length<=2000000)(h2:x.ops.length<=2000000):zah_s x x=some true:=by
 unfold zah_s;rw[texts_self _ (by omega),nodes_self _ (by omega)];simp
theorem p0_some{n:Nat}(hn:n<=2000000):∀(j i:Nat) (h:List BA),i+j=n->n<=h.length->(∀q,i<=q->(h.getD q (ET.dft .str)).size<=2000000)->∃o,zaf_p0 (i:Int) n h=some o/\o.length=h.length
 | 0,i,h,e,hl,hz=>by
  refine⟨h,?_,rfl⟩;unfold zaf_p0;refine qAf ?_;unfold qEc;dsimp only;rw[qAa (by omega),qAa (by omega),deF (by omega),cnF]
 | j+1,i,h,e,hl,hz=>by
  obtain⟨o,h1,h2⟩:=p0_some hn j (i+1) (h.set i (h.getD i (ET.dft .str)++(⟨#[120]⟩:BA))) (by omega) (by rw[List.length_set];exact hl) (λq hq=>by
   rw[List.getD_eq_getElem?_getD,List.getElem?_set_ne (by omega),<-List.getD_eq_getElem?_getD];exact hz q (by omega))
  refine⟨o,?_,by rw[h2,List.length_set]⟩;rw[<-h1];have hzi:=hz i (Nat.le_refl _);have hx:(⟨#[120]⟩:BA).size=1:=rfl;unfold zaf_p0;refine qAo ?_;unfold qEc;dsimp only;simp only[Int.toNat_natCast,Nat.zero_add];rw[qAa (by omega),qAa (by omega),deT (by omega),cnT,qAa (by omega),qAa (by omega),qAa (by omega),qAa (by omega),qAa (by omega),qAa (by omega),qAa (by omega),qAa (by omega),qAa (by omega)];exact qAa (by unfold qAd;omega) _
theorem p1_some{ops:List BA}{n:Nat}(hn:n<=2000000)(ho:ops.length=n):∀(j i:Nat) (h:List BA),i+j=n->n<=h.length->∃o,zaf_p1 (i:Int) ops n h=some o/\o.length=h.length
 | 0,i,h,e,hl=>by
  refine⟨h,?_,rfl⟩;unfold zaf_p1;refine qAf ?_;unfold qEd;dsimp only;rw[qAa (by omega),qAa (by omega),deF (by omega),cnF]
 | j+1,i,h,e,hl=>by
  obtain⟨o,h1,h2⟩:=p1_some hn ho j (i+1) (h.set i (ops.getD i (ET.dft .str))) (by omega) (by rw[List.length_set];exact hl);refine⟨o,?_,by rw[h2,List.length_set]⟩;rw[<-h1];unfold zaf_p1;refine qAo ?_;unfold qEd;dsimp only;simp only[Int.toNat_natCast,Nat.zero_add];rw[qAa (by omega),qAa (by omega),deT (by omega),cnT,qAa (by omega),qAa (by omega),qAa (by omega),qAa (by omega),qAa (by omega),qAa (by omega)];exact qAa (by unfold qAd;omega) _
def KidsAs(v w:List Eng.Node):Prop:=v.length=w.length/\∀(i:Nat) (n:Eng.Node),v[i]?=some n->∃m,w[i]?=some m/\m.kids=n.kids
theorem KidsAs.trans{u v w:List Eng.Node}(h1:KidsAs u v)(h2:KidsAs v w):KidsAs u w:=⟨h1.1.trans h2.1,λi n hn=>by
 obtain⟨m,m1,m2⟩:=h1.2 i n hn;obtain⟨k,k1,k2⟩:=h2.2 i m m1;exact⟨k,k1,k2.trans m2⟩⟩
theorem KidsAs.tree{v w:List Eng.Node}(hk:KidsAs v w){k a e:Nat}(h:Trees v k a e):Trees w k a e:=by
 induction h with
 | nil a ha=>exact .nil a (by have:=hk.1;omega)
 | cons n h1 h2 h3 h4 i1 i2 =>
  obtain⟨m,m1,m2⟩:=hk.2 _ n h1;exact .cons m m1 (by omega) (by rw[m2];exact i1) i2
theorem p2_some{n:Nat}(hn:n<=2000000):∀(j i:Nat) (h:List Eng.Node),i+j=n->n<=h.length->(∀q,i<=q->(h.getD q (ET.dft .node)).text.size<=2000000)->∃o,zaf_p2 (i:Int) n h=some o/\KidsAs h o
 | 0,i,h,e,hl,hz=>by
  refine⟨h,?_,rfl,λi n hn=>⟨n,hn,rfl⟩⟩;unfold zaf_p2;refine qAf ?_;unfold qC4;dsimp only;rw[qAa (by omega),qAa (by omega),deF (by omega),cnF]
 | j+1,i,h,e,hl,hz=>by
  have hzi:=hz i (Nat.le_refl _);have hx:(⟨#[120]⟩:BA).size=1:=rfl;by_cases hk:(h.getD i (ET.dft .node)).kind=5
  ·obtain⟨nd,hnd⟩:∃nd:Eng.Node,nd=⟨(h.getD i (ET.dft .node)).kind,(h.getD i (ET.dft .node)).key,(h.getD i (ET.dft .node)).text++(⟨#[120]⟩:BA),(h.getD i (ET.dft .node)).whole,(h.getD i (ET.dft .node)).int,(h.getD i (ET.dft .node)).kids⟩:=⟨_,rfl⟩;obtain⟨o,h1,h2⟩:=p2_some hn j (i+1) (h.set i nd) (by omega) (by rw[List.length_set];exact hl) (λq hq=>by
    rw[List.getD_eq_getElem?_getD,List.getElem?_set_ne (by omega),<-List.getD_eq_getElem?_getD];exact hz q (by omega))
   have hs:KidsAs h (h.set i nd):=⟨by rw[List.length_set],λq m hm=>by
    rw[List.getElem?_set];split
    ·rename_i hq;subst hq;have hm':h.getD i (ET.dft .node)=m:=by rw[List.getD_eq_getElem?_getD,hm];rfl
     rw[if_pos (by omega)];exact⟨nd,rfl,by rw[hnd,hm']⟩
    ·exact⟨m,hm,rfl⟩⟩
   refine⟨o,?_,hs.trans h2⟩;rw[<-h1,hnd];unfold zaf_p2;refine qAo ?_;unfold qC4;dsimp only;simp only[Int.toNat_natCast,Nat.zero_add];rw[qAa (by omega),qAa (by omega),deT (by omega),cnT,qAa (by omega),qAa (by omega),qAa (by omega),qAa (by omega),qAa (by omega),deT hk,cnT,qAa (by omega),qAa (by omega),qAa (by omega),qAa (by omega),qAa (by omega),qAa (by omega),qAa (by omega),qAa (by omega),qAa (by omega),qAa (by omega),qAa (by omega)];exact qAa (by unfold qAd;omega) _
  ·obtain⟨o,h1,h2⟩:=p2_some hn j (i+1) h (by omega) hl (λq hq=>hz q (by omega));refine⟨o,?_,h2⟩;rw[<-h1];unfold zaf_p2;refine qAo ?_;unfold qC4;dsimp only;simp only[Int.toNat_natCast,Nat.zero_add];rw[qAa (by omega),qAa (by omega),deT (by omega),cnT,qAa (by omega),qAa (by omega),qAa (by omega),qAa (by omega),qAa (by omega),deF hk,cnF];exact qAa (by unfold qAd;omega) _
def mkN:Eng.Node:=(⟨(0:Int),(⟨#[]⟩:BA),(⟨#[109,97,114,107]⟩:BA),false,(0:Int),(0:Int)⟩:Eng.Node)
def mkT:BA:=(⟨#[109,97,114,107]⟩:BA)
theorem at_end{T:Type}(l:List T)(a b d:T):(l++[a,b]).getD l.length d=a/\(l++[a,b]).getD (l.length+1) d=b:=by
 constructor
 ·rw[List.getD_eq_getElem?_getD,List.getElem?_append_right (Nat.le_refl _),Nat.sub_self];rfl
 ·rw[List.getD_eq_getElem?_getD,List.getElem?_append_right (by omega),Nat.add_sub_cancel_left];rfl
theorem keysetBinds_plain(x:qE9)(a:Int)(ha:qAd a)(hv:OkL x.value)(ho:x.ops.length<=1048576)(hz:∀s∈x.ops,s.size<=1048576)(ht:∀n∈x.value,n.text.size<=1048576):zaf_s x a=some true:=by
 obtain⟨bd,hbd⟩:=beyond_total hv;have hvl:=hv.1;obtain⟨sh,hs1,hs2⟩:=shaped_some hv;obtain⟨mv1,mv2⟩:=at_end x.value mkN mkN (ET.dft .node);obtain⟨mo1,mo2⟩:=at_end x.ops mkT mkT (ET.dft .str);have tv:(x.value++[mkN,mkN]).take x.value.length=x.value:=by simp
 have to_:(x.ops++[mkT,mkT]).take x.ops.length=x.ops:=by simp
 have lv:(x.value++[mkN,mkN]).length=x.value.length+2:=by simp
 have lo:(x.ops++[mkT,mkT]).length=x.ops.length+2:=by simp
 have zo:∀q,((x.ops++[mkT,mkT]).getD q (ET.dft .str)).size<=2000000:=λq=>by
  rw[List.getD_eq_getElem?_getD];cases hq:(x.ops++[mkT,mkT])[q]? with
  | none=>exact Nat.zero_le _
  | some s =>
   rcases List.mem_append.1 (List.mem_of_getElem? hq) with hm | hm
   ·have:=hz s hm;show s.size<=_;omega
   ·simp only[List.mem_cons,List.not_mem_nil,or_false,or_self] at hm;subst hm;show(4:Nat)<=_;omega
 have zv:∀q,((x.value++[mkN,mkN]).getD q (ET.dft .node)).text.size<=2000000:=λq=>by
  rw[List.getD_eq_getElem?_getD];cases hq:(x.value++[mkN,mkN])[q]? with
  | none=>exact Nat.zero_le _
  | some s =>
   rcases List.mem_append.1 (List.mem_of_getElem? hq) with hm | hm
   ·have:=ht s hm;show s.text.size<=_;omega
   ·simp only[List.mem_cons,List.not_mem_nil,or_false,or_self] at hm;subst hm;show(4:Nat)<=_;omega
 obtain⟨o0,q0,l0⟩:=p0_some (n:=x.ops.length) (by omega) x.ops.length 0 (x.ops++[mkT,mkT]) (by omega) (by omega) (λq _=>zo q);obtain⟨o1,q1,l1⟩:=p1_some (ops:=x.ops) (n:=x.ops.length) (by omega) rfl x.ops.length 0 o0 (by omega) (by omega);obtain⟨o2,q2,l2⟩:=p2_some (n:=x.value.length) (by omega) x.value.length 0 (x.value++[mkN,mkN]) (by omega) (by omega) (λq _=>zv q);have l2':o2.length=x.value.length+2:=by rw[<-l2.1];exact lv
 have k2:KidsAs x.value (o2.take x.value.length):=⟨by rw[List.length_take];omega,λi n hn=>by
  have hi:=(List.getElem?_eq_some_iff.1 hn).1;obtain⟨m,m1,m2⟩:=l2.2 i n (by rw[List.getElem?_append_left hi];exact hn);exact⟨m,by rw[List.getElem?_take,if_pos hi];exact m1,m2⟩⟩
 have t2l:(o2.take x.value.length).length=x.value.length:=k2.1.symm;rw[show((0:Nat):Int)=0 from rfl] at q0 q1 q2;obtain⟨kb,hkb⟩:=bind_some x a ha hvl (by omega);have se:=entry_self x hvl (by omega);have hx:(⟨x.value,x.kty,x.kid,x.hasKid,x.use,x.hasUse,x.alg,x.hasAlg,x.ops,x.hasOps⟩:qE9)=x:=rfl;have e2:Int.toNat ((x.value.length:Int)+2)=x.value.length+2:=by omega
 have e1:Int.toNat ((x.value.length:Int)+1)=x.value.length+1:=by omega
 have e4:Int.toNat ((x.ops.length:Int)+2)=x.ops.length+2:=by omega
 have e3:Int.toNat ((x.ops.length:Int)+1)=x.ops.length+1:=by omega
 unfold zaf_s;rw[hbd,obS];cases bd with
 | true=>rfl
 | false =>
 rw[cnF];have fN:(⟨(0:Int),(⟨#[]⟩:BA),(⟨#[109,97,114,107]⟩:BA),false,(0:Int),(0:Int)⟩:Eng.Node)=mkN:=rfl;have fT:(⟨#[109,97,114,107]⟩:BA)=mkT:=rfl;simp only[fN];simp only[fT];generalize hV:x.value++[mkN,mkN]=V at *
 generalize hO:x.ops++[mkT,mkT]=O at *
 have lN:([mkN,mkN]:List Eng.Node).length=2:=rfl;have lT:([mkT,mkT]:List BA).length=2:=rfl;simp only[lN,lT,lv,lo,Int.toNat_natCast,Nat.zero_add,List.drop_zero,tv,to_,hx,e1,e2,e3,e4,mv1,mv2,mo1,mo2,hkb,se,obS,Bool.not_true,cnF]
 repeat rw[qAa (by first | omega | decide | (intros;first | omega | decide | contradiction | (unfold qAd;omega)) | (unfold qAd;omega))]
 try simp only[obS,Bool.not_true,cnF]
 repeat rw[qAa (by first | omega | decide | (intros;first | omega | decide | contradiction | (unfold qAd;omega)) | (unfold qAd;omega))]
 have hmk:mkN.kind=0/\mkN.key=⟨#[]⟩/\mkN.text=mkT/\mkN.whole=false/\mkN.int=0/\mkN.kids=0:=⟨rfl,rfl,rfl,rfl,rfl,rfl⟩;obtain⟨z1,z2,z3,z4,z5,z6⟩:=hmk;simp only[z1,z2,z3,z4,z5,z6,decide_true,eq_self,beq_self_eq_true,Bool.and_self,Bool.not_true,Bool.or_self,cnF]
 repeat rw[qAa (by first | omega | decide | (intros;first | omega | decide | contradiction | (unfold qAd;omega)) | (unfold qAd;omega))]
 rw[hs1,obS];cases sh with
 | false=>rfl
 | true =>
 have hT:=hs2 rfl;obtain⟨k1,a1,a2⟩:=bind_both x a ha hvl (by omega) hT;obtain rfl:kb=k1:=Option.some.inj (hkb.symm.trans a1);simp only[Bool.not_true,cnF,a2,obS,decide_true,q0,q1,q2];have lt0:(o0.take x.ops.length).length<=3000000:=by rw[List.length_take];omega
 have lt1:(o1.take x.ops.length).length<=3000000:=by rw[List.length_take];omega
 obtain⟨k3,b1,b2⟩:=bind_both (⟨x.value,x.kty,x.kid,x.hasKid,x.use,x.hasUse,x.alg,x.hasAlg,o0.take x.ops.length,x.hasOps⟩:qE9) a ha hvl lt0 hT;obtain⟨k4,c1,c2⟩:=bind_both (⟨o2.take x.value.length,x.kty,x.kid,x.hasKid,x.use,x.hasUse,x.alg,x.hasAlg,o1.take x.ops.length,x.hasOps⟩:qE9) a ha (by show(o2.take x.value.length).length<=_;omega) lt1 (by show Tree (o2.take x.value.length) 0 (o2.take x.value.length).length;rw[t2l];exact k2.tree hT);rw[qAa (by first | omega | decide | (intros;first | omega | decide | contradiction | (unfold qAd;omega)) | (unfold qAd;omega)),qAa (by first | omega | decide | (intros;first | omega | decide | contradiction | (unfold qAd;omega)) | (unfold qAd;omega)),qAa (by first | omega | decide | (intros;first | omega | decide | contradiction | (unfold qAd;omega)) | (unfold qAd;omega)),b2,obS,qAa (by first | omega | decide | (intros;first | omega | decide | contradiction | (unfold qAd;omega)) | (unfold qAd;omega)),qAa (by first | omega | decide | (intros;first | omega | decide | contradiction | (unfold qAd;omega)) | (unfold qAd;omega)),qAa (by first | omega | decide | (intros;first | omega | decide | contradiction | (unfold qAd;omega)) | (unfold qAd;omega)),b1,obS,deT rfl,Bool.not_true,cnF]
 rw[qAa (by first | omega | decide | (intros;first | omega | decide | contradiction | (unfold qAd;omega)) | (unfold qAd;omega)),qAa (by first | omega | decide | (intros;first | omega | decide | contradiction | (unfold qAd;omega)) | (unfold qAd;omega)),qAa (by first | omega | decide | (intros;first | omega | decide | contradiction | (unfold qAd;omega)) | (unfold qAd;omega)),c2,obS,qAa (by first | omega | decide | (intros;first | omega | decide | contradiction | (unfold qAd;omega)) | (unfold qAd;omega)),qAa (by first | omega | decide | (intros;first | omega | decide | contradiction | (unfold qAd;omega)) | (unfold qAd;omega)),qAa (by first | omega | decide | (intros;first | omega | decide | contradiction | (unfold qAd;omega)) | (unfold qAd;omega)),c1,obS,deT rfl,cnT,rebound_true a ha,obS]
end Go.Proofs.YtngikdcgcakaaaaDoor
namespace Go.Eng
open Go.RowKit
theorem i64_of_wf{a:Int}(h:(Lit.int .i64 a).wf=true) : -9223372036854775808<=a/\a<=9223372036854775807:=by
 simp[Lit.wf,IntKind.min,IntKind.max,IntKind.signed,IntKind.bits] at h;exact h
structure LowB (w w':World):Prop where
 os:w'.os=w.os
 output:w'.output=w.output
 size:w.heap.size<=w'.heap.size
 block:∀k,k<w.heap.size->w'.heap[k]?=w.heap[k]?
theorem lowB_of_stays{w w':World}(h:Stays (λ_=>False) w w'):LowB w w':=⟨h.os,h.output,h.size,λk hk=>h.block k hk id⟩
theorem LowB.frame{W w':World}(h:LowB W w')(may:MemPlace->Prop):W.keptBut w' may:=by
 refine⟨h.os,h.output,λi hi=>?_⟩;rw[h.block i hi];split <;> simp_all
theorem LowB.same{W w':World}(h:LowB W w'){p:MemPlace}(hp:p.block<W.heap.size):W.sameAt w' p:=by
 cases p with
 | cell b o=>exact World.cell?_of_block (w:=W) (h.block b hp)
 | map b=>exact h.block b hp
theorem LowB.trod{H:Type}{enc:TypeId × Value->H}{P:Program}{t:TypeId}(hl:laidOutB P=true)(hr:P.readableRec t=true)(hrow:t<P.types.size){W W':World}{v:Value}{d:DataW H}{ps:List MemPlace}
  (h:DataW.Trod enc P W 0 (λ_=>true) true t v d ps) (hb:LowB W W') (hlt:∀x∈ps,x.block<W.heap.size) :
  DataW.Trod enc P W' 0 (λb=>decide (b<W.heap.size)) true t v d ps :=
 WideElems.Trod_stays hl hr hrow h (λx hx=>hb.same (hlt x hx)) (λx hx=>by simpa using hlt x hx)
end Go.Eng
namespace Go.Proofs.YtngikdcgcakaaaaDoor
open Go.RowKit Go.ChangeShapes Go.WideShapes Go.Deep Go.Eng
set_option maxRecDepth 100000
theorem callV{P:Program}{f:Nat}{C:CS}(h:qAj P f C){args:List SV}{hp hp':List SB}{v:SV}(hc:C args hp (SV × List SB) (λv hp'=>some (v,hp'))=some (v,hp'))(ha:∀x∈args,x.lt hp.length)(hv:v.shut=true)(w:World){Z:Nat->Value}(hs:HpSat noX w w Z hp)(vs:List Value)(hvs:args.map (SV.den Z)=vs) :
  Calls P f vs.toArray w λe w'=>e=.returned (v.den λ_=>undef)/\LowB w w':=by
 have:=h.2 args hp v hp' hc ha noX w Z hs;rw[hvs] at this;exact this.mono λe w' ⟨Z',_,_,a,_,_,b⟩=>⟨by rw[a,SV.shut_den hv Z' λ_=>undef],lowB_of_stays b⟩
def ViewsOK(w:World):List Value->List SB->Prop
 | [],[]=>True
 | v::vs,.view t l::hp=>qBw noX w w t v l/\ViewsOK w vs hp
 | _,_=>False
theorem viewsOK_at{w:World}:∀ {vs:List Value} {hp:List SB},ViewsOK w vs hp->∀(i:Nat) (sb:SB),hp[i]?=some sb->∃t l,sb=.view t l/\qBw noX w w t (vs.getD i undef) l
 | [],[],_,i,sb,h=>by simp at h
 | v::vs,.view t l::hp,h,i,sb,hi=>by
  cases i with
  | zero =>
   simp at hi;exact⟨t,l,hi.symm,h.1⟩
  | succ i =>
   obtain⟨t',l',h1,h2⟩:=viewsOK_at h.2 i sb (by simpa using hi);exact⟨t',l',h1,by simpa using h2⟩
 | [],_::_,h,_,_,_=>h.elim
 | _::_,[],h,_,_,_=>h.elim
 | _::_,.cells ..::_,h,_,_,_=>h.elim
 | _::_,.row ..::_,h,_,_,_=>h.elim
 | _::_,.part ..::_,h,_,_,_=>h.elim
 | _::_,.dead::_,h,_,_,_=>h.elim
theorem views_sat{w:World}{vs:List Value}{hp:List SB}(h:ViewsOK w vs hp)(ht:tabOK noX w):HpSat noX w w (λi=>vs.getD i undef) hp:=by
 have key:=viewsOK_at h;refine⟨λi hi=>?_,λi sb hi=>?_,λi sb hi=>?_,λi j sb sb' b _ hi hj e1 _ _ _=>?_,ht⟩
 ·obtain⟨t,l,_,a,cap,hv,_⟩:=key i hp[i] (by simp[hi]);show qBs (vs.getD i undef);rw[hv];trivial
 ·obtain⟨t,l,rfl,hv⟩:=key i sb hi;exact hv
 ·obtain⟨t,l,rfl,hv⟩:=key i sb hi;trivial
 ·obtain⟨t,l,rfl,hv⟩:=key i sb hi;cases e1
section
variable {H:Type} {enc:TypeId × Value->H} {W:World} {sp:Nat->Bool} {held:Bool} {r:Reach} {b0:Nat}
theorem bulkAll_mem:∀ {l:List (DataW H)} {d:DataW H},d∈l->Rows.uptoBulk d<=Rows.uptoBulkAll l
 | x::l,d,h=>by
  simp only[Rows.uptoBulkAll];rcases List.mem_cons.1 h with rfl | h
  ·omega
  ·have:=bulkAll_mem h;omega
theorem bulk_pos(d:DataW H):1<=Rows.uptoBulk d:=by
 cases d with
 | lit l=>cases l <;> simp[Rows.uptoBulk]
 | _=>all_goals simp[Rows.uptoBulk]
theorem bulkAll_len:∀(l:List (DataW H)),l.length<=Rows.uptoBulkAll l
 | []=>by simp
 | x::l=>by
  have h1:=bulk_pos x;have h2:=bulkAll_len l;simp only[Rows.uptoBulkAll,List.length_cons];omega
theorem view_mk{t:ET}{a:Addr}{len cap:Nat}{N:Nat->t.T}(hl:len<=cap)(hb:0<len->a.block<W.heap.size)
  (hc:∀i,i<len->∀j u,(t.enc (N i))[j]?=some u->W.cell? (a.add (i*t.sz+j))=some u):qBw noX W W t (.slice (some a) len cap) ((List.range len).map N):=by
 refine⟨some a,cap,by simp,by simpa using hl,λp u hu=>⟨a,rfl,?_⟩⟩;have hlt:p<((List.range len).map N).length*t.sz:=by
  have:=(List.getElem?_eq_some_iff.1 hu).1;rwa [qAm t.enc_len] at this
 simp only[List.length_map,List.length_range] at hlt;have hsz:=t.sz_pos;have hi:p / t.sz<len:=(Nat.div_lt_iff_lt_mul hsz).2 hlt;have hj:p % t.sz<t.sz:=Nat.mod_lt _ hsz;have he:(t.enc (((List.range len).map N).getD (p / t.sz) t.dft))[p % t.sz]?=some (t.enc (N (p / t.sz)))[p % t.sz]!:=by
  have e1:((List.range len).map N).getD (p / t.sz) t.dft=N (p / t.sz):=by simp[List.getD,hi]
  rw[e1,List.getElem?_eq_getElem (by rw[t.enc_len];exact hj),List.getElem!_eq_getElem?_getD,List.getElem?_eq_getElem (by rw[t.enc_len];exact hj)];rfl
 have h1:=qCa t.enc_len t.dft ((List.range len).map N) (p / t.sz) (p % t.sz) _ (by simpa using hi) he;have e2:p / t.sz*t.sz+p % t.sz=p:=Nat.div_add_mod' p t.sz;rw[e2,hu] at h1;have h2:=hc (p / t.sz) hi (p % t.sz) u (by
  have e1:((List.range len).map N).getD (p / t.sz) t.dft=N (p / t.sz):=by simp[List.getD,hi]
  rw[e1] at he;rw[he,<-Option.some.inj h1])
 rw[e2] at h2;exact⟨h2,.inl ⟨hb (Nat.lt_of_le_of_lt (Nat.zero_le _) hi),id⟩⟩
theorem view_nil{t:ET}:qBw noX W W t (.slice none 0 0) []:=⟨none,0,rfl,Nat.le_refl _,λj u h=>by simp at h⟩
theorem choose_ltV{U:Type}[Inhabited U]{n:Nat}{P:Nat->U->Prop}(h:∀i,i<n->∃x,P i x):∃f:Nat->U,∀i,i<n->P i (f i):=by
 classical
 refine⟨λi=>if hi:i<n then(h i hi).choose else default,λi hi=>?_⟩;simp only[hi,dif_pos];exact(h i hi).choose_spec
structure NodeB (B:Nat) (n:Eng.Node):Prop where
 kind:qAd n.kind
 key:n.key.size<=B
 text:n.text.size<=B
 int:qAd n.int
 kids:qAd n.kids
instance:Inhabited Eng.Node:=⟨⟨0,.empty,.empty,false,0,0⟩⟩
theorem openV_strs_cells{fuel B:Nat}{c:Value}{y:DataW H × List MemPlace}(h:DataW.trod enc Tryd.prog W 0 sp held fuel 28 [c]=some y)(hz:Rows.uptoBulk y.1<=B) :
  ∃(v:Value) (xs:List BA),[c]=[v]/\qBw noX W W .str v xs/\(∀s∈xs,s.size<=B)/\xs.length<=B/\xs.length<=9223372036854775807:=by
 have hlt:=DataW.trod_lt _ _ _ _ h;rcases open_slice Tryd.underlying28 h with⟨hcs,_⟩ | ⟨a,len,cap,m,fu,D,Pl,hcs,_,hl,hm,hmm,rfl,hel⟩
 ·exact⟨_,[],hcs,view_nil,by simp,by simp,by simp⟩
 ·have hlm:len<=m:=by rw[hmm];split <;> omega
  rw[show Tryd.prog.cellsOf 9=1 by kernel_rfl] at hel;simp only[Rows.uptoBulk] at hz;have each:∀i,i<len->∃x:BA,x.size<=B/\∀j u,(ET.str.enc x)[j]?=some u->W.cell? (a.add (i*1+j))=some u:=by
   intro i hi;obtain⟨cs',hcells,htr⟩:=hel i (by omega);obtain⟨x,e,hd,_⟩:=DataW.trod_string Tryd.underlying9 htr;have hd1:D i=.lit (.string x.data.toList):=congrArg Prod.fst hd;subst e;obtain⟨_,hcl,hat⟩:=World.cells?_some hcells;refine⟨x,?_,λj u hj=>?_⟩
   ·have h1:=bulkAll_mem (H:=H) (l:=(List.range len).map D) (List.mem_map.2 ⟨i,List.mem_range.2 hi,rfl⟩);rw[hd1] at h1;simp only[Rows.uptoBulk,Array.length_toList] at h1;have:x.size=x.data.size:=rfl;omega
   ·have hj1:j<1:=by
     have:=(List.getElem?_eq_some_iff.1 hj).1;simpa[ET.enc] using this
    have:=hat j hj1;rw[Go.Deep.add_add] at this;rw[this];exact hj
  obtain⟨N,hN⟩:=choose_ltV (U:=BA) each;refine⟨_,(List.range len).map N,hcs,view_mk (t:=.str) hl (λh0=>?_) (λi hi=>(hN i hi).2),λs hs=>?_,?_,?_⟩
  ·exact hlt (.cell a.block a.off) (by
    simp only[MemPlace.row,List.mem_append,List.mem_map,List.mem_range];exact .inl ⟨0,by rw[show Tryd.prog.cellsOf 9=1 by kernel_rfl];omega,by simp⟩)
  ·obtain⟨i,hi,rfl⟩:=List.mem_map.1 hs;exact(hN i (List.mem_range.1 hi)).1
  ·have h1:=bulkAll_len (H:=H) ((List.range len).map D);simp only[List.length_map,List.length_range] at h1 ⊢;omega
  ·unfold maxLen at hm;simp only[List.length_map,List.length_range];omega
theorem openV_node_cells{fuel B:Nat}{l:List Value}{y:DataW H × List MemPlace}(h:DataW.trod enc Tryd.prog W 0 sp held fuel 39 l=some y)(hz:Rows.uptoBulk y.1<=B) :
  ∃x:Eng.Node,l=ET.node.enc x/\NodeB B x:=by
 obtain⟨xs,n,_,hx,hll,hlen,hg⟩:=DataW.trod_struct Tryd.underlying39 h;rw[show Tryd.prog.cellsOf 39=6 by kernel_rfl] at hll;match l,hll,xs,hlen with
 | [c0,c1,c2,c3,c4,c5],_,[y0,y1,y2,y3,y4,y5],_ =>
  subst hx;have g0:DataW.trod enc Tryd.prog W 0 sp held n 37 [c0]=some y0:=by simpa[show Tryd.prog.cellsOf 37=1 by kernel_rfl] using hg 0 _ rfl
  have g1:DataW.trod enc Tryd.prog W 0 sp held n 9 [c1]=some y1:=by simpa[show Tryd.prog.cellsOf 9=1 by kernel_rfl] using hg 1 _ rfl
  have g2:DataW.trod enc Tryd.prog W 0 sp held n 9 [c2]=some y2:=by simpa[show Tryd.prog.cellsOf 9=1 by kernel_rfl] using hg 2 _ rfl
  have g3:DataW.trod enc Tryd.prog W 0 sp held n 4 [c3]=some y3:=by simpa[show Tryd.prog.cellsOf 4=1 by kernel_rfl] using hg 3 _ rfl
  have g4:DataW.trod enc Tryd.prog W 0 sp held n 2 [c4]=some y4:=by simpa[show Tryd.prog.cellsOf 2=1 by kernel_rfl] using hg 4 _ rfl
  have g5:DataW.trod enc Tryd.prog W 0 sp held n 3 [c5]=some y5:=by simpa[show Tryd.prog.cellsOf 3=1 by kernel_rfl] using hg 5 _ rfl
  obtain⟨a0,e0,d0,i0⟩:=DataW.trod_int Tryd.underlying37 g0;obtain⟨a1,e1,d1,i1⟩:=DataW.trod_string Tryd.underlying9 g1;obtain⟨a2,e2,d2,i2⟩:=DataW.trod_string Tryd.underlying9 g2;obtain⟨a3,e3,d3⟩:=DataW.trod_bool Tryd.underlying4 g3;obtain⟨a4,e4,d4,i4⟩:=DataW.trod_int Tryd.underlying2 g4;obtain⟨a5,e5,d5,i5⟩:=DataW.trod_int Tryd.underlying3 g5;simp only[List.cons.injEq,and_true] at e0 e1 e2 e3 e4 e5;subst e0 e1 e2 e3 e4 e5;subst d0 d1 d2 d3 d4 d5;simp only[List.map_cons,List.map_nil,Rows.uptoBulk,Rows.uptoBulkAll,Array.length_toList] at hz;have q1:a1.size=a1.data.size:=rfl;have q2:a2.size=a2.data.size:=rfl;exact⟨⟨a0,a1,a2,a3,a4,a5⟩,rfl,Go.Eng.i64_of_wf i0,by show a1.size<=B;omega,by show a2.size<=B;omega,Go.Eng.i64_of_wf i4,Go.Eng.i64_of_wf i5⟩
theorem openV_nodes_cells{fuel B:Nat}{c:Value}{y:DataW H × List MemPlace}(h:DataW.trod enc Tryd.prog W 0 sp held fuel 26 [c]=some y)(hz:Rows.uptoBulk y.1<=B) :
  ∃(v:Value) (xs:List Eng.Node),[c]=[v]/\qBw noX W W .node v xs/\(∀n∈xs,NodeB B n)/\xs.length<=B:=by
 have hlt:=DataW.trod_lt _ _ _ _ h;rcases open_slice Tryd.underlying26 h with⟨hcs,_⟩ | ⟨a,len,cap,m,fu,D,Pl,hcs,_,hl,hm,hmm,rfl,hel⟩
 ·exact⟨_,[],hcs,view_nil,by simp,by simp⟩
 ·have hlm:len<=m:=by rw[hmm];split <;> omega
  rw[show Tryd.prog.cellsOf 39=6 by kernel_rfl] at hel;simp only[Rows.uptoBulk] at hz;have each:∀i,i<len->∃x:Eng.Node,NodeB B x/\∀j u,(ET.node.enc x)[j]?=some u->W.cell? (a.add (i*6+j))=some u:=by
   intro i hi;obtain⟨cs',hcells,htr⟩:=hel i (by omega);have h1:=bulkAll_mem (H:=H) (l:=(List.range len).map D) (List.mem_map.2 ⟨i,List.mem_range.2 hi,rfl⟩);obtain⟨x,rfl,hok⟩:=openV_node_cells (B:=B) htr (by show Rows.uptoBulk (D i)<=B;omega);obtain⟨_,hcl,hat⟩:=World.cells?_some hcells;refine⟨x,hok,λj u hj=>?_⟩;have hj6:j<6:=by
    have:=(List.getElem?_eq_some_iff.1 hj).1;simpa[ET.enc] using this
   have:=hat j hj6;rw[hj,Go.Deep.add_add] at this;exact this
  obtain⟨N,hN⟩:=choose_ltV (U:=Eng.Node) each;refine⟨_,(List.range len).map N,hcs,view_mk (t:=.node) hl (λh0=>?_) (λi hi=>(hN i hi).2),λs hs=>?_,?_⟩
  ·exact hlt (.cell a.block a.off) (by
    simp only[MemPlace.row,List.mem_append,List.mem_map,List.mem_range];exact .inl ⟨0,by rw[show Tryd.prog.cellsOf 39=6 by kernel_rfl];omega,by simp⟩)
  ·obtain⟨i,hi,rfl⟩:=List.mem_map.1 hs;exact(hN i (List.mem_range.1 hi)).1
  ·have h1:=bulkAll_len (H:=H) ((List.range len).map D);simp only[List.length_map,List.length_range] at h1 ⊢;omega
end
section
variable {H:Type} {enc:TypeId × Value->H} {W:World} {sp:Nat->Bool} {held:Bool} {r:Reach} {b0:Nat}
theorem bulk_str{B:Nat}{s:BA}(h:Rows.uptoBulk (H:=H) (.lit (.string s.data.toList))<=B):s.size<=B:=by
 simp only[Rows.uptoBulk,Array.length_toList] at h;have:s.size=s.data.size:=rfl;omega
theorem openVS_entry{B:Nat}{v:Value}{d:DataW H}{p:List MemPlace}(hv:Value.okWide Tryd.prog W r b0 30 v)(h:DataW.Trod enc Tryd.prog W 0 sp held 30 v d p)(hz:Rows.uptoBulk d<=B) :
  ∃(valueV:Value) (value:List Eng.Node) (kty:Int) (kid:BA) (hasKid:Bool) (use:BA) (hasUse:Bool) (alg:BA) (hasAlg:Bool) (opsV:Value) (ops:List BA) (hasOps:Bool),v=.agg #[valueV,.int .i64 kty,.string kid,.bool hasKid,.string use,.bool hasUse,.string alg,.bool hasAlg,opsV,.bool hasOps] /\
   (qBw noX W W .node valueV value/\(∀n∈value,NodeB B n)/\value.length<=B)/\(-9223372036854775808<=kty/\kty<=9223372036854775807)/\kid.size<=B/\use.size<=B/\alg.size<=B/\(qBw noX W W .str opsV ops/\(∀s∈ops,s.size<=B)/\ops.length<=B/\ops.length<=9223372036854775807):=by
 obtain⟨cs,rfl,hsz⟩:=okWide_struct Tryd.underlying30 hv;obtain⟨l⟩:=cs;have hC:Tryd.prog.cellsOf 30=10:=by kernel_rfl
 match l,hsz.trans hC with
 | [c0,c1,c2,c3,c4,c5,c6,c7,c8,c9],_ =>
  obtain⟨fuel,hf⟩:=h;obtain⟨xs,n,_,hx,_,hlen,hg⟩:=DataW.trod_struct Tryd.underlying30 hf;match xs,hlen with
  | [y0,y1,y2,y3,y4,y5,y6,y7,y8,y9],_ =>
   simp only[Prod.mk.injEq,List.map_cons,List.map_nil] at hx;obtain⟨rfl,_⟩:=hx;simp only[Rows.uptoBulk,Rows.uptoBulkAll] at hz;have g0:DataW.trod enc Tryd.prog W 0 sp held n 26 [c0]=some y0:=by simpa[show Tryd.prog.cellsOf 26=1 by kernel_rfl,Value.cells] using hg 0 _ rfl
   have z0:Rows.uptoBulk y0.1<=B:=by omega
   have g1:DataW.trod enc Tryd.prog W 0 sp held n 27 [c1]=some y1:=by simpa[show Tryd.prog.cellsOf 27=1 by kernel_rfl,Value.cells] using hg 1 _ rfl
   have z1:Rows.uptoBulk y1.1<=B:=by omega
   have g2:DataW.trod enc Tryd.prog W 0 sp held n 9 [c2]=some y2:=by simpa[show Tryd.prog.cellsOf 9=1 by kernel_rfl,Value.cells] using hg 2 _ rfl
   have z2:Rows.uptoBulk y2.1<=B:=by omega
   have g3:DataW.trod enc Tryd.prog W 0 sp held n 4 [c3]=some y3:=by simpa[show Tryd.prog.cellsOf 4=1 by kernel_rfl,Value.cells] using hg 3 _ rfl
   have z3:Rows.uptoBulk y3.1<=B:=by omega
   have g4:DataW.trod enc Tryd.prog W 0 sp held n 9 [c4]=some y4:=by simpa[show Tryd.prog.cellsOf 9=1 by kernel_rfl,Value.cells] using hg 4 _ rfl
   have z4:Rows.uptoBulk y4.1<=B:=by omega
   have g5:DataW.trod enc Tryd.prog W 0 sp held n 4 [c5]=some y5:=by simpa[show Tryd.prog.cellsOf 4=1 by kernel_rfl,Value.cells] using hg 5 _ rfl
   have z5:Rows.uptoBulk y5.1<=B:=by omega
   have g6:DataW.trod enc Tryd.prog W 0 sp held n 9 [c6]=some y6:=by simpa[show Tryd.prog.cellsOf 9=1 by kernel_rfl,Value.cells] using hg 6 _ rfl
   have z6:Rows.uptoBulk y6.1<=B:=by omega
   have g7:DataW.trod enc Tryd.prog W 0 sp held n 4 [c7]=some y7:=by simpa[show Tryd.prog.cellsOf 4=1 by kernel_rfl,Value.cells] using hg 7 _ rfl
   have z7:Rows.uptoBulk y7.1<=B:=by omega
   have g8:DataW.trod enc Tryd.prog W 0 sp held n 28 [c8]=some y8:=by simpa[show Tryd.prog.cellsOf 28=1 by kernel_rfl,Value.cells] using hg 8 _ rfl
   have z8:Rows.uptoBulk y8.1<=B:=by omega
   have g9:DataW.trod enc Tryd.prog W 0 sp held n 4 [c9]=some y9:=by simpa[show Tryd.prog.cellsOf 4=1 by kernel_rfl,Value.cells] using hg 9 _ rfl
   have z9:Rows.uptoBulk y9.1<=B:=by omega
   clear hz hg;obtain⟨valueV,value,e0,i0⟩:=openV_nodes_cells g0 z0;simp only[List.cons.injEq,and_true] at e0;subst e0;obtain⟨kty,e1,rfl,i1⟩:=DataW.trod_int Tryd.underlying27 g1;simp only[List.cons.injEq,and_true] at e1;subst e1;obtain⟨kid,e2,rfl,i2⟩:=DataW.trod_string Tryd.underlying9 g2;simp only[List.cons.injEq,and_true] at e2;subst e2;obtain⟨hasKid,e3,rfl⟩:=DataW.trod_bool Tryd.underlying4 g3;simp only[List.cons.injEq,and_true] at e3;subst e3;obtain⟨use,e4,rfl,i4⟩:=DataW.trod_string Tryd.underlying9 g4;simp only[List.cons.injEq,and_true] at e4;subst e4;obtain⟨hasUse,e5,rfl⟩:=DataW.trod_bool Tryd.underlying4 g5;simp only[List.cons.injEq,and_true] at e5;subst e5;obtain⟨alg,e6,rfl,i6⟩:=DataW.trod_string Tryd.underlying9 g6;simp only[List.cons.injEq,and_true] at e6;subst e6;obtain⟨hasAlg,e7,rfl⟩:=DataW.trod_bool Tryd.underlying4 g7;simp only[List.cons.injEq,and_true] at e7;subst e7;obtain⟨opsV,ops,e8,i8⟩:=openV_strs_cells g8 z8;simp only[List.cons.injEq,and_true] at e8;subst e8;obtain⟨hasOps,e9,rfl⟩:=DataW.trod_bool Tryd.underlying4 g9;simp only[List.cons.injEq,and_true] at e9;subst e9;exact⟨_,value,kty,kid,hasKid,use,hasUse,alg,hasAlg,_,ops,hasOps,rfl,i0,Go.Eng.i64_of_wf i1,bulk_str z2,bulk_str z4,bulk_str z6,i8⟩
end
open Go.Eng
theorem cells_strs{H:Type}{enc:TypeId × Value->H}{P:Program}{w:World}{base:Nat}{sp:Nat->Bool}{held:Bool}{fuel:Nat}{t e:TypeId}{n:Nat}{cs:List Value}{zs:List (List UInt8)}{p:List MemPlace}
  (ht:P.underlying t=some (.array n e)) (he:P.underlying e=some .string) (hce:P.cellsOf e=1) (hct:P.cellsOf t=n)
  (h:DataW.trod enc P w base sp held fuel t cs=some (.agg (zs.map λz=>.lit (.string z)),p)):cs=zs.map λz=>Value.string ⟨z.toArray⟩:=by
 cases fuel with
 | zero=>simp[DataW.trod] at h
 | succ fuel =>
  simp only[DataW.trod,ht,hce,hct,Nat.mul_one] at h;split at h
  ·rename_i hl;obtain⟨xs,hm,hx⟩:=Option.map_eq_some_iff.1 h;have hxs:xs.map (·.1)=zs.map λz=>(DataW.lit (.string z):DataW H):=by
    have:=congrArg Prod.fst hx;simpa using this
   have hxl:xs.length=n:=by simpa using Lib.mapM_length hm
   have hzl:zs.length=n:=by
    have:=congrArg List.length hxs;simp at this;omega
   apply List.ext_getElem?;intro i;by_cases hi:i<n
   ·obtain⟨b,hb,hf⟩:=Lib.mapM_at hm i i (by simp[hi]);obtain⟨z,hc,rfl,_⟩:=DataW.trod_string he hf;have h1:cs[i]?=some (.string z):=by
     have:=congrArg (·[0]?) hc;simpa[List.getElem?_take,List.getElem?_drop] using this
    have h2:(xs.map (·.1))[i]?=some (DataW.lit (.string z.data.toList):DataW H):=by simp[hb]
    rw[hxs] at h2;simp only[List.getElem?_map,Option.map_eq_some_iff,DataW.lit.injEq,Lit.string.injEq] at h2;obtain⟨z',hz',rfl⟩:=h2;simp only[h1,List.getElem?_map,hz',Option.map_some]
   ·rw[List.getElem?_eq_none (by omega),List.getElem?_eq_none (by simp;omega)]
  ·cases h
def namesZ:List (List UInt8):=[[],[72,83,50,53,54],[72,83,51,56,52],[72,83,53,49,50],[82,83,50,53,54],[82,83,51,56,52],[82,83,53,49,50],[80,83,50,53,54],[80,83,51,56,52],[80,83,53,49,50],[69,83,50,53,54],[69,83,51,56,52],[69,100,68,83,65]]
theorem names_cells{W:World}(h:Lib.VarReads Tryd.prog W "signet/keyset.names" Rows.laid_signet_keyset_names):∀k,k<13->W.cell? ⟨0,k,none⟩=some (.string (algAt k)):=by
 intro k hk;obtain⟨g,t,cs,fuel,p,hg,hty,hvar,hd⟩:=h;have hg':Tryd.prog.globalNamed "signet/keyset.names" = some 0:=by kernel_rfl
 obtain rfl:=Option.some.inj (hg'.symm.trans hg);have hty':(Tryd.prog.globals[0]?).map (·.type)=some 51:=by kernel_rfl
 obtain rfl:=Option.some.inj (hty'.symm.trans hty);have hcs:=cells_strs (n:=13) (e:=9) (zs:=namesZ) (by kernel_rfl) (by kernel_rfl) (by kernel_rfl) (by kernel_rfl) hd;rw[World.var?_cell hg hvar k,<-Array.getElem?_toList,hcs];match k,hk with
 | 0,_ | 1,_ | 2,_ | 3,_ | 4,_ | 5,_ | 6,_ | 7,_ | 8,_ | 9,_ | 10,_ | 11,_ | 12,_=>rfl
theorem names_tabs{W:World}(h:Lib.VarReads Tryd.prog W "signet/keyset.names" Rows.laid_signet_keyset_names):tabOK noX W:=⟨rfl,names_cells h,λh=>h⟩
theorem keysetBinds_tabs{W:World}(h:laidMetH Tryd.prog Rows.keysetBindsUptoRow.laid W):tabOK noX W:=by
 have h':laidMet Tryd.prog Rows.keysetBindsUptoRow.laid W:=h;exact names_tabs (Lib.laidMet.reads h' List.mem_cons_self)
theorem keysetBinds_walk(valueV:Value)(value:List Eng.Node)(kty:Int)(kid:BA)(hasKid:Bool)(use:BA)(hasUse:Bool)(alg:BA)(hasAlg:Bool)(opsV:Value)(ops:List BA)(hasOps:Bool)(a:Int)(W:World)
  (h0:qBw noX W W .node valueV value/\(∀n∈value,NodeB 1048576 n)/\value.length<=1048576) (h1 : -9223372036854775808<=kty/\kty<=9223372036854775807) (h2:kid.size<=1048576) (h3:use.size<=1048576) (h4:alg.size<=1048576) (h5:qBw noX W W .str opsV ops/\(∀s∈ops,s.size<=1048576)/\ops.length<=1048576/\ops.length<=9223372036854775807) (h6 : -9223372036854775808<=a/\a<=9223372036854775807) (hT:tabOK noX W) :
  Calls Tryd.prog 4 #[.agg #[valueV,.int .i64 kty,.string kid,.bool hasKid,.string use,.bool hasUse,.string alg,.bool hasAlg,opsV,.bool hasOps],.int .i64 a] W λe w'=>e=.returned (.bool true)/\LowB W w':=by
 refine callV zaf_val
  (args:=[.c (.agg [.own 0,.val (.int .i64 kty),.val (.string kid),.val (.bool hasKid),.val (.string use),.val (.bool hasUse),.val (.string alg),.val (.bool hasAlg),.own 1,.val (.bool hasOps)]),.c (.o (.val (.int .i64 a)))])
  (hp:=[.view .node value,.view .str ops]) (hp':=[.view .node value,.view .str ops]) (v:=.c (.o (.val (.bool true)))) ?_ ?_ rfl W
  (views_sat (vs:=[valueV,opsV]) ⟨h0.1,h5.1,tV⟩ hT) _ rfl
 ·show((zaf_s ⟨value,kty,kid,hasKid,use,hasUse,alg,hasAlg,ops,hasOps⟩ a).bind λr=>some ((.c (.o (.val (.bool r))),[.view .node value,.view .str ops]):SV × List SB))=_;rw[keysetBinds_plain ⟨value,kty,kid,hasKid,use,hasUse,alg,hasAlg,ops,hasOps⟩ a h6 ⟨by show value.length<=_;omega,λn hn=>⟨by have:=(h0.2.1 n hn).key;omega,by have:=(h0.2.1 n hn).text;omega,(h0.2.1 n hn).kids⟩⟩ h5.2.2.1 h5.2.1 (λn hn=>(h0.2.1 n hn).text)];rfl
 ·intro x hx;simp only[List.mem_cons,List.not_mem_nil,or_false] at hx;rcases hx with rfl | rfl
  ·intro y hy;simp only[List.mem_cons,List.not_mem_nil,or_false] at hy;rcases hy with rfl | rfl | rfl | rfl | rfl | rfl | rfl | rfl | rfl | rfl <;> first | trivial | (show _<2;omega)
  ·trivial
end Go.Proofs.YtngikdcgcakaaaaDoor
