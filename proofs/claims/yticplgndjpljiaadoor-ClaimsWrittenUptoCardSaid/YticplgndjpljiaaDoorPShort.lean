/-
  The shortest text of what is read is no longer than the text; what is written of concrete values can be computed. No program.
-/
import Derived.Test.YticplgndjpljiaaDoorPPrint
namespace Go.Proofs.YticplgndjpljiaaDoor
open Go.Eng
set_option linter.unusedVariables false
set_option linter.unusedSimpArgs false
def Stop (c:Int):Prop:=¬(48≤c∧c≤57)∧c≠46∧c≠101∧c≠69
theorem has_at {t s:BA} {a:Nat} (h:Has t a (qAi s)) {i:Nat} (hi:i<s.size):bAt t ((a+i:Nat):Int)=bAt s (i:Int):=by
 have key:∀(L:List Int) (a i:Nat),Has t a L→i<L.length→bAt t ((a+i:Nat):Int)=L.getD i 0:=by
  intro L;induction L with
  | nil=>intro a i _ h; simp at h
  | cons c L ih =>
   intro a i h hi;cases i with
   | zero=>exact h.1
   | succ i =>
    have:=ih (a+1) i h.2 (by simpa using hi);rw [show a+(i+1)=a+1+i by omega,this];rfl
 rw [key _ a i h (by rw [qAp]; exact hi),List.getD_eq_getElem?_getD,qDe hi];rfl
theorem many_says {t s:BA} {a:Nat} (h:Has t a (qAi s)) (hst:Stop (bAt t ((a+s.size:Nat):Int))):∀(n i:Nat),s.size - i≤n→i≤s.size→qCz t (a+i)=a+qCz s i
 | 0,i,h1,h2=>by
  have hi:i=s.size:=by omega
  subst hi;have e1:digS s ((s.size:Nat):Int)=false:=by unfold digS; rw [qBw (by omega)]; rfl
  have e2:digS t ((a+s.size:Nat):Int)=false:=by
   unfold digS;unfold Stop at hst;rw [←Bool.not_eq_true,Bool.and_eq_true,decide_eq_true_eq,decide_eq_true_eq];exact hst.1
  rw [qBz e1,qBz e2]
 | n+1,i,h1,h2=>by
  by_cases hlt:i<s.size
  ·have e:digS t ((a+i:Nat):Int)=digS s (i:Int):=by unfold digS; rw [has_at h hlt]
   by_cases hd:digS s (i:Int)=true
   ·rw [qCk (e.trans hd),qCk hd];exact many_says h hst n (i+1) (by omega) (by omega)
   ·have hd:digS s (i:Int)=false:=by simpa using hd
    rw [qBz (e.trans hd),qBz hd]
  ·exact many_says h hst 0 i (by omega) h2
theorem numR_says {t s:BA} {a:Nat} (hr:qCj s=true) (h:Has t a (qAi s)) (hst:Stop (bAt t ((a+s.size:Nat):Int))):numR t a=.ok (a+s.size) ():=by
 have mm:∀i,i≤s.size→qCz t (a+i)=a+qCz s i:=fun i hi=>many_says h hst (s.size - i) i (Nat.le_refl _) hi
 unfold qCj at hr;simp only [Bool.and_eq_true,Bool.not_eq_true',decide_eq_true_eq,Bool.and_eq_false_iff,decide_eq_false_iff_not] at hr;obtain ⟨⟨⟨h1,h2⟩,h3⟩,h4⟩:=hr;unfold badA at h1;simp only [Bool.or_eq_false_iff,Bool.and_eq_false_iff,decide_eq_false_iff_not] at h1;have hge:∀i,i≤qCz s i:=qD9 s;have hle:∀i,i≤s.size→qCz s i≤s.size:=fun i hi=>manyS_le s i hi
 have hpos:0<s.size:=by
  rcases Nat.eq_zero_or_pos s.size with h0 | h0
  ·exfalso;refine h1.1 ?_;unfold atB;rw [qBz];unfold digS;rw [qBw (by omega)];rfl
  ·exact h0
 have hA:signS t a=a+atA s:=by
  unfold signS atA;have:=has_at h (i:=0) hpos;rw [Nat.add_zero] at this;rw [this];show (if bAt s 0=45 then a+1 else a)=_;split <;> rfl
 have hA1:atA s≤s.size:=by unfold atA; split <;> omega
 have hB1:atB s≤s.size:=hle _ hA1;have hB2:atA s<atB s:=by
  have:=hge (atA s);have h1:=h1.1;unfold atB at h1 ⊢;omega
 have hAt:=has_at h (i:=atA s) (by omega);have hz:zeroR t (signS t a)=.ok (a+atB s) ():=by
  rw [hA];unfold zeroR;rw [hAt];by_cases h48:bAt s (atA s:Int)=48
  ·rw [if_pos h48];have:=h1.2.resolve_left (fun h=>h h48);rw [show a+atA s+1=a+atB s by omega]
  ·rw [if_neg h48];unfold digR;rw [mm _ hA1,if_neg (by unfold atB at hB2; omega)];rfl
 have hd:dotR t (a+atB s)=.ok (a+atC s) ()∧atC s≤s.size:=by
  unfold dotR atC;by_cases hdot:dotS s=true
  ·rw [if_pos hdot];have hb46:bAt s (atB s:Int)=46:=by unfold dotS at hdot; exact of_decide_eq_true hdot
   have hlt:atB s<s.size:=by have:=(qCu (s:=s) (i:=(atB s:Int)) (by omega)).2; omega
   rw [has_at h hlt,if_pos hb46];have hk:=h2.resolve_left (fun h=>by rw [hdot] at h; cases h);unfold digR;rw [show a+atB s+1=a+(atB s+1) by omega,mm _ (by omega),if_neg (by unfold atK at hk; omega)];exact ⟨rfl,hle _ (by omega)⟩
  ·rw [if_neg hdot];have hb46:¬bAt s (atB s:Int)=46:=by unfold dotS at hdot; exact fun h=>hdot (deT h)
   by_cases hlt:atB s<s.size
   ·rw [has_at h hlt,if_neg hb46];exact ⟨rfl,hB1⟩
   ·rw [show atB s=s.size by omega,if_neg hst.2.1];exact ⟨rfl,Nat.le_refl _⟩
 have hp:powR t (a+atC s)=.ok (a+s.size) ():=by
  unfold atG at h4;unfold powR;by_cases hexp:expS s=true
  ·rw [if_pos hexp] at h4;have he:bAt s (atC s:Int)=101∨bAt s (atC s:Int)=69:=by unfold expS at hexp; simpa using hexp
   have hlt:atC s<s.size:=by have:=(qCu (s:=s) (i:=(atC s:Int)) (by omega)).2; omega
   have hf:=h3.resolve_left (fun h=>by rw [hexp] at h; cases h);rw [has_at h hlt,if_pos he];have hlt2:atC s+1<s.size:=by
    rcases Nat.lt_or_ge (atC s+1) s.size with hh | hh
    ·exact hh
    ·exfalso;have hsg:sgnS s=false:=by
      unfold sgnS;rw [qBw (by omega)];rfl
     have hE:atE s=atC s+1:=by unfold atE; rw [hsg,if_neg (by decide)]
     refine hf ?_;unfold atF;rw [qBz];unfold digS;rw [qBw (by omega)];rfl
   have h5:=has_at h hlt2;have hq:(if bAt t ((a+atC s+1:Nat):Int)=43∨bAt t ((a+atC s+1:Nat):Int)=45 then a+atC s+2 else a+atC s+1)=a+atE s:=by
    rw [show a+atC s+1=a+(atC s+1) by omega,h5];unfold atE sgnS;rw [show ((atC s+1:Nat):Int)=(atC s:Int)+1 by omega];by_cases hs:bAt s ((atC s:Int)+1)=43∨bAt s ((atC s:Int)+1)=45
    ·rw [if_pos hs,if_pos (by simpa using hs)];omega
    ·rw [if_neg hs,if_neg (by simpa using hs)]
   rw [hq];have hEle:atE s≤s.size:=by unfold atE; split <;> omega
   unfold digR;rw [mm _ hEle,if_neg (by unfold atF at hf; omega)];unfold atF at h4;rw [h4]
  ·rw [if_neg hexp] at h4;rw [h4,if_neg (by unfold Stop at hst; omega)]
 unfold numR;rw [hz];dsimp only;rw [hd.1];dsimp only;rw [hp]
theorem litR_says {t:BA}:∀ {w:List Int} {a:Nat},Has t a w→litR t w a=.ok (a+w.length) ()
 | [],a,h=>rfl
 | c::w,a,h=>by
  unfold litR;rw [if_pos h.1,litR_says h.2,List.length_cons];congr 1
  omega
theorem pB_inv {n:Eng.Node} (hn:n.text.size≤3000000) (h:pB n=true) :
  (n.kind=4∧n.kids=0∧qCj n.text=true∧n.whole=(qE8 n.text).2∧n.int=(qE8 n.text).1) ∨
  (n.kind=5∧n.kids=0∧n.whole=false∧n.int=0∧Lib.validD n.text.data.toList=true) ∨
  ((n.kind=1∨n.kind=2∨n.kind=3)∧n.kids=0∧n.whole=false∧n.int=0∧n.text=⟨#[]⟩) ∨
  ((n.kind=6∨n.kind=7)∧0≤n.kids∧n.whole=false∧n.int=0∧n.text=⟨#[]⟩):=by
 have hu:qBe n.text=some (Lib.validD n.text.data.toList):=qAb (by omega) _;unfold pB zav_s at h;rw [p_Valid _ hn,whole_j _ hn,hu] at h;simp only [obS] at h;cases h1:((((decide (n.kind<(1:Int))) || (decide ((7:Int)<n.kind))) || (decide (n.kids<(0:Int)))) || (((decide ((0:Int)<n.kids)) && (!decide (n.kind=(6:Int)))) && (!decide (n.kind=(7:Int))))) with
 | true=>rw [h1] at h; cases h
 | false =>
  rw [h1,cnF] at h;simp only [Bool.or_eq_false_iff,Bool.and_eq_false_iff,decide_eq_false_iff_not,Bool.not_eq_false',decide_eq_true_eq] at h1;by_cases h4:n.kind=4
  ·rw [deT h4,cnT] at h;simp only [Option.getD_some,Bool.and_eq_true,beq_iff_eq,decide_eq_true_eq] at h;exact .inl ⟨h4,by omega,h.1.1,h.1.2,h.2⟩
  ·rw [deF h4,cnF] at h;cases hw:n.whole with
   | true=>rw [hw] at h; cases h
   | false =>
    rw [hw,Bool.false_or] at h;by_cases hi:n.int=0
    ·rw [deT hi,Bool.not_true,cnF] at h;by_cases h5:n.kind=5
     ·rw [deT h5,cnT] at h;exact .inr (.inl ⟨h5,by omega,rfl,hi,h⟩)
     ·rw [deF h5,cnF] at h;have ht:n.text=⟨#[]⟩:=of_decide_eq_true h;by_cases h6:n.kind=6∨n.kind=7
      ·exact .inr (.inr (.inr ⟨h6,by omega,rfl,hi,ht⟩))
      ·exact .inr (.inr (.inl ⟨by omega,by omega,rfl,hi,ht⟩))
    ·rw [deF hi,Bool.not_false,cnT] at h;cases h
def part (v:List Eng.Node) (p e:Nat):List Eng.Node:=(v.drop p).take (e - p)
theorem part_app (v:List Eng.Node) {p m e:Nat} (h1:p≤m) (h2:m≤e):part v p e=part v p m++part v m e:=by
 unfold part;have:v.drop m=(v.drop p).drop (m - p):=by rw [List.drop_drop,show p+(m - p)=m by omega]
 rw [this,show e - p=(m - p)+(e - m) by omega,List.take_add]
theorem part_one {v:List Eng.Node} {p:Nat} {n:Eng.Node} (h:v[p]?=some n):part v p (p+1)=[n]:=by
 have hp:=(List.getElem?_eq_some_iff.1 h);unfold part;rw [List.drop_eq_getElem_cons hp.1,hp.2,show p+1 - p=1 by omega];rfl
theorem part_cons {v:List Eng.Node} {p e:Nat} {n:Eng.Node} (h:v[p]?=some n) (he:p+1≤e):part v p e=n::part v (p+1) e:=by
 rw [part_app v (m:=p+1) (by omega) he,part_one h];rfl
def After (c:Int):Prop:=c = -1∨c=44∨c=93∨c=125
theorem After.stop {c:Int} (h:After c):Stop c:=by
 unfold After at h;unfold Stop;omega
theorem qE2 {t:BA} {a:Nat} (h:bAt t (a:Int)≠32∧bAt t (a:Int)≠9∧bAt t (a:Int)≠10∧bAt t (a:Int)≠13):qAz t a=a:=by
 refine skipS_no ?_;unfold qDi;simp only [Bool.or_eq_false_iff,decide_eq_false_iff_not];omega
theorem After.skip {t:BA} {a:Nat} (h:After (bAt t (a:Int))):qAz t a=a:=qE2 (by unfold After at h; omega)
theorem readOk_first {s:BA} (h:qCj s=true):0<s.size∧(bAt s 0=45∨(48≤bAt s 0∧bAt s 0≤57)):=by
 unfold qCj at h;simp only [Bool.and_eq_true,Bool.not_eq_true'] at h;have h1:=h.1.1.1;unfold badA at h1;simp only [Bool.or_eq_false_iff,decide_eq_false_iff_not] at h1;have h1:=h1.1;by_cases h45:bAt s 0=45
 ·have:=(qCu (s:=s) (i:=0) (by omega)).2;exact ⟨by omega,.inl h45⟩
 ·have hA:atA s=0:=by unfold atA; rw [if_neg h45]
  unfold atB at h1;rw [hA] at h1;by_cases hd:digS s ((0:Nat):Int)=true
  ·have:=digS_lt hd;unfold digS at hd;simp only [Bool.and_eq_true,decide_eq_true_eq] at hd;exact ⟨by omega,.inr hd⟩
  ·exact (h1 (qBz (by simpa using hd))).elim
theorem scal_says {t:BA} {n:Eng.Node} {a:Nat} (hn:n.text.size≤3000000) (hp:pB n=true) (hk:n.kind<6) (h:Has t a (qGb n)) (hA:After (bAt t ((a+(qGb n).length:Nat):Int))) :
  qC3 t a=.ok (a+(qGb n).length) (qBr ⟨#[]⟩ [n])∧bAt t (a:Int)≠91∧bAt t (a:Int)≠123∧qAz t a=a:=by
 obtain ⟨kd,key,text,whole,int,kids⟩:=n;rcases pB_inv hn hp with ⟨h4,hkd,hr,hw,hi⟩ | ⟨h5,hkd,hw,hi,hv⟩ | ⟨h1,hkd,hw,hi,ht⟩ | ⟨h6,_⟩
 ·have e:qGb ⟨kd,key,text,whole,int,kids⟩=qAi text:=by
   have h4:kd=4:=h4;unfold qGb;rw [h4];rfl
  rw [e] at h hA ⊢;rw [qAp] at hA ⊢;have hnum:=numR_says hr h hA.stop;have hf:=readOk_first hr;have hf0:=has_at h (i:=0) hf.1;rw [Nat.add_zero] at hf0;have hf2:=hf.2;rw [show (0:Int)=((0:Nat):Int) from rfl,←hf0] at hf2;have hle:=h.le;rw [qAp] at hle;refine ⟨?_,by omega,by omega,qE2 (by omega)⟩;unfold qC3;rw [if_neg (by omega),if_pos hf2,hnum];have hx:t.extract a (a+text.size)=text:=by
   have e1:qAi (t.extract a (a+text.size))=qAi text:=by
    rw [bytesL_ext];refine List.ext_getElem ?_ fun i g1 g2=>?_
    ·rw [List.length_drop,List.length_take,qAp,qAp];omega
    ·rw [qAp] at g2;have q1:=qDe (s:=t) (i:=a+i) (by omega);rw [List.getElem?_eq_getElem (by rw [qAp]; omega),snJ] at q1;have q2:=qDe (s:=text) (i:=i) g2;rw [List.getElem?_eq_getElem (by rw [qAp]; exact g2),snJ] at q2;rw [List.getElem_drop,List.getElem_take,q1,q2];exact has_at h g2
   have:=congrArg qA2 e1;rwa [bytesI_of,bytesI_of] at this
  dsimp only;rw [hx];have h4:kd=4:=h4;have hkd:kids=0:=hkd;have hw:whole=_:=hw;have hi:int=_:=hi;rw [h4,hkd,hw,hi];rfl
 ·have h5:kd=5:=h5;have e:qGb ⟨kd,key,text,whole,int,kids⟩=quoL text:=by
   unfold qGb;rw [h5];rfl
  rw [e] at h hA ⊢;obtain ⟨q1,q2⟩:=quoL_ok text t a hv h;refine ⟨?_,by omega,by omega,qE2 (by omega)⟩;unfold qC3;rw [if_pos q1,q2];dsimp only;have hkd:kids=0:=hkd;have hw:whole=false:=hw;have hi:int=0:=hi;rw [bytesI_of,h5,hkd,hw,hi];rfl
 ·obtain rfl:kids=0:=hkd;obtain rfl:whole=false:=hw;obtain rfl:int=0:=hi;obtain rfl:text=⟨#[]⟩:=ht;rcases h1 with h1 | h1 | h1
  ·obtain rfl:kd=1:=h1;have hl:litR t [110,117,108,108] a=.ok (a+4) ():=litR_says (t:=t) h;have h0:bAt t (a:Int)=110:=h.1;refine ⟨?_,by rw [h0]; decide,by rw [h0]; decide,qE2 (by rw [h0]; decide)⟩;unfold qC3;rw [h0,if_neg (by decide),if_neg (by decide),if_pos rfl,hl];rfl
  ·obtain rfl:kd=2:=h1;have hl:litR t [102,97,108,115,101] a=.ok (a+5) ():=litR_says (t:=t) h;have h0:bAt t (a:Int)=102:=h.1;refine ⟨?_,by rw [h0]; decide,by rw [h0]; decide,qE2 (by rw [h0]; decide)⟩;unfold qC3;rw [h0,if_neg (by decide),if_neg (by decide),if_neg (by decide),if_pos rfl,hl];rfl
  ·obtain rfl:kd=3:=h1;have hl:litR t [116,114,117,101] a=.ok (a+4) ():=litR_says (t:=t) h;have h0:bAt t (a:Int)=116:=h.1;refine ⟨?_,by rw [h0]; decide,by rw [h0]; decide,qE2 (by rw [h0]; decide)⟩;unfold qC3;rw [h0,if_neg (by decide),if_neg (by decide),if_neg (by decide),if_neg (by decide),if_pos rfl,hl];rfl
 ·have h6:kd=6∨kd=7:=h6;have hk:kd<6:=hk;omega
def closeC (obj:Bool):Int:=if obj=true then 125 else 93
theorem lastC_close (obj:Bool):lastC obj=closeC obj:=by cases obj <;> rfl
def ReadsAt (v:List Eng.Node) (d:Nat):Prop:=∀(obj:Bool) (p e:Nat),oneS v d obj p=some e→∀(t:BA) (a:Nat),Has t a (qAt v d p)→After (bAt t ((a+(qAt v d p).length:Nat):Int)) →
 valR t d a=.ok (a+(qAt v d p).length) (qBr ⟨#[]⟩ (part v p e))∧qAz t a=a
theorem setKey_twice (k:BA) (l:List Eng.Node) (x:BA):qBr k (qBr x l)=qBr k l:=by cases l <;> rfl
theorem setKey_own {v:List Eng.Node} {p e:Nat} {n:Eng.Node} (h:v[p]?=some n) (he:p+1≤e):qBr (qAu v p) (part v p e)=part v p e:=by
 rw [part_cons h he];unfold qAu;rw [List.getD_eq_getElem?_getD,h];rfl
theorem sub_less {s a b m:Nat} (h:s - a<m+1) (hb:b≤s) (hab:a<b):s - b<m:=by omega
theorem lt_nest (a K Q:Nat):a<a+K+Q+1:=by omega
theorem sum_nest (a K Q X:Nat):a+K+Q+1+X=a+(K+(Q+(X+1))):=by omega
theorem kids_says {v:List Eng.Node} (hv:OkL v) {d:Nat} (hd:ReadsAt v d) {obj:Bool}:∀(k p e:Nat) (names:List BA) (t:BA) (a m k0:Nat) (acc:List Eng.Node) (first:Bool),qDd v (oneS v d obj) obj (k+1) p names=some e →
  Has t a (qBf v (oneS v d obj) (qAt v d) obj (k+1) p true)→bAt t ((a+(qBf v (oneS v d obj) (qAt v d) obj (k+1) p true).length:Nat):Int)=closeC obj→t.size - a<m →
  rowR t (valR t d) obj m a k0 acc names=.ok (a+(qBf v (oneS v d obj) (qAt v d) obj (k+1) p true).length+1) (k0+(k+1),acc++part v p e)
 | k,p,e,names,t,a,0,k0,acc,first,hk,hh,hc,hm=>by omega
 | k,p,e,names,t,a,m+1,k0,acc,first,hk,hh,hc,hm=>by
  unfold qDd at hk;cases ho:oneS v d obj p with
  | none=>rw [ho] at hk; cases hk
  | some e1 =>
   rw [ho] at hk;dsimp only at hk;have hle1:=qDa v d obj p e1 ho;obtain ⟨n,hn1,hn2,hn3,hn4,hn5,hn6,_⟩:=qFa hv ho;split at hk
   ·cases hk
   ·rename_i hnm;have hke:=qFx (fun a e=>qDa v d obj a e) k e1 _ e hle1.2 hk;have hT:qBf v (oneS v d obj) (qAt v d) obj (k+1) p true=keyL v obj p++(qAt v d p++qBf v (oneS v d obj) (qAt v d) obj k e1 false):=by
     show qF5 true++(keyL v obj p++(qAt v d p++qBf v (oneS v d obj) (qAt v d) obj k ((oneS v d obj p).getD 0) false))=_;rw [ho];rfl
    rw [hT] at hh hc ⊢;rw [Has.append,Has.append] at hh;obtain ⟨g1,g2,g3⟩:=hh;simp only [List.length_append] at hc ⊢;generalize hK:(keyL v obj p).length=K at *
    generalize hP:(qAt v d p).length=Q at *
    have hrest:After (bAt t ((a+K+Q:Nat):Int))∧(k=0→qBf v (oneS v d obj) (qAt v d) obj k e1 false=[])∧(∀k',k=k'+1→bAt t ((a+K+Q:Nat):Int)=44∧qBf v (oneS v d obj) (qAt v d) obj k e1 false=44::qBf v (oneS v d obj) (qAt v d) obj k e1 true):=by
     cases k with
     | zero =>
      refine ⟨?_,fun _=>rfl,fun k' h=>by omega⟩;have e0:(qBf v (oneS v d obj) (qAt v d) obj 0 e1 false).length=0:=rfl;rw [e0,show a+(K+(Q+0))=a+K+Q by omega] at hc;rw [hc];cases obj
      ·exact .inr (.inr (.inl rfl))
      ·exact .inr (.inr (.inr rfl))
     | succ k' =>
      have e0:qBf v (oneS v d obj) (qAt v d) obj (k'+1) e1 false=44::qBf v (oneS v d obj) (qAt v d) obj (k'+1) e1 true:=rfl;rw [e0] at g3;have h44:bAt t ((a+K+Q:Nat):Int)=44:=g3.1;exact ⟨.inr (.inl h44),fun h=>by omega,fun k'' _=>⟨h44,e0⟩⟩
    obtain ⟨hAft,hk0,hk1⟩:=hrest;have hle2:=g3.le;have hitem:qEj t (valR t d) obj names a=.ok (a+K+Q) (bif obj then qAu v p else ⟨#[]⟩,part v p e1):=by
     cases obj with
     | false =>
      have e0:keyL v false p=[]:=rfl;have hK0:K=0:=by rw [←hK,e0]; rfl
      subst hK0;obtain ⟨r1,r2⟩:=hd false p e1 ho t a (by simpa using g2) (by rw [hP]; simpa using hAft);unfold qEj;rw [if_neg (by decide),r1,hP];dsimp only;have hkey:n.key=⟨#[]⟩:=by
       unfold okB at hn5;simp only [Bool.and_eq_true,Bool.or_eq_true,decide_eq_true_eq,Bool.false_eq_true,false_or] at hn5;exact hn5.2
      have hs:qBr ⟨#[]⟩ (part v p e1)=part v p e1:=by
       rw [part_cons hn1 (by omega)];show (⟨n.kind,⟨#[]⟩,n.text,n.whole,n.int,n.kids⟩:Eng.Node)::_=n::_;rw [←hkey]
      rw [hs];rfl
     | true =>
      have e0:keyL v true p=quoL (qAu v p)++[58]:=rfl;rw [e0,Has.append] at g1;have hkk:qAu v p=n.key:=by unfold qAu; rw [List.getD_eq_getElem?_getD,hn1]; rfl
      have hval:Lib.validD (qAu v p).data.toList=true:=by
       unfold okB at hn5;simp only [Bool.and_eq_true] at hn5;rw [hkk];exact hn5.1.2
      obtain ⟨q1,q2⟩:=quoL_ok (qAu v p) t a hval g1.1;have hKl:K=(quoL (qAu v p)).length+1:=by rw [←hK,e0,List.length_append]; rfl
      have h58:bAt t ((a+(quoL (qAu v p)).length:Nat):Int)=58:=g1.2.1;obtain ⟨r1,r2⟩:=hd true p e1 ho t (a+K) g2 (by rw [hP]; exact hAft);unfold qEj;rw [if_pos rfl,if_pos q1,q2];dsimp only;rw [bytesI_of,if_neg (fun hm=>hnm ⟨rfl,hm⟩),qE2 (a:=a+(quoL (qAu v p)).length) (by rw [h58]; decide),if_pos h58,show a+(quoL (qAu v p)).length+1=a+K by omega,r2,r1,hP];dsimp only;rw [setKey_twice,setKey_own hn1 (by omega)];rfl
    unfold rowR;rw [hitem];dsimp only;rw [hAft.skip];have hpart:=part_app v (p:=p) (m:=e1) (e:=e) (by omega) (by omega);have hlc:=lastC_close obj;have hnc:closeC obj≠44:=by cases obj <;> decide
    cases k with
    | zero =>
     have hk0:=hk0 rfl;have he:e=e1:=by cases hk; rfl
     rw [hk0] at hc ⊢;rw [show a+(K+(Q+([]:List Int).length))=a+K+Q by simp; omega] at hc ⊢;rw [hlc,if_pos hc,he]
    | succ k' =>
     obtain ⟨h44,hcm⟩:=hk1 k' rfl;rw [hcm] at g3 hc ⊢;rw [hlc,if_neg (by rw [h44]; exact fun h=>hnc h.symm),if_pos h44];have hnext:∃n2,v[e1]?=some n2:=by
      cases hx:v[e1]? with
      | none =>
       exfalso;have:=List.getElem?_eq_none_iff.1 hx;omega
      | some n2=>exact ⟨n2,rfl⟩
     have g3':=g3.2;have hsk:qAz t (a+K+Q+1)=a+K+Q+1:=by
      unfold qDd at hk;cases ho2:oneS v d obj e1 with
      | none=>rw [ho2] at hk; cases hk
      | some e2 =>
       have hT2:qBf v (oneS v d obj) (qAt v d) obj (k'+1) e1 true=keyL v obj e1++(qAt v d e1++qBf v (oneS v d obj) (qAt v d) obj k' e2 false):=by
        show qF5 true++(keyL v obj e1++(qAt v d e1++qBf v (oneS v d obj) (qAt v d) obj k' ((oneS v d obj e1).getD 0) false))=_;rw [ho2];rfl
       rw [hT2,Has.append] at g3';cases obj with
       | true =>
        have h34:bAt t ((a+K+Q+1:Nat):Int)=34:=g3'.1.1;exact qE2 (by rw [h34]; decide)
       | false =>
        have g4:=g3'.2;rw [Has.append] at g4;have hA2:After (bAt t ((a+K+Q+1+0+(qAt v d e1).length:Nat):Int)):=by
         have g5:=g4.2;cases k' with
         | zero =>
          have:(qBf v (oneS v d false) (qAt v d) false (0+1) e1 true).length=(qAt v d e1).length:=by
           rw [hT2];show ([]++(qAt v d e1++[])).length=_;simp
          simp only [List.length_cons] at hc;rw [this,show a+(K+(Q+((qAt v d e1).length+1)))=a+K+Q+1+0+(qAt v d e1).length by omega] at hc;exact .inr (.inr (.inl hc))
         | succ k''=>exact .inr (.inl g5.1)
        exact (hd false e1 e2 ho2 t (a+K+Q+1+0) g4.1 hA2).2
     rw [hsk];have hfirst:(bif obj then qAu v p else ⟨#[]⟩:BA)=(bif obj then qAu v p else ⟨#[]⟩):=rfl;have hnames:qDd v (oneS v d obj) obj (k'+1) e1 (names++[bif obj then qAu v p else ⟨#[]⟩])=some e:=by
      cases obj with
      | true=>exact hk
      | false =>
       have indep:∀(k p:Nat) (n1 n2:List BA),qDd v (oneS v d false) false k p n1=qDd v (oneS v d false) false k p n2:=by
        intro k;induction k with
        | zero=>intro p n1 n2; rfl
        | succ k ih =>
         intro p n1 n2;unfold qDd;cases oneS v d false p with
         | none=>rfl
         | some e =>
          dsimp only;rw [if_neg (by simp),if_neg (by simp)];exact ih _ _ _
       rw [indep _ _ _ (names++[qAu v p])];exact hk
     have ih:=kids_says hv hd k' e1 e (names++[bif obj then qAu v p else ⟨#[]⟩]) t (a+K+Q+1) m (k0+1) (acc++part v p e1) false hnames g3' (by
      rw [List.length_cons] at hc;rw [sum_nest];exact hc) (sub_less hm (Nat.le_trans (Nat.le_add_right _ _) g3'.le) (lt_nest a K Q))
     rw [ih,hpart,List.length_cons,List.append_assoc];congr 1
     ·omega
     ·rw [show k0+1+(k'+1)=k0+(k'+1+1) by omega]
theorem reads_all {v:List Eng.Node} (hv:OkL v):∀d:Nat,ReadsAt v d
 | 0=>fun obj p e ho t a hh hA=>by
  obtain ⟨n,hn1,hn2,hn3,hn4,hn5,hn6,_⟩:=qFa hv ho;unfold oneS at ho;rw [hn1] at ho;dsimp only at ho;split at ho
  ·rename_i hc;cases ho;have e0:qAt v 0 p=qGb n:=by
    show qGb (v.getD p _)=_;rw [hn4]
   rw [e0] at hh hA ⊢;obtain ⟨r1,r2,r3,r4⟩:=scal_says (hv.2 n hn2).text hn6 hc.2 hh hA;refine ⟨?_,r4⟩;unfold valR;rw [if_neg (fun h=>h.elim r2 r3),r1,part_one hn1]
  ·cases ho
 | d+1=>fun obj p e ho t a hh hA=>by
  obtain ⟨n,hn1,hn2,hn3,hn4,hn5,hn6,_⟩:=qFa hv ho;unfold oneS at ho;rw [hn1] at ho;dsimp only at ho;rw [if_pos hn5] at ho;by_cases hk6:n.kind<6
  ·have e0:qAt v (d+1) p=qGb n:=by
    unfold qAt;rw [hn4,if_pos hk6]
   rw [e0] at hh hA ⊢;obtain ⟨r1,r2,r3,r4⟩:=scal_says (hv.2 n hn2).text hn6 hk6 hh hA;have hkid:n.kids=0:=by
    rcases pB_inv (hv.2 n hn2).text hn6 with h | h | h | h <;> omega
   rw [hkid] at ho;cases ho;refine ⟨?_,r4⟩;unfold valR;rw [if_neg (fun h=>h.elim r2 r3),r1,part_one hn1]
  ·rcases pB_inv (hv.2 n hn2).text hn6 with h | h | h | ⟨h67,hk0,hw,hi,ht⟩
   ·omega
   ·omega
   ·omega
   ·have e0:qAt v (d+1) p=(if n.kind=7 then 123 else 91)::(qBf v (oneS v d (decide (n.kind=7))) (qAt v d) (decide (n.kind=7)) n.kids.toNat (p+1) true++[if n.kind=7 then 125 else 93]):=by
     unfold qAt;rw [hn4,if_neg hk6]
    rw [e0] at hh hA ⊢;generalize hob:decide (n.kind=7)=ob at *
    have hop:(if n.kind=7 then 123 else 91:Int)=if ob=true then 123 else 91:=by rw [←hob]; simp
    have hcl:(if n.kind=7 then 125 else 93:Int)=closeC ob:=by unfold closeC; rw [←hob]; simp
    have hkc:n.kind=qCb ob:=by
     unfold qCb;rw [←hob];rcases h67 with h | h <;> rw [h] <;> rfl
    rw [hop,hcl] at hh hA ⊢;obtain ⟨g1,g2⟩:=hh;rw [Has.append] at g2;obtain ⟨g3,g4⟩:=g2;have hclose:=g4.1;have hbr:bAt t (a:Int)=91∨bAt t (a:Int)=123:=by rw [g1]; cases ob <;> simp
    have hobj:decide (bAt t (a:Int)=123)=ob:=by rw [g1]; cases ob <;> rfl
    refine ⟨?_,qE2 (by omega)⟩;unfold valR;rw [if_pos hbr,hobj];unfold boxR;have hnode:∀m:Nat,n.kids=(m:Int)→nd0 (qCb ob) ⟨#[]⟩ false 0 (m:Int)=⟨n.kind,⟨#[]⟩,n.text,n.whole,n.int,n.kids⟩:=fun m hm=>by
     rw [←hkc,hm,hw,hi,ht];rfl
    cases hkn:n.kids.toNat with
    | zero =>
     rw [hkn] at ho hclose;cases ho;have e1:qBf v (oneS v d ob) (qAt v d) ob 0 (p+1) true=[]:=rfl;rw [e1] at hclose ⊢;have hclose:bAt t ((a+1:Nat):Int)=closeC ob:=hclose;have hs1:qAz t (a+1)=a+1:=qE2 (by rw [hclose]; cases ob <;> decide)
     rw [hs1,lastC_close,if_pos hclose,part_one hn1];show Rd.ok (a+1+1) _=Rd.ok (a+2) _;congr 1
     show [nd0 _ _ _ _ ((0:Nat):Int)]=_;rw [hnode 0 (by omega)];rfl
    | succ k =>
     rw [hkn] at ho hclose g3;have hlen:=g3.le;have hs1:qAz t (a+1)=a+1:=by
      unfold qDd at ho;cases ho2:oneS v d ob (p+1) with
      | none=>rw [ho2] at ho; cases ho
      | some e2 =>
       have hT2:qBf v (oneS v d ob) (qAt v d) ob (k+1) (p+1) true=keyL v ob (p+1)++(qAt v d (p+1)++qBf v (oneS v d ob) (qAt v d) ob k e2 false):=by
        show qF5 true++(keyL v ob (p+1)++(qAt v d (p+1)++qBf v (oneS v d ob) (qAt v d) ob k ((oneS v d ob (p+1)).getD 0) false))=_;rw [ho2];rfl
       rw [hT2,Has.append] at g3;cases ob with
       | true =>
        have h34:bAt t ((a+1:Nat):Int)=34:=g3.1.1;exact qE2 (by rw [h34]; decide)
       | false =>
        have g5:=g3.2;rw [Has.append] at g5;have hA2:After (bAt t ((a+1+0+(qAt v d (p+1)).length:Nat):Int)):=by
         cases k with
         | zero =>
          have:(qBf v (oneS v d false) (qAt v d) false (0+1) (p+1) true).length=(qAt v d (p+1)).length:=by
           rw [hT2];show ([]++(qAt v d (p+1)++[])).length=_;simp
          rw [this] at hclose;rw [show a+1+0+(qAt v d (p+1)).length=a+1+(qAt v d (p+1)).length by omega,hclose];exact .inr (.inr (.inl rfl))
         | succ k''=>exact .inr (.inl g5.2.1)
        exact (reads_all hv d false (p+1) e2 ho2 t (a+1+0) g5.1 hA2).2
     have hnl:¬bAt t ((a+1:Nat):Int)=lastC ob:=by
      unfold qDd at ho;cases ho2:oneS v d ob (p+1) with
      | none=>rw [ho2] at ho; cases ho
      | some e2 =>
       have hT2:qBf v (oneS v d ob) (qAt v d) ob (k+1) (p+1) true=keyL v ob (p+1)++(qAt v d (p+1)++qBf v (oneS v d ob) (qAt v d) ob k e2 false):=by
        show qF5 true++(keyL v ob (p+1)++(qAt v d (p+1)++qBf v (oneS v d ob) (qAt v d) ob k ((oneS v d ob (p+1)).getD 0) false))=_;rw [ho2];rfl
       have g6:=g3;rw [hT2,Has.append] at g6;cases ob with
       | true =>
        have h34:bAt t ((a+1:Nat):Int)=34:=g6.1.1;rw [h34];decide
       | false =>
        have g5:=g6.2;rw [Has.append] at g5;have hA2:After (bAt t ((a+1+0+(qAt v d (p+1)).length:Nat):Int)):=by
         cases k with
         | zero =>
          have:(qBf v (oneS v d false) (qAt v d) false (0+1) (p+1) true).length=(qAt v d (p+1)).length:=by
           rw [hT2];show ([]++(qAt v d (p+1)++[])).length=_;simp
          rw [this] at hclose;rw [show a+1+0+(qAt v d (p+1)).length=a+1+(qAt v d (p+1)).length by omega,hclose];exact .inr (.inr (.inl rfl))
         | succ k''=>exact .inr (.inl g5.2.1)
        have hr:=(reads_all hv d false (p+1) e2 ho2 t (a+1+0) g5.1 hA2).1;intro h93;have h93:bAt t ((a+1+0:Nat):Int)=93:=h93;have:∀d,valR t d (a+1+0)=.bad 31 (a+1+0):=fun d=>by
         have hs:qC3 t (a+1+0)=.bad 31 (a+1+0):=by
          unfold qC3;rw [h93];rfl
         cases d with
         | zero=>unfold valR; rw [h93,if_neg (by decide),hs]
         | succ d=>unfold valR; rw [h93,if_neg (by decide),hs]
        rw [this] at hr;cases hr
     rw [hs1,if_neg hnl];have ih:=kids_says hv (reads_all hv d) k (p+1) e [] t (a+1) (t.size+1) 0 [] true ho g3 hclose (by omega);rw [ih];dsimp only;have hke:=qFx (fun a e=>qDa v d ob a e) (k+1) (p+1) _ e (by omega) ho;rw [part_cons hn1 (by omega),List.nil_append];congr 1
     ·simp only [List.length_cons,List.length_append,List.length_nil];omega
     ·show nd0 _ _ _ _ ((0+(k+1):Nat):Int)::_=_;rw [hnode (0+(k+1)) (by omega)];rfl
theorem print_back {v:List Eng.Node} (hv:OkL v) (hs:oneS v 32 false 0=some v.length) {t:BA} (ht:qAi t=qAt v 32 0) (hsz:t.size≤262144):qFk t=(v,0,0):=by
 have hall:=has_all t;rw [ht] at hall;have hlen:(qAt v 32 0).length=t.size:=by rw [←ht,qAp]
 obtain ⟨h1,h2⟩:=reads_all hv 32 false 0 v.length hs t 0 hall (.inl (qBw (by rw [hlen]; omega)));obtain ⟨n,hn1,hn2,hn3,hn4,hn5,hn6,_⟩:=qFa hv hs;have hkey:n.key=⟨#[]⟩:=by
  unfold okB at hn5;simp only [Bool.and_eq_true,Bool.or_eq_true,decide_eq_true_eq,Bool.false_eq_true,false_or] at hn5;exact hn5.2
 have hpart:part v 0 v.length=v:=by unfold part; simp
 have hkk:qBr ⟨#[]⟩ v=v:=by
  have h0:=setKey_own hn1 (e:=v.length) (by omega);rw [hpart] at h0;have:qAu v 0=⟨#[]⟩:=by unfold qAu; rw [hn4,hkey]
  rw [this] at h0;exact h0
 rw [hpart,hkk,hlen,Nat.zero_add] at h1;unfold qFk;rw [if_neg (by omega)];unfold qGd;rw [h2,h1];dsimp only;have hsk:qAz t t.size=t.size:=by
  have:=qBa t t.size (Nat.le_refl _);have:=qBp t t.size;omega
 rw [hsk,if_neg (by omega)];rfl
theorem escL_app (x y:List Int):escL (x++y)=escL x++escL y:=by unfold escL; rw [List.flatMap_append]
theorem escB_high {c:Int} (h:32≤c) (h1:c≠34) (h2:c≠92):escB c=[c]:=by
 unfold escB;rw [if_neg (by omega),if_neg (by omega),if_neg (by omega),if_neg (by omega),if_neg (by omega),if_neg (by omega),if_neg (by omega)]
theorem escL_high:∀ {l:List Int},(∀x∈l,128≤x)→(escL l).length=l.length
 | [],_=>rfl
 | c::l,h=>by
  show (escB c++escL l).length=_;have:=h c List.mem_cons_self;rw [escB_high (by omega) (by omega) (by omega),List.length_append,escL_high fun x hx=>h x (List.mem_cons_of_mem _ hx)];simp only [List.length_cons,List.length_nil];omega
theorem escL_utf {u:Int} (h:Code u):(escL (utfL u)).length≤6∧((u=34∨u=92∨u=47∨u=8∨u=12∨u=10∨u=13∨u=9)→(escL (utfL u)).length≤2):=by
 unfold Code at h;by_cases h1:u<128
 ·rw [utfL_one h1];have e:escL [u]=escB u:=by show escB u++[]=_; rw [List.append_nil]
  rw [e];refine ⟨(escB_len u).2,fun hu=>?_⟩;rcases hu with rfl | rfl | rfl | rfl | rfl | rfl | rfl | rfl <;> decide
 ·have hl:=utfL_len u;rw [escL_high (by
   intro x hx;unfold utfL at hx;rw [if_neg h1] at hx;repeat' split at hx
   all_goals
    simp only [List.mem_cons,List.not_mem_nil,or_false] at hx;omega)]
  exact ⟨by omega,fun hu=>by omega⟩
theorem saidS_cases {c:Int} (h:0≤qEs c):qEs c=34∨qEs c=92∨qEs c=47∨qEs c=8∨qEs c=12∨qEs c=10∨qEs c=13∨qEs c=9:=by
 unfold qEs at h ⊢;repeat' split
 all_goals omega
theorem escR_short {t:BA} {a b:Nat} {u:Int} (h:escR t a=.ok b u):(escL (utfL u)).length≤b - a:=by
 have hok:=escR_ok h;have hl:=escL_utf hok.2.2;unfold escR at h;split at h
 ·cases h
 ·split at h
  ·split at h
   ·cases h
   ·rename_i b' u' hf;have h4:=fourR_ok hf;split at h
    ·cases h;omega
    ·unfold pairR at h;repeat' split at h
     all_goals first | (cases h; done) | skip
     rename_i hw;have h6:=fourR_ok hw;cases h;omega
  ·split at h
   ·cases h
   ·cases h;have:=hl.2 (saidS_cases (by omega));omega
theorem bytesL_seq_high {t:BA} {a:Nat} (ha:a<t.size) (h8:128≤by8 t a) (hk:seqK t a=0):∀x∈qAi (t.extract a (a+seqW t a)),128≤x:=by
 intro x hx;have hw:=qE4 ha h8 hk;obtain ⟨i,hi,rfl⟩:=List.getElem_of_mem hx;rw [qAp,ByteArray.size_extract] at hi;have h1:=qDe (s:=t.extract a (a+seqW t a)) (i:=i) (by rw [ByteArray.size_extract]; omega);rw [List.getElem?_eq_getElem (by rw [qAp,ByteArray.size_extract]; omega),snJ] at h1;rw [h1,qDc t a _ (i:Int) (by omega) (by omega)];have h2:=seq_high ha h8 hk i (by omega);have h3:=qEr (t:=t) (i:=a+i) (by omega);rw [show (a:Int)+(i:Int)=((a+i:Nat):Int) by omega];omega
theorem qD0 {t:BA}:∀ {n a b:Nat} {acc l:List Int},quoR t n a acc=.ok b l→(escL l).length+1≤(escL acc).length+(b - a)
 | 0,a,b,acc,l,h=>by cases h
 | n+1,a,b,acc,l,h=>by
  unfold quoR at h;split at h
  ·cases h
  ·rename_i h0;have ha:=qA6 (t:=t) (a:=a) (by omega);split at h
   ·cases h;omega
   ·split at h
    ·split at h
     ·cases h
     ·rename_i b' u he;have h1:=escR_ok he;have h2:=escR_short he;have hr:b'≤b:=by
       have:=qD0 h;by_cases hb:b'≤b
       ·exact hb
       ·exfalso;rw [show b - b'=0 by omega] at this;have hle:(escL (acc++utfL u)).length≤(escL l).length:=quoR_grow h;omega
      have:=qD0 h;rw [escL_app,List.length_append] at this;omega
    ·split at h
     ·have hr:a+1≤b:=by
       have:=qD0 h;by_cases hb:a+1≤b
       ·exact hb
       ·exfalso;rw [show b - (a+1)=0 by omega] at this;have hle:=quoR_grow h;omega
      have:=qD0 h;rw [escL_app,List.length_append,show escL [bAt t (a:Int)]=escB (bAt t (a:Int)) by show escB _++[]=_; rw [List.append_nil],escB_high (by omega) (by omega) (by omega)] at this;simp only [List.length_cons,List.length_nil] at this;omega
     ·split at h
      ·rename_i hk;have h8:128≤by8 t a:=by have:=qEr ha; omega
       have hw:=qE4 ha h8 hk;have hr:a+seqW t a≤b:=by
        have:=qD0 h;by_cases hb:a+seqW t a≤b
        ·exact hb
        ·exfalso;rw [show b - (a+seqW t a)=0 by omega] at this;have hle:=quoR_grow h;omega
       have:=qD0 h;rw [escL_app,List.length_append,escL_high (bytesL_seq_high ha h8 hk),qAp,ByteArray.size_extract] at this;omega
      ·cases h
where
 quoR_grow {t:BA}:∀ {n a b:Nat} {acc l:List Int},quoR t n a acc=.ok b l→(escL acc).length≤(escL l).length
 | 0,a,b,acc,l,h=>by cases h
 | n+1,a,b,acc,l,h=>by
  unfold quoR at h;split at h
  ·cases h
  ·split at h
   ·cases h;exact Nat.le_refl _
   ·split at h
    ·split at h
     ·cases h
     ·have:=quoR_grow h;rw [escL_app,List.length_append] at this;omega
    ·split at h
     ·have:=quoR_grow h;rw [escL_app,List.length_append] at this;omega
     ·split at h
      ·have:=quoR_grow h;rw [escL_app,List.length_append] at this;omega
      ·cases h
theorem quoL_short {t:BA} {n a b:Nat} {l:List Int} (h:quoR t n (a+1) []=.ok b l):(quoL (qA2 l)).length≤b - a:=by
 have h1:=qD0 h;have h2:=qEn h (by simp);unfold quoL;rw [bytesL_of h2.2.2.1,List.length_cons,List.length_append,List.length_singleton];have:(escL ([]:List Int)).length=0:=rfl;omega
theorem scalR_short {t:BA} {a b:Nat} {l:List Eng.Node} (ha:a≤t.size) (h:qC3 t a=.ok b l):∃n,l=[n]∧n.kind<6∧∀k,(qGb (setK k n)).length≤b - a:=by
 unfold qC3 at h;split at h
 ·split at h
  ·cases h
  ·rename_i h1;have:=quoL_short h1;cases h;exact ⟨_,rfl,by show (5:Int)<6; decide,fun k=>this⟩
 ·split at h
  ·split at h
   ·cases h
   ·rename_i hc _ b1 x1 h1;have hlt:=qA6 (t:=t) (a:=a) (by omega);have h2:=numR_adv hlt h1;cases h;refine ⟨_,rfl,by show (4:Int)<6; decide,fun k=>?_⟩;show (qAi (t.extract a _)).length≤_;rw [qAp,ByteArray.size_extract];omega
  ·have lit:∀(w:List Int) (b:Nat) (x:Unit),(∀c∈w,0≤c)→litR t w a=.ok b x→w.length≤b - a:=fun w b x hw hl=>by
    have:=(litR_adv hw hl).1;omega
   split at h
   ·split at h
    ·cases h
    ·rename_i h1;have:=lit _ _ _ (by decide) h1;cases h;exact ⟨_,rfl,by show (1:Int)<6; decide,fun k=>this⟩
   ·split at h
    ·split at h
     ·cases h
     ·rename_i h1;have:=lit _ _ _ (by decide) h1;cases h;exact ⟨_,rfl,by show (2:Int)<6; decide,fun k=>this⟩
    ·split at h
     ·split at h
      ·cases h
      ·rename_i h1;have:=lit _ _ _ (by decide) h1;cases h;exact ⟨_,rfl,by show (3:Int)<6; decide,fun k=>this⟩
     ·cases h
def ShortAt (t:BA) (d:Nat) (val:Nat→Rd (List Eng.Node)):Prop:=∀a b l,a≤t.size→val a=.ok b l→∀(k:BA) (obj:Bool) (pre post:List Eng.Node),KeyOK obj k→(qAt (pre++qBr k l++post) d pre.length).length≤b - a
theorem getD_pre (pre post:List Eng.Node) (n:Eng.Node) (l:List Eng.Node) (x:Eng.Node):(pre++(n::l)++post).getD pre.length x=n:=by
 rw [List.getD_eq_getElem?_getD,at_pre];rfl
theorem leaf_short {t:BA} {a b:Nat} {l:List Eng.Node} (ha:a≤t.size) (h:qC3 t a=.ok b l) (d:Nat) (k:BA) (pre post:List Eng.Node):(qAt (pre++qBr k l++post) d pre.length).length≤b - a:=by
 obtain ⟨n,rfl,hk,hl⟩:=scalR_short ha h;have e:(pre++qBr k [n]++post).getD pre.length (ET.dft .node)=setK k n:=getD_pre pre post (setK k n) [] _;have hk2:(setK k n).kind<6:=hk;cases d with
 | zero =>
  unfold qAt;rw [e];exact hl k
 | succ d =>
  unfold qAt;rw [e,if_pos hk2];exact hl k
theorem rowR_short {t:BA} {d:Nat} {val:Nat→Rd (List Eng.Node)} (hv:Adv t val) (hk0:∀a b l,val a=.ok b l→qBr ⟨#[]⟩ l=l) (hS:ShapeAt t d val) (hL:ShortAt t d val) {obj:Bool}:∀ {m a k:Nat} {acc:List Eng.Node} {names:List BA} {b:Nat} {x:Nat × List Eng.Node},a≤t.size→rowR t val obj m a k acc names=.ok b x →
  ∃(j:Nat) (more:List Eng.Node),x.1=k+(j+1)∧x.2=acc++more∧∀(pre post:List Eng.Node),(qBf (pre++more++post) (oneS (pre++more++post) d obj) (qAt (pre++more++post) d) obj (j+1) pre.length true).length+1≤b - a
 | 0,a,k,acc,names,b,x,ha,h=>by cases h
 | m+1,a,k,acc,names,b,x,ha,h=>by
  have hadvAll:=rowR_adv hv ha h;unfold rowR at h;split at h
  ·cases h
  ·rename_i b1 y h1;obtain ⟨a',l,ha',hl,hy,hne,hkey,hmem⟩:=itemR_shape hv hk0 ha h1;have hadv:=itemR_adv hv ha h1;have hlen:y.2.length=l.length:=by rw [hy,qGo]
   have one:∀pre post,oneS (pre++y.2++post) d obj pre.length=some (pre.length+y.2.length)∧qAu (pre++y.2++post) pre.length=y.1∧(qAt (pre++y.2++post) d pre.length).length≤b1 - a':=fun pre post=>by
    rw [hlen,hy];exact ⟨hS _ _ _ ha' hl _ obj pre post hkey,keyAt_pre pre post _ hne,hL _ _ _ ha' hl _ obj pre post hkey⟩
   have item:∀pre post,(keyL (pre++y.2++post) obj pre.length).length+(qAt (pre++y.2++post) d pre.length).length≤b1 - a:=by
    intro pre post;obtain ⟨o1,o2,o3⟩:=one pre post;unfold qEj at h1;cases obj with
    | false =>
     rw [if_neg (by decide)] at h1;cases hva:val a with
     | bad c b=>rw [hva] at h1; cases h1
     | ok b2 l2 =>
      rw [hva] at h1;dsimp only at h1;have hy2:y=(⟨#[]⟩,l2):=by cases h1; rfl
      have hb2:b1=b2:=by cases h1; rfl
      have h3:=hL _ _ _ ha hva ⟨#[]⟩ false pre post ⟨rfl,.inr rfl⟩;rw [hk0 _ _ _ hva] at h3;rw [hy2,hb2];show 0+_≤_;rw [Nat.zero_add];exact h3
    | true =>
     rw [if_pos rfl] at h1;split at h1
     ·rename_i h34;have hla:=qA6 (t:=t) (a:=a) (by omega);split at h1
      ·cases h1
      ·rename_i bq lq hq;have hqs:=quoL_short hq;have hqo:=qEn hq (by simp);split at h1
       ·cases h1
       ·split at h1
        ·rename_i h58;have h3:=qA6 (t:=t) (a:=qAz t bq) (by omega);have h4:=qBp t bq;have h5:=qBp t (qAz t bq+1);have h6:=qBa t (qAz t bq+1) (by omega);split at h1
         ·cases h1
         ·rename_i b3 l3 h7;have h8:=hv _ _ _ h6 h7;have hy2:y=(qA2 lq,qBr (qA2 lq) l3):=by cases h1; rfl
          have hb2:b1=b3:=by cases h1; rfl
          have h9:=hL _ _ _ h6 h7 (qA2 lq) true pre post ⟨(qEz hq qCx.nil).bytes,.inl rfl⟩;rw [hy2] at o2 ⊢;rw [hb2];dsimp only at o2 h9 ⊢;unfold keyL;rw [if_pos rfl,o2,List.length_append,List.length_singleton];omega
        ·cases h1
     ·cases h1
   have k1:=qBp t b1;have k2:=qBa t b1 hadv.2.1;have unf:∀(w:List Eng.Node) (p e j:Nat),oneS w d obj p=some e→(qBf w (oneS w d obj) (qAt w d) obj (j+1) p true).length=(keyL w obj p).length+((qAt w d p).length+(qBf w (oneS w d obj) (qAt w d) obj j e false).length):=fun w p e j ho=>by
    show (qF5 true++(keyL w obj p++(qAt w d p++qBf w (oneS w d obj) (qAt w d) obj j ((oneS w d obj p).getD 0) false))).length=_;rw [ho];simp [qF5]
   split at h
   ·cases h;refine ⟨0,y.2,rfl,rfl,fun pre post=>?_⟩;have h1:=item pre post;rw [unf _ _ _ 0 (one pre post).1];show _+(_+0)+1≤_;omega
   ·split at h
    ·rename_i hcm;have h3:=qA6 (t:=t) (a:=qAz t b1) (by omega);have k3:=qBp t (qAz t b1+1);have k4:=qBa t (qAz t b1+1) (by omega);obtain ⟨j,more,e1,e2,h4⟩:=rowR_short hv hk0 hS hL k4 h;have h4a:=rowR_adv hv k4 h;refine ⟨j+1,y.2++more,by omega,by rw [e2,List.append_assoc],fun pre post=>?_⟩;have o1:=one pre (more++post);have i1:=item pre (more++post);have h5:=h4 (pre++y.2) post;have e3:pre++(y.2++more)++post=pre++y.2++(more++post):=by simp
     have e4:pre++y.2++more++post=pre++y.2++(more++post):=by simp
     rw [e4,List.length_append] at h5;rw [e3,unf _ _ _ (j+1) o1.1];have e5:∀(w:List Eng.Node) (p:Nat),(qBf w (oneS w d obj) (qAt w d) obj (j+1) p false).length=1+(qBf w (oneS w d obj) (qAt w d) obj (j+1) p true).length:=fun w p=>by
      show (([44]:List Int)++_).length=1+(([]:List Int)++_).length;rw [List.length_append,List.nil_append];rfl
     rw [e5];omega
    ·cases h
theorem valR_short {t:BA} (hs:t.size≤600000):∀d,ShortAt t d (valR t d)
 | 0=>fun a b l ha h k obj pre post hk=>by
  unfold valR at h;split at h
  ·cases h
  ·exact leaf_short ha h 0 k pre post
 | d+1=>fun a b l ha h k obj pre post hk=>by
  unfold valR at h;split at h
  ·have hlt:=qA6 (t:=t) (a:=a) (by omega);generalize hob:decide (bAt t (a:Int)=123)=ob at h
   have k1:=qBp t (a+1);have k2:=qBa t (a+1) (by omega);have hn6:¬qCb ob<6:=by cases ob <;> decide
   have hk7:decide (qCb ob=7)=ob:=by cases ob <;> rfl
   unfold boxR at h;split at h
   ·cases h;have e:(pre++qBr k [nd0 (qCb ob) ⟨#[]⟩ false 0 0]++post).getD pre.length (ET.dft .node)=setK k (nd0 (qCb ob) ⟨#[]⟩ false 0 0):=getD_pre pre post _ [] _;unfold qAt;rw [e];show (if qCb ob<6 then _ else _:List Int).length≤_;rw [if_neg hn6];show (_::([]++[_])).length≤_;simp only [List.nil_append,List.length_cons,List.length_nil];omega
   ·split at h
    ·cases h
    ·rename_i b1 x h1;cases h;obtain ⟨j,more,e1,e2,h3⟩:=rowR_short (qEb t d) (fun a b l h=>valR_key h) (valR_shape hs d) (valR_short hs d) k2 h1;simp only [List.nil_append,Nat.zero_add] at e1 e2;rw [e1,e2];have h4:=h3 (pre++[setK k (nd0 (qCb ob) ⟨#[]⟩ false 0 ((j+1:Nat):Int))]) post;have e3:pre++[setK k (nd0 (qCb ob) ⟨#[]⟩ false 0 ((j+1:Nat):Int))]++more++post=pre++(setK k (nd0 (qCb ob) ⟨#[]⟩ false 0 ((j+1:Nat):Int))::more)++post:=by simp
     rw [e3,List.length_append,List.length_singleton] at h4;have e:(pre++(setK k (nd0 (qCb ob) ⟨#[]⟩ false 0 ((j+1:Nat):Int))::more)++post).getD pre.length (ET.dft .node)=setK k (nd0 (qCb ob) ⟨#[]⟩ false 0 ((j+1:Nat):Int)):=getD_pre pre post _ more _;show (qAt (pre++(setK k (nd0 (qCb ob) ⟨#[]⟩ false 0 ((j+1:Nat):Int))::more)++post) (d+1) pre.length).length≤_;unfold qAt;rw [e];show (if qCb ob<6 then _ else (if qCb ob=7 then 123 else 91)::(qBf _ (oneS _ d (decide (qCb ob=7))) _ (decide (qCb ob=7)) (Int.toNat ((j+1:Nat):Int)) _ true++[_]):List Int).length≤_;rw [if_neg hn6,hk7,Int.toNat_natCast];simp only [List.length_cons,List.length_append,List.length_nil];omega
  ·exact leaf_short ha h (d+1) k pre post
theorem readR_short {t:BA} (hs:t.size≤262144) {b:Nat} {l:List Eng.Node} (h:qGd t=.ok b l):(qAt l 32 0).length≤t.size:=by
 unfold qGd at h;have k:=qBa t 0 (by omega);split at h
 ·cases h
 ·rename_i b1 l1 h1;have h2:=qEb t 32 _ _ _ k h1;have:=valR_short (t:=t) (by omega) 32 _ _ _ k h1 ⟨#[]⟩ false [] [] ⟨rfl,.inr rfl⟩;rw [valR_key h1,List.nil_append,List.append_nil,List.length_nil] at this;split at h
  ·cases h
  ·cases h;omega
theorem p_Print {v:List Eng.Node} (hv:OkL v):zas_s v=some (if oneS v 32 false 0=some v.length then (if 262144<(qAt v 32 0).length then ((⟨#[]⟩:BA),10) else (qA2 (qAt v 32 0),0)) else (⟨#[]⟩,31)):=by
 have hlen:=hv.1;unfold zas_s;rw [prog_Shaped hv,obS];by_cases hsh:oneS v 32 false 0=some v.length
 ·rw [deT hsh,Bool.not_true,cnF,if_pos hsh];have hsp:zbr_s (⟨false,[]⟩:qG5) v 0=some (⟨true,[]++qAt v 32 0⟩,(v.length:Int)):=evt_eq (N:=33) fun n hn=>by
   have:=sp_all hv 32 false 0 v.length n hsh (by omega) false [] (by show 0+_≤_; omega);rwa [show ((0:Nat):Int)=0 from rfl] at this
  rw [hsp,obS,List.nil_append];unfold zbz_s;rw [obS];dsimp only;by_cases hbig:262144<(qAt v 32 0).length
  ·rw [deT (show (262144:Int)<((qAt v 32 0).length:Int) by omega),cnT,if_pos hbig]
  ·rw [deF (show ¬(262144:Int)<((qAt v 32 0).length:Int) by omega),cnF,if_neg hbig];have hne:=prOne_some hv hsh;have hpos:0<(qAt v 32 0).length:=List.length_pos_iff.2 hne;have:zca_s ⟨true,qAt v 32 0⟩=some (⟨true,[]⟩,qA2 (qAt v 32 0)):=by
    unfold zca_s;refine (qAb hpos _).trans ?_;exact (qAb ⟨rfl,hpos,prOne_range v 32 0⟩ _).trans rfl
   rw [this,obS]
 ·rw [deF hsh,Bool.not_false,cnT,if_neg hsh]
end Go.Proofs.YticplgndjpljiaaDoor
