/-
  The shortest text of what is read is no longer than the text; what is written of concrete values can be computed. No program.
-/
import Derived.Test.YtdcoiccdbgcpaaaDoorPPrint
namespace Go.Proofs.YtdcoiccdbgcpaaaDoor
open Go.Eng
set_option linter.unusedVariables false
set_option linter.unusedSimpArgs false
def Stop (c:Int):Prop:=¬(48≤c∧c≤57)∧c≠46∧c≠101∧c≠69
theorem has_at {t s:BA} {a:Nat} (h:Has t a (qAi s)) {i:Nat} (hi:i<s.size):bAt t ((a+i:Nat):Int)=bAt s (i:Int):=by
 have key:∀(L:List Int) (a i:Nat),Has t a L→i<L.length→bAt t ((a+i:Nat):Int)=L.getD i 0:=by
  intro L;induction L with
  | nil=>intro a i _ h; simp at h
  | cons c L ih =>
   intro a i h hi;cases i with
   | zero=>exact h.1
   | succ i =>
    have:=ih (a+1) i h.2 (by simpa using hi);rw [show a+(i+1)=a+1+i by omega,this];rfl
 rw [key _ a i h (by rw [qAj]; exact hi),List.getD_eq_getElem?_getD,qC1 hi];rfl
theorem many_says {t s:BA} {a:Nat} (h:Has t a (qAi s)) (hst:Stop (bAt t ((a+s.size:Nat):Int))):∀(n i:Nat),s.size - i≤n→i≤s.size→qC6 t (a+i)=a+qC6 s i
 | 0,i,h1,h2=>by
  have hi:i=s.size:=by omega
  subst hi;have e1:digS s ((s.size:Nat):Int)=false:=by unfold digS; rw [qBt (by omega)]; rfl
  have e2:digS t ((a+s.size:Nat):Int)=false:=by
   unfold digS;unfold Stop at hst;rw [←Bool.not_eq_true,Bool.and_eq_true,decide_eq_true_eq,decide_eq_true_eq];exact hst.1
  rw [qBw e1,qBw e2]
 | n+1,i,h1,h2=>by
  by_cases hlt:i<s.size
  ·have e:digS t ((a+i:Nat):Int)=digS s (i:Int):=by unfold digS; rw [has_at h hlt]
   by_cases hd:digS s (i:Int)=true
   ·rw [qCm (e.trans hd),qCm hd];exact many_says h hst n (i+1) (by omega) (by omega)
   ·have hd:digS s (i:Int)=false:=by simpa using hd
    rw [qBw (e.trans hd),qBw hd]
  ·exact many_says h hst 0 i (by omega) h2
theorem numR_says {t s:BA} {a:Nat} (hr:qCf s=true) (h:Has t a (qAi s)) (hst:Stop (bAt t ((a+s.size:Nat):Int))):numR t a=.ok (a+s.size) ():=by
 have mm:∀i,i≤s.size→qC6 t (a+i)=a+qC6 s i:=fun i hi=>many_says h hst (s.size - i) i (Nat.le_refl _) hi
 unfold qCf at hr;simp only [Bool.and_eq_true,Bool.not_eq_true',decide_eq_true_eq,Bool.and_eq_false_iff,decide_eq_false_iff_not] at hr;obtain ⟨⟨⟨h1,h2⟩,h3⟩,h4⟩:=hr;unfold badA at h1;simp only [Bool.or_eq_false_iff,Bool.and_eq_false_iff,decide_eq_false_iff_not] at h1;have hge:∀i,i≤qC6 s i:=qEh s;have hle:∀i,i≤s.size→qC6 s i≤s.size:=fun i hi=>manyS_le s i hi
 have hpos:0<s.size:=by
  rcases Nat.eq_zero_or_pos s.size with h0 | h0
  ·exfalso;refine h1.1 ?_;unfold atB;rw [qBw];unfold digS;rw [qBt (by omega)];rfl
  ·exact h0
 have hA:signS t a=a+atA s:=by
  unfold signS atA;have:=has_at h (i:=0) hpos;rw [Nat.add_zero] at this;rw [this];show (if bAt s 0=45 then a+1 else a)=_;split <;> rfl
 have hA1:atA s≤s.size:=by unfold atA; split <;> omega
 have hB1:atB s≤s.size:=hle _ hA1;have hB2:atA s<atB s:=by
  have:=hge (atA s);have h1:=h1.1;unfold atB at h1 ⊢;omega
 have hAt:=has_at h (i:=atA s) (by omega);have hz:zeroR t (signS t a)=.ok (a+atB s) ():=by
  rw [hA];unfold zeroR;rw [hAt];by_cases h48:bAt s (atA s:Int)=48
  ·rw [if_pos h48];have:=h1.2.resolve_left (fun h=>h h48);rw [show a+atA s+1=a+atB s by omega]
  ·rw [if_neg h48];unfold digR;rw [mm _ hA1,if_neg (by unfold atB at hB2; omega)];rfl
 have hd:dotR t (a+atB s)=.ok (a+atC s) ()∧atC s≤s.size:=by
  unfold dotR atC;by_cases hdot:dotS s=true
  ·rw [if_pos hdot];have hb46:bAt s (atB s:Int)=46:=by unfold dotS at hdot; exact of_decide_eq_true hdot
   have hlt:atB s<s.size:=by have:=(qCy (s:=s) (i:=(atB s:Int)) (by omega)).2; omega
   rw [has_at h hlt,if_pos hb46];have hk:=h2.resolve_left (fun h=>by rw [hdot] at h; cases h);unfold digR;rw [show a+atB s+1=a+(atB s+1) by omega,mm _ (by omega),if_neg (by unfold atK at hk; omega)];exact ⟨rfl,hle _ (by omega)⟩
  ·rw [if_neg hdot];have hb46:¬bAt s (atB s:Int)=46:=by unfold dotS at hdot; exact fun h=>hdot (deT h)
   by_cases hlt:atB s<s.size
   ·rw [has_at h hlt,if_neg hb46];exact ⟨rfl,hB1⟩
   ·rw [show atB s=s.size by omega,if_neg hst.2.1];exact ⟨rfl,Nat.le_refl _⟩
 have hp:powR t (a+atC s)=.ok (a+s.size) ():=by
  unfold atG at h4;unfold powR;by_cases hexp:expS s=true
  ·rw [if_pos hexp] at h4;have he:bAt s (atC s:Int)=101∨bAt s (atC s:Int)=69:=by unfold expS at hexp; simpa using hexp
   have hlt:atC s<s.size:=by have:=(qCy (s:=s) (i:=(atC s:Int)) (by omega)).2; omega
   have hf:=h3.resolve_left (fun h=>by rw [hexp] at h; cases h);rw [has_at h hlt,if_pos he];have hlt2:atC s+1<s.size:=by
    rcases Nat.lt_or_ge (atC s+1) s.size with hh | hh
    ·exact hh
    ·exfalso;have hsg:sgnS s=false:=by
      unfold sgnS;rw [qBt (by omega)];rfl
     have hE:atE s=atC s+1:=by unfold atE; rw [hsg,if_neg (by decide)]
     refine hf ?_;unfold atF;rw [qBw];unfold digS;rw [qBt (by omega)];rfl
   have h5:=has_at h hlt2;have hq:(if bAt t ((a+atC s+1:Nat):Int)=43∨bAt t ((a+atC s+1:Nat):Int)=45 then a+atC s+2 else a+atC s+1)=a+atE s:=by
    rw [show a+atC s+1=a+(atC s+1) by omega,h5];unfold atE sgnS;rw [show ((atC s+1:Nat):Int)=(atC s:Int)+1 by omega];by_cases hs:bAt s ((atC s:Int)+1)=43∨bAt s ((atC s:Int)+1)=45
    ·rw [if_pos hs,if_pos (by simpa using hs)];omega
    ·rw [if_neg hs,if_neg (by simpa using hs)]
   rw [hq];have hEle:atE s≤s.size:=by unfold atE; split <;> omega
   unfold digR;rw [mm _ hEle,if_neg (by unfold atF at hf; omega)];unfold atF at h4;rw [h4]
  ·rw [if_neg hexp] at h4;rw [h4,if_neg (by unfold Stop at hst; omega)]
 unfold numR;rw [hz];dsimp only;rw [hd.1];dsimp only;rw [hp]
theorem litR_says {t:BA}:∀ {w:List Int} {a:Nat},Has t a w→litR t w a=.ok (a+w.length) ()
 | [],a,h=>rfl
 | c::w,a,h=>by
  unfold litR;rw [if_pos h.1,litR_says h.2,List.length_cons];congr 1
  omega
theorem pB_inv {n:Eng.Node} (hn:n.text.size≤3000000) (h:pB n=true) :
  (n.kind=4∧n.kids=0∧qCf n.text=true∧n.whole=(qEp n.text).2∧n.int=(qEp n.text).1) ∨
  (n.kind=5∧n.kids=0∧n.whole=false∧n.int=0∧Lib.validD n.text.data.toList=true) ∨
  ((n.kind=1∨n.kind=2∨n.kind=3)∧n.kids=0∧n.whole=false∧n.int=0∧n.text=⟨#[]⟩) ∨
  ((n.kind=6∨n.kind=7)∧0≤n.kids∧n.whole=false∧n.int=0∧n.text=⟨#[]⟩):=by
 have hu:qBd n.text=some (Lib.validD n.text.data.toList):=qAa (by omega) _;unfold pB zao_s at h;rw [p_Valid _ hn,whole_j _ hn,hu] at h;simp only [obS] at h;cases h1:((((decide (n.kind<(1:Int))) || (decide ((7:Int)<n.kind))) || (decide (n.kids<(0:Int)))) || (((decide ((0:Int)<n.kids)) && (!decide (n.kind=(6:Int)))) && (!decide (n.kind=(7:Int))))) with
 | true=>rw [h1] at h; cases h
 | false =>
  rw [h1,cnF] at h;simp only [Bool.or_eq_false_iff,Bool.and_eq_false_iff,decide_eq_false_iff_not,Bool.not_eq_false',decide_eq_true_eq] at h1;by_cases h4:n.kind=4
  ·rw [deT h4,cnT] at h;simp only [Option.getD_some,Bool.and_eq_true,beq_iff_eq,decide_eq_true_eq] at h;exact .inl ⟨h4,by omega,h.1.1,h.1.2,h.2⟩
  ·rw [deF h4,cnF] at h;cases hw:n.whole with
   | true=>rw [hw] at h; cases h
   | false =>
    rw [hw,Bool.false_or] at h;by_cases hi:n.int=0
    ·rw [deT hi,Bool.not_true,cnF] at h;by_cases h5:n.kind=5
     ·rw [deT h5,cnT] at h;exact .inr (.inl ⟨h5,by omega,rfl,hi,h⟩)
     ·rw [deF h5,cnF] at h;have ht:n.text=⟨#[]⟩:=of_decide_eq_true h;by_cases h6:n.kind=6∨n.kind=7
      ·exact .inr (.inr (.inr ⟨h6,by omega,rfl,hi,ht⟩))
      ·exact .inr (.inr (.inl ⟨by omega,by omega,rfl,hi,ht⟩))
    ·rw [deF hi,Bool.not_false,cnT] at h;cases h
def part (v:List Eng.Node) (p e:Nat):List Eng.Node:=(v.drop p).take (e - p)
theorem part_app (v:List Eng.Node) {p m e:Nat} (h1:p≤m) (h2:m≤e):part v p e=part v p m++part v m e:=by
 unfold part;have:v.drop m=(v.drop p).drop (m - p):=by rw [List.drop_drop,show p+(m - p)=m by omega]
 rw [this,show e - p=(m - p)+(e - m) by omega,List.take_add]
theorem part_one {v:List Eng.Node} {p:Nat} {n:Eng.Node} (h:v[p]?=some n):part v p (p+1)=[n]:=by
 have hp:=(List.getElem?_eq_some_iff.1 h);unfold part;rw [List.drop_eq_getElem_cons hp.1,hp.2,show p+1 - p=1 by omega];rfl
theorem part_cons {v:List Eng.Node} {p e:Nat} {n:Eng.Node} (h:v[p]?=some n) (he:p+1≤e):part v p e=n::part v (p+1) e:=by
 rw [part_app v (m:=p+1) (by omega) he,part_one h];rfl
def After (c:Int):Prop:=c = -1∨c=44∨c=93∨c=125
theorem After.stop {c:Int} (h:After c):Stop c:=by
 unfold After at h;unfold Stop;omega
theorem qGe {t:BA} {a:Nat} (h:bAt t (a:Int)≠32∧bAt t (a:Int)≠9∧bAt t (a:Int)≠10∧bAt t (a:Int)≠13):qAu t a=a:=by
 refine skipS_no ?_;unfold qCk;simp only [Bool.or_eq_false_iff,decide_eq_false_iff_not];omega
theorem After.skip {t:BA} {a:Nat} (h:After (bAt t (a:Int))):qAu t a=a:=qGe (by unfold After at h; omega)
theorem readOk_first {s:BA} (h:qCf s=true):0<s.size∧(bAt s 0=45∨(48≤bAt s 0∧bAt s 0≤57)):=by
 unfold qCf at h;simp only [Bool.and_eq_true,Bool.not_eq_true'] at h;have h1:=h.1.1.1;unfold badA at h1;simp only [Bool.or_eq_false_iff,decide_eq_false_iff_not] at h1;have h1:=h1.1;by_cases h45:bAt s 0=45
 ·have:=(qCy (s:=s) (i:=0) (by omega)).2;exact ⟨by omega,.inl h45⟩
 ·have hA:atA s=0:=by unfold atA; rw [if_neg h45]
  unfold atB at h1;rw [hA] at h1;by_cases hd:digS s ((0:Nat):Int)=true
  ·have:=digS_lt hd;unfold digS at hd;simp only [Bool.and_eq_true,decide_eq_true_eq] at hd;exact ⟨by omega,.inr hd⟩
  ·exact (h1 (qBw (by simpa using hd))).elim
def scQ (q:BA→List Int) (n:Eng.Node):List Int :=
 if n.kind=1 then [110,117,108,108] else if n.kind=2 then [102,97,108,115,101] else if n.kind=3 then [116,114,117,101] else if n.kind=4 then qAi n.text else q n.text
theorem scal_saysQ {q:BA→List Int} (hq:QOK q) {t:BA} {n:Eng.Node} {a:Nat} (hn:n.text.size≤3000000) (hp:pB n=true) (hk:n.kind<6) (h:Has t a (scQ q n)) (hA:Stop (bAt t ((a+(scQ q n).length:Nat):Int))) :
  qC8 t a=.ok (a+(scQ q n).length) (qBl ⟨#[]⟩ [n])∧bAt t (a:Int)≠91∧bAt t (a:Int)≠123∧qAu t a=a:=by
 obtain ⟨kd,key,text,whole,int,kids⟩:=n;rcases pB_inv hn hp with ⟨h4,hkd,hr,hw,hi⟩ | ⟨h5,hkd,hw,hi,hv⟩ | ⟨h1,hkd,hw,hi,ht⟩ | ⟨h6,_⟩
 ·have e:scQ q ⟨kd,key,text,whole,int,kids⟩=qAi text:=by
   have h4:kd=4:=h4;unfold scQ;rw [h4];rfl
  rw [e] at h hA ⊢;rw [qAj] at hA ⊢;have hnum:=numR_says hr h hA;have hf:=readOk_first hr;have hf0:=has_at h (i:=0) hf.1;rw [Nat.add_zero] at hf0;have hf2:=hf.2;rw [show (0:Int)=((0:Nat):Int) from rfl,←hf0] at hf2;have hle:=h.le;rw [qAj] at hle;refine ⟨?_,by omega,by omega,qGe (by omega)⟩;unfold qC8;rw [if_neg (by omega),if_pos hf2,hnum];have hx:t.extract a (a+text.size)=text:=by
   have e1:qAi (t.extract a (a+text.size))=qAi text:=by
    rw [bytesL_ext];refine List.ext_getElem ?_ fun i g1 g2=>?_
    ·rw [List.length_drop,List.length_take,qAj,qAj];omega
    ·rw [qAj] at g2;have q1:=qC1 (s:=t) (i:=a+i) (by omega);rw [List.getElem?_eq_getElem (by rw [qAj]; omega),snJ] at q1;have q2:=qC1 (s:=text) (i:=i) g2;rw [List.getElem?_eq_getElem (by rw [qAj]; exact g2),snJ] at q2;rw [List.getElem_drop,List.getElem_take,q1,q2];exact has_at h g2
   have:=congrArg qA3 e1;rwa [qG0,qG0] at this
  dsimp only;rw [hx];have h4:kd=4:=h4;have hkd:kids=0:=hkd;have hw:whole=_:=hw;have hi:int=_:=hi;rw [h4,hkd,hw,hi];rfl
 ·have h5:kd=5:=h5;have e:scQ q ⟨kd,key,text,whole,int,kids⟩=q text:=by
   unfold scQ;rw [h5];rfl
  rw [e] at h hA ⊢;obtain ⟨q1,q2⟩:=hq text t a hv h;refine ⟨?_,by omega,by omega,qGe (by omega)⟩;unfold qC8;rw [if_pos q1,q2];dsimp only;have hkd:kids=0:=hkd;have hw:whole=false:=hw;have hi:int=0:=hi;rw [qG0,h5,hkd,hw,hi];rfl
 ·obtain rfl:kids=0:=hkd;obtain rfl:whole=false:=hw;obtain rfl:int=0:=hi;obtain rfl:text=⟨#[]⟩:=ht;rcases h1 with h1 | h1 | h1
  ·obtain rfl:kd=1:=h1;have hl:litR t [110,117,108,108] a=.ok (a+4) ():=litR_says (t:=t) h;have h0:bAt t (a:Int)=110:=h.1;refine ⟨?_,by rw [h0]; decide,by rw [h0]; decide,qGe (by rw [h0]; decide)⟩;unfold qC8;rw [h0,if_neg (by decide),if_neg (by decide),if_pos rfl,hl];rfl
  ·obtain rfl:kd=2:=h1;have hl:litR t [102,97,108,115,101] a=.ok (a+5) ():=litR_says (t:=t) h;have h0:bAt t (a:Int)=102:=h.1;refine ⟨?_,by rw [h0]; decide,by rw [h0]; decide,qGe (by rw [h0]; decide)⟩;unfold qC8;rw [h0,if_neg (by decide),if_neg (by decide),if_neg (by decide),if_pos rfl,hl];rfl
  ·obtain rfl:kd=3:=h1;have hl:litR t [116,114,117,101] a=.ok (a+4) ():=litR_says (t:=t) h;have h0:bAt t (a:Int)=116:=h.1;refine ⟨?_,by rw [h0]; decide,by rw [h0]; decide,qGe (by rw [h0]; decide)⟩;unfold qC8;rw [h0,if_neg (by decide),if_neg (by decide),if_neg (by decide),if_neg (by decide),if_pos rfl,hl];rfl
 ·have h6:kd=6∨kd=7:=h6;have hk:kd<6:=hk;omega
def closeC (obj:Bool):Int:=if obj=true then 125 else 93
theorem lastC_close (obj:Bool):lastC obj=closeC obj:=by cases obj <;> rfl
theorem setKey_twice (k:BA) (l:List Eng.Node) (x:BA):qBl k (qBl x l)=qBl k l:=by cases l <;> rfl
theorem setKey_own {v:List Eng.Node} {p e:Nat} {n:Eng.Node} (h:v[p]?=some n) (he:p+1≤e):qBl (qBz v p) (part v p e)=part v p e:=by
 rw [part_cons h he];unfold qBz;rw [List.getD_eq_getElem?_getD,h];rfl
theorem sub_less {s a b m:Nat} (h:s - a<m+1) (hb:b≤s) (hab:a<b):s - b<m:=by omega
theorem escL_app (x y:List Int):escL (x++y)=escL x++escL y:=by unfold escL; rw [List.flatMap_append]
theorem escB_high {c:Int} (h:32≤c) (h1:c≠34) (h2:c≠92):escB c=[c]:=by
 unfold escB;rw [if_neg (by omega),if_neg (by omega),if_neg (by omega),if_neg (by omega),if_neg (by omega),if_neg (by omega),if_neg (by omega)]
theorem escL_high:∀ {l:List Int},(∀x∈l,128≤x)→(escL l).length=l.length
 | [],_=>rfl
 | c::l,h=>by
  show (escB c++escL l).length=_;have:=h c List.mem_cons_self;rw [escB_high (by omega) (by omega) (by omega),List.length_append,escL_high fun x hx=>h x (List.mem_cons_of_mem _ hx)];simp only [List.length_cons,List.length_nil];omega
theorem escL_utf {u:Int} (h:Code u):(escL (utfL u)).length≤6∧((u=34∨u=92∨u=47∨u=8∨u=12∨u=10∨u=13∨u=9)→(escL (utfL u)).length≤2):=by
 unfold Code at h;by_cases h1:u<128
 ·rw [utfL_one h1];have e:escL [u]=escB u:=by show escB u++[]=_; rw [List.append_nil]
  rw [e];refine ⟨(escB_len u).2,fun hu=>?_⟩;rcases hu with rfl | rfl | rfl | rfl | rfl | rfl | rfl | rfl <;> decide
 ·have hl:=utfL_len u;rw [escL_high (by
   intro x hx;unfold utfL at hx;rw [if_neg h1] at hx;repeat' split at hx
   all_goals
    simp only [List.mem_cons,List.not_mem_nil,or_false] at hx;omega)]
  exact ⟨by omega,fun hu=>by omega⟩
theorem saidS_cases {c:Int} (h:0≤qGk c):qGk c=34∨qGk c=92∨qGk c=47∨qGk c=8∨qGk c=12∨qGk c=10∨qGk c=13∨qGk c=9:=by
 unfold qGk at h ⊢;repeat' split
 all_goals omega
theorem escR_short {t:BA} {a b:Nat} {u:Int} (h:escR t a=.ok b u):(escL (utfL u)).length≤b - a:=by
 have hok:=escR_ok h;have hl:=escL_utf hok.2.2;unfold escR at h;split at h
 ·cases h
 ·split at h
  ·split at h
   ·cases h
   ·rename_i b' u' hf;have h4:=fourR_ok hf;split at h
    ·cases h;omega
    ·unfold pairR at h;repeat' split at h
     all_goals first | (cases h; done) | skip
     rename_i hw;have h6:=fourR_ok hw;cases h;omega
  ·split at h
   ·cases h
   ·cases h;have:=hl.2 (saidS_cases (by omega));omega
theorem bytesL_seq_high {t:BA} {a:Nat} (ha:a<t.size) (h8:128≤by8 t a) (hk:seqK t a=0):∀x∈qAi (t.extract a (a+seqW t a)),128≤x:=by
 intro x hx;have hw:=qDv ha h8 hk;obtain ⟨i,hi,rfl⟩:=List.getElem_of_mem hx;rw [qAj,ByteArray.size_extract] at hi;have h1:=qC1 (s:=t.extract a (a+seqW t a)) (i:=i) (by rw [ByteArray.size_extract]; omega);rw [List.getElem?_eq_getElem (by rw [qAj,ByteArray.size_extract]; omega),snJ] at h1;rw [h1,qDk t a _ (i:Int) (by omega) (by omega)];have h2:=seq_high ha h8 hk i (by omega);have h3:=qD0 (t:=t) (i:=a+i) (by omega);rw [show (a:Int)+(i:Int)=((a+i:Nat):Int) by omega];omega
theorem qD3 {t:BA}:∀ {n a b:Nat} {acc l:List Int},quoR t n a acc=.ok b l→(escL l).length+1≤(escL acc).length+(b - a)
 | 0,a,b,acc,l,h=>by cases h
 | n+1,a,b,acc,l,h=>by
  unfold quoR at h;split at h
  ·cases h
  ·rename_i h0;have ha:=qA7 (t:=t) (a:=a) (by omega);split at h
   ·cases h;omega
   ·split at h
    ·split at h
     ·cases h
     ·rename_i b' u he;have h1:=escR_ok he;have h2:=escR_short he;have hr:b'≤b:=by
       have:=qD3 h;by_cases hb:b'≤b
       ·exact hb
       ·exfalso;rw [show b - b'=0 by omega] at this;have hle:(escL (acc++utfL u)).length≤(escL l).length:=quoR_grow h;omega
      have:=qD3 h;rw [escL_app,List.length_append] at this;omega
    ·split at h
     ·have hr:a+1≤b:=by
       have:=qD3 h;by_cases hb:a+1≤b
       ·exact hb
       ·exfalso;rw [show b - (a+1)=0 by omega] at this;have hle:=quoR_grow h;omega
      have:=qD3 h;rw [escL_app,List.length_append,show escL [bAt t (a:Int)]=escB (bAt t (a:Int)) by show escB _++[]=_; rw [List.append_nil],escB_high (by omega) (by omega) (by omega)] at this;simp only [List.length_cons,List.length_nil] at this;omega
     ·split at h
      ·rename_i hk;have h8:128≤by8 t a:=by have:=qD0 ha; omega
       have hw:=qDv ha h8 hk;have hr:a+seqW t a≤b:=by
        have:=qD3 h;by_cases hb:a+seqW t a≤b
        ·exact hb
        ·exfalso;rw [show b - (a+seqW t a)=0 by omega] at this;have hle:=quoR_grow h;omega
       have:=qD3 h;rw [escL_app,List.length_append,escL_high (bytesL_seq_high ha h8 hk),qAj,ByteArray.size_extract] at this;omega
      ·cases h
where
 quoR_grow {t:BA}:∀ {n a b:Nat} {acc l:List Int},quoR t n a acc=.ok b l→(escL acc).length≤(escL l).length
 | 0,a,b,acc,l,h=>by cases h
 | n+1,a,b,acc,l,h=>by
  unfold quoR at h;split at h
  ·cases h
  ·split at h
   ·cases h;exact Nat.le_refl _
   ·split at h
    ·split at h
     ·cases h
     ·have:=quoR_grow h;rw [escL_app,List.length_append] at this;omega
    ·split at h
     ·have:=quoR_grow h;rw [escL_app,List.length_append] at this;omega
     ·split at h
      ·have:=quoR_grow h;rw [escL_app,List.length_append] at this;omega
      ·cases h
theorem quoL_short {t:BA} {n a b:Nat} {l:List Int} (h:quoR t n (a+1) []=.ok b l):(quoL (qA3 l)).length≤b - a:=by
 have h1:=qD3 h;have h2:=qE1 h (by simp);unfold quoL;rw [bytesL_of h2.2.2.1,List.length_cons,List.length_append,List.length_singleton];have:(escL ([]:List Int)).length=0:=rfl;omega
theorem scalR_short {t:BA} {a b:Nat} {l:List Eng.Node} (ha:a≤t.size) (h:qC8 t a=.ok b l):∃n,l=[n]∧n.kind<6∧∀k,(scalL (setK k n)).length≤b - a:=by
 unfold qC8 at h;split at h
 ·split at h
  ·cases h
  ·rename_i h1;have:=quoL_short h1;cases h;exact ⟨_,rfl,by show (5:Int)<6; decide,fun k=>this⟩
 ·split at h
  ·split at h
   ·cases h
   ·rename_i hc _ b1 x1 h1;have hlt:=qA7 (t:=t) (a:=a) (by omega);have h2:=numR_adv hlt h1;cases h;refine ⟨_,rfl,by show (4:Int)<6; decide,fun k=>?_⟩;show (qAi (t.extract a _)).length≤_;rw [qAj,ByteArray.size_extract];omega
  ·have lit:∀(w:List Int) (b:Nat) (x:Unit),(∀c∈w,0≤c)→litR t w a=.ok b x→w.length≤b - a:=fun w b x hw hl=>by
    have:=(litR_adv hw hl).1;omega
   split at h
   ·split at h
    ·cases h
    ·rename_i h1;have:=lit _ _ _ (by decide) h1;cases h;exact ⟨_,rfl,by show (1:Int)<6; decide,fun k=>this⟩
   ·split at h
    ·split at h
     ·cases h
     ·rename_i h1;have:=lit _ _ _ (by decide) h1;cases h;exact ⟨_,rfl,by show (2:Int)<6; decide,fun k=>this⟩
    ·split at h
     ·split at h
      ·cases h
      ·rename_i h1;have:=lit _ _ _ (by decide) h1;cases h;exact ⟨_,rfl,by show (3:Int)<6; decide,fun k=>this⟩
     ·cases h
def ShortAt (t:BA) (d:Nat) (val:Nat→Rd (List Eng.Node)):Prop:=∀a b l,a≤t.size→val a=.ok b l→∀(k:BA) (obj:Bool) (pre post:List Eng.Node),KeyOK obj k→(qBu (pre++qBl k l++post) d pre.length).length≤b - a
theorem getD_pre (pre post:List Eng.Node) (n:Eng.Node) (l:List Eng.Node) (x:Eng.Node):(pre++(n::l)++post).getD pre.length x=n:=by
 rw [List.getD_eq_getElem?_getD,at_pre];rfl
theorem leaf_short {t:BA} {a b:Nat} {l:List Eng.Node} (ha:a≤t.size) (h:qC8 t a=.ok b l) (d:Nat) (k:BA) (pre post:List Eng.Node):(qBu (pre++qBl k l++post) d pre.length).length≤b - a:=by
 obtain ⟨n,rfl,hk,hl⟩:=scalR_short ha h;have e:(pre++qBl k [n]++post).getD pre.length (ET.dft .node)=setK k n:=getD_pre pre post (setK k n) [] _;have hk2:(setK k n).kind<6:=hk;cases d with
 | zero =>
  unfold qBu;rw [e];exact hl k
 | succ d =>
  unfold qBu;rw [e,if_pos hk2];exact hl k
theorem rowR_short {t:BA} {d:Nat} {val:Nat→Rd (List Eng.Node)} (hv:Adv t val) (hk0:∀a b l,val a=.ok b l→qBl ⟨#[]⟩ l=l) (hS:ShapeAt t d val) (hL:ShortAt t d val) {obj:Bool}:∀ {m a k:Nat} {acc:List Eng.Node} {names:List BA} {b:Nat} {x:Nat × List Eng.Node},a≤t.size→rowR t val obj m a k acc names=.ok b x →
  ∃(j:Nat) (more:List Eng.Node),x.1=k+(j+1)∧x.2=acc++more∧∀(pre post:List Eng.Node),(qDa (pre++more++post) (oneS (pre++more++post) d obj) (qBu (pre++more++post) d) obj (j+1) pre.length true).length+1≤b - a
 | 0,a,k,acc,names,b,x,ha,h=>by cases h
 | m+1,a,k,acc,names,b,x,ha,h=>by
  have hadvAll:=rowR_adv hv ha h;unfold rowR at h;split at h
  ·cases h
  ·rename_i b1 y h1;obtain ⟨a',l,ha',hl,hy,hne,hkey,hmem⟩:=itemR_shape hv hk0 ha h1;have hadv:=itemR_adv hv ha h1;have hlen:y.2.length=l.length:=by rw [hy,qGp]
   have one:∀pre post,oneS (pre++y.2++post) d obj pre.length=some (pre.length+y.2.length)∧qBz (pre++y.2++post) pre.length=y.1∧(qBu (pre++y.2++post) d pre.length).length≤b1 - a':=fun pre post=>by
    rw [hlen,hy];exact ⟨hS _ _ _ ha' hl _ obj pre post hkey,keyAt_pre pre post _ hne,hL _ _ _ ha' hl _ obj pre post hkey⟩
   have item:∀pre post,(keyL (pre++y.2++post) obj pre.length).length+(qBu (pre++y.2++post) d pre.length).length≤b1 - a:=by
    intro pre post;obtain ⟨o1,o2,o3⟩:=one pre post;unfold qD5 at h1;cases obj with
    | false =>
     rw [if_neg (by decide)] at h1;cases hva:val a with
     | bad c b=>rw [hva] at h1; cases h1
     | ok b2 l2 =>
      rw [hva] at h1;dsimp only at h1;have hy2:y=(⟨#[]⟩,l2):=by cases h1; rfl
      have hb2:b1=b2:=by cases h1; rfl
      have h3:=hL _ _ _ ha hva ⟨#[]⟩ false pre post ⟨rfl,.inr rfl⟩;rw [hk0 _ _ _ hva] at h3;rw [hy2,hb2];show 0+_≤_;rw [Nat.zero_add];exact h3
    | true =>
     rw [if_pos rfl] at h1;split at h1
     ·rename_i h34;have hla:=qA7 (t:=t) (a:=a) (by omega);split at h1
      ·cases h1
      ·rename_i bq lq hq;have hqs:=quoL_short hq;have hqo:=qE1 hq (by simp);split at h1
       ·cases h1
       ·split at h1
        ·rename_i h58;have h3:=qA7 (t:=t) (a:=qAu t bq) (by omega);have h4:=qBs t bq;have h5:=qBs t (qAu t bq+1);have h6:=qA8 t (qAu t bq+1) (by omega);split at h1
         ·cases h1
         ·rename_i b3 l3 h7;have h8:=hv _ _ _ h6 h7;have hy2:y=(qA3 lq,qBl (qA3 lq) l3):=by cases h1; rfl
          have hb2:b1=b3:=by cases h1; rfl
          have h9:=hL _ _ _ h6 h7 (qA3 lq) true pre post ⟨(qE8 hq qC4.nil).bytes,.inl rfl⟩;rw [hy2] at o2 ⊢;rw [hb2];dsimp only at o2 h9 ⊢;unfold keyL;rw [if_pos rfl,o2,List.length_append,List.length_singleton];omega
        ·cases h1
     ·cases h1
   have k1:=qBs t b1;have k2:=qA8 t b1 hadv.2.1;have unf:∀(w:List Eng.Node) (p e j:Nat),oneS w d obj p=some e→(qDa w (oneS w d obj) (qBu w d) obj (j+1) p true).length=(keyL w obj p).length+((qBu w d p).length+(qDa w (oneS w d obj) (qBu w d) obj j e false).length):=fun w p e j ho=>by
    show (qGs true++(keyL w obj p++(qBu w d p++qDa w (oneS w d obj) (qBu w d) obj j ((oneS w d obj p).getD 0) false))).length=_;rw [ho];simp [qGs]
   split at h
   ·cases h;refine ⟨0,y.2,rfl,rfl,fun pre post=>?_⟩;have h1:=item pre post;rw [unf _ _ _ 0 (one pre post).1];show _+(_+0)+1≤_;omega
   ·split at h
    ·rename_i hcm;have h3:=qA7 (t:=t) (a:=qAu t b1) (by omega);have k3:=qBs t (qAu t b1+1);have k4:=qA8 t (qAu t b1+1) (by omega);obtain ⟨j,more,e1,e2,h4⟩:=rowR_short hv hk0 hS hL k4 h;have h4a:=rowR_adv hv k4 h;refine ⟨j+1,y.2++more,by omega,by rw [e2,List.append_assoc],fun pre post=>?_⟩;have o1:=one pre (more++post);have i1:=item pre (more++post);have h5:=h4 (pre++y.2) post;have e3:pre++(y.2++more)++post=pre++y.2++(more++post):=by simp
     have e4:pre++y.2++more++post=pre++y.2++(more++post):=by simp
     rw [e4,List.length_append] at h5;rw [e3,unf _ _ _ (j+1) o1.1];have e5:∀(w:List Eng.Node) (p:Nat),(qDa w (oneS w d obj) (qBu w d) obj (j+1) p false).length=1+(qDa w (oneS w d obj) (qBu w d) obj (j+1) p true).length:=fun w p=>by
      show (([44]:List Int)++_).length=1+(([]:List Int)++_).length;rw [List.length_append,List.nil_append];rfl
     rw [e5];omega
    ·cases h
theorem valR_short {t:BA} (hs:t.size≤600000):∀d,ShortAt t d (valR t d)
 | 0=>fun a b l ha h k obj pre post hk=>by
  unfold valR at h;split at h
  ·cases h
  ·exact leaf_short ha h 0 k pre post
 | d+1=>fun a b l ha h k obj pre post hk=>by
  unfold valR at h;split at h
  ·have hlt:=qA7 (t:=t) (a:=a) (by omega);generalize hob:decide (bAt t (a:Int)=123)=ob at h
   have k1:=qBs t (a+1);have k2:=qA8 t (a+1) (by omega);have hn6:¬qCd ob<6:=by cases ob <;> decide
   have hk7:decide (qCd ob=7)=ob:=by cases ob <;> rfl
   unfold boxR at h;split at h
   ·cases h;have e:(pre++qBl k [nd0 (qCd ob) ⟨#[]⟩ false 0 0]++post).getD pre.length (ET.dft .node)=setK k (nd0 (qCd ob) ⟨#[]⟩ false 0 0):=getD_pre pre post _ [] _;unfold qBu;rw [e];show (if qCd ob<6 then _ else _:List Int).length≤_;rw [if_neg hn6];show (_::([]++[_])).length≤_;simp only [List.nil_append,List.length_cons,List.length_nil];omega
   ·split at h
    ·cases h
    ·rename_i b1 x h1;cases h;obtain ⟨j,more,e1,e2,h3⟩:=rowR_short (qEj t d) (fun a b l h=>valR_key h) (valR_shape hs d) (valR_short hs d) k2 h1;simp only [List.nil_append,Nat.zero_add] at e1 e2;rw [e1,e2];have h4:=h3 (pre++[setK k (nd0 (qCd ob) ⟨#[]⟩ false 0 ((j+1:Nat):Int))]) post;have e3:pre++[setK k (nd0 (qCd ob) ⟨#[]⟩ false 0 ((j+1:Nat):Int))]++more++post=pre++(setK k (nd0 (qCd ob) ⟨#[]⟩ false 0 ((j+1:Nat):Int))::more)++post:=by simp
     rw [e3,List.length_append,List.length_singleton] at h4;have e:(pre++(setK k (nd0 (qCd ob) ⟨#[]⟩ false 0 ((j+1:Nat):Int))::more)++post).getD pre.length (ET.dft .node)=setK k (nd0 (qCd ob) ⟨#[]⟩ false 0 ((j+1:Nat):Int)):=getD_pre pre post _ more _;show (qBu (pre++(setK k (nd0 (qCd ob) ⟨#[]⟩ false 0 ((j+1:Nat):Int))::more)++post) (d+1) pre.length).length≤_;unfold qBu;rw [e];show (if qCd ob<6 then _ else (if qCd ob=7 then 123 else 91)::(qDa _ (oneS _ d (decide (qCd ob=7))) _ (decide (qCd ob=7)) (Int.toNat ((j+1:Nat):Int)) _ true++[_]):List Int).length≤_;rw [if_neg hn6,hk7,Int.toNat_natCast];simp only [List.length_cons,List.length_append,List.length_nil];omega
  ·exact leaf_short ha h (d+1) k pre post
theorem readR_short {t:BA} (hs:t.size≤262144) {b:Nat} {l:List Eng.Node} (h:readR t=.ok b l):(qBu l 32 0).length≤t.size:=by
 unfold readR at h;have k:=qA8 t 0 (by omega);split at h
 ·cases h
 ·rename_i b1 l1 h1;have h2:=qEj t 32 _ _ _ k h1;have:=valR_short (t:=t) (by omega) 32 _ _ _ k h1 ⟨#[]⟩ false [] [] ⟨rfl,.inr rfl⟩;rw [valR_key h1,List.nil_append,List.append_nil,List.length_nil] at this;split at h
  ·cases h
  ·cases h;omega
def pC (n:Eng.Node):Bool :=
 (decide (n.kind=4) && decide (n.kids=0) && qCf n.text && (n.whole == (qEp n.text).2) && decide (n.int=(qEp n.text).1)) ||
 (decide (n.kind=5) && decide (n.kids=0) && !n.whole && decide (n.int=0) && Lib.validD n.text.data.toList) ||
 ((decide (n.kind=1) || decide (n.kind=2) || decide (n.kind=3)) && decide (n.kids=0) && !n.whole && decide (n.int=0) && decide (n.text=⟨#[]⟩)) ||
 ((decide (n.kind=6) || decide (n.kind=7)) && decide (0≤n.kids) && !n.whole && decide (n.int=0) && decide (n.text=⟨#[]⟩))
theorem pB_C {n:Eng.Node} (hn:n.text.size≤3000000):pB n=pC n:=by
 rw [Bool.eq_iff_iff];unfold pC;simp only [Bool.or_eq_true,Bool.and_eq_true,decide_eq_true_eq,beq_iff_eq,Bool.not_eq_true'];constructor
 ·intro h;rcases pB_inv hn h with ⟨a,b,c,d,e⟩ | ⟨a,b,c,d,e⟩ | ⟨a,b,c,d,e⟩ | ⟨a,b,c,d,e⟩
  ·exact .inl (.inl (.inl ⟨⟨⟨⟨a,b⟩,c⟩,d⟩,e⟩))
  ·exact .inl (.inl (.inr ⟨⟨⟨⟨a,b⟩,c⟩,d⟩,e⟩))
  ·exact .inl (.inr ⟨⟨⟨⟨by omega,b⟩,c⟩,d⟩,e⟩)
  ·exact .inr ⟨⟨⟨⟨a,b⟩,c⟩,d⟩,e⟩
 ·rintro (((h | h) | h) | h)
  ·exact pB_num hn h.1.1.1.1 h.1.1.1.2 h.1.1.2 h.1.2 h.2
  ·exact pB_str hn h.1.1.1.1 h.1.1.1.2 h.1.1.2 h.1.2 h.2
  ·exact pB_bare (by omega) h.1.1.1.2 h.1.1.2 h.1.2 h.2
  ·exact pB_box h.1.1.1.1 h.1.1.1.2 h.1.1.2 h.1.2 h.2
def okC (obj:Bool) (n:Eng.Node):Bool:=pC n && Lib.validD n.key.data.toList && (obj || decide (n.key=(⟨#[]⟩:BA)))
def kidsC (v:List Eng.Node) (one:Nat→Option Nat) (obj:Bool):Nat→Nat→List BA→Option Nat
 | 0,a,_=>some a
 | k+1,a,names=>match one a with
  | none=>none
  | some e=>if obj=true∧qBz v a∈names then none else kidsC v one obj k e (names++[qBz v a])
def oneC (v:List Eng.Node):Nat→Bool→Nat→Option Nat
 | 0,obj,a=>match v[a]? with
  | none=>none
  | some n=>if okC obj n=true∧n.kind<6 then some (a+1) else none
 | d+1,obj,a=>match v[a]? with
  | none=>none
  | some n=>if okC obj n=true then kidsC v (oneC v d (decide (n.kind=7))) (decide (n.kind=7)) n.kids.toNat (a+1) [] else none
theorem kidsS_C {v:List Eng.Node} {one one':Nat→Option Nat} {obj:Bool} (h:∀a,one a=one' a):∀(k a:Nat) (names:List BA),qCr v one obj k a names=kidsC v one' obj k a names
 | 0,a,names=>rfl
 | k+1,a,names=>by
  unfold qCr kidsC;rw [h a];cases one' a with
  | none=>rfl
  | some e =>
   dsimp only;rw [kidsS_C h k e]
theorem oneS_C {v:List Eng.Node} (hv:OkL v):∀(d:Nat) (obj:Bool) (a:Nat),oneS v d obj a=oneC v d obj a
 | 0,obj,a=>by
  unfold oneS oneC;cases hn:v[a]? with
  | none=>rfl
  | some n =>
   dsimp only;have:okB obj n=okC obj n:=by unfold okB okC; rw [pB_C (hv.2 n (List.mem_of_getElem? hn)).text]
   rw [this]
 | d+1,obj,a=>by
  unfold oneS oneC;cases hn:v[a]? with
  | none=>rfl
  | some n =>
   dsimp only;have:okB obj n=okC obj n:=by unfold okB okC; rw [pB_C (hv.2 n (List.mem_of_getElem? hn)).text]
   rw [this,kidsS_C (fun a=>oneS_C hv d _ a)]
def prKidsC (v:List Eng.Node) (one:Nat→Option Nat) (pr:Nat→List Int) (obj:Bool):Nat→Nat→Bool→List Int
 | 0,_,_=>[]
 | k+1,a,first=>qGs first++(keyL v obj a++(pr a++prKidsC v one pr obj k ((one a).getD 0) false))
def prC (v:List Eng.Node):Nat→Nat→List Int
 | 0,a=>scalL (v.getD a (ET.dft .node))
 | d+1,a =>
  if (v.getD a (ET.dft .node)).kind<6 then scalL (v.getD a (ET.dft .node))
  else (if (v.getD a (ET.dft .node)).kind=7 then 123 else 91)::(prKidsC v (oneC v d (decide ((v.getD a (ET.dft .node)).kind=7))) (prC v d) (decide ((v.getD a (ET.dft .node)).kind=7)) (v.getD a (ET.dft .node)).kids.toNat (a+1) true++[if (v.getD a (ET.dft .node)).kind=7 then 125 else 93])
theorem prKids_C {v:List Eng.Node} {one one':Nat→Option Nat} {pr pr':Nat→List Int} {obj:Bool} (h:∀a,one a=one' a) (hp:∀a,pr a=pr' a):∀(k a:Nat) (first:Bool),qDa v one pr obj k a first=prKidsC v one' pr' obj k a first
 | 0,a,first=>rfl
 | k+1,a,first=>by
  unfold qDa prKidsC;rw [h a,hp a,prKids_C h hp k]
theorem prOne_C {v:List Eng.Node} (hv:OkL v):∀(d a:Nat),qBu v d a=prC v d a
 | 0,a=>rfl
 | d+1,a=>by
  unfold qBu prC;rw [prKids_C (fun a=>oneS_C hv d _ a) (fun a=>prOne_C hv d a)]
theorem p_Print {v:List Eng.Node} (hv:OkL v):zal_s v=some (if oneS v 32 false 0=some v.length then (if 262144<(qBu v 32 0).length then ((⟨#[]⟩:BA),10) else (qA3 (qBu v 32 0),0)) else (⟨#[]⟩,31)):=by
 have hlen:=hv.1;unfold zal_s;rw [prog_Shaped hv,obS];by_cases hsh:oneS v 32 false 0=some v.length
 ·rw [deT hsh,Bool.not_true,cnF,if_pos hsh];have hsp:zbk_s (⟨false,[]⟩:qHc) v 0=some (⟨true,[]++qBu v 32 0⟩,(v.length:Int)):=evt_eq (N:=33) fun n hn=>by
   have:=sp_all hv 32 false 0 v.length n hsh (by omega) false [] (by show 0+_≤_; omega);rwa [show ((0:Nat):Int)=0 from rfl] at this
  rw [hsp,obS,List.nil_append];unfold zbu_s;rw [obS];dsimp only;by_cases hbig:262144<(qBu v 32 0).length
  ·rw [deT (show (262144:Int)<((qBu v 32 0).length:Int) by omega),cnT,if_pos hbig]
  ·rw [deF (show ¬(262144:Int)<((qBu v 32 0).length:Int) by omega),cnF,if_neg hbig];have hne:=prOne_some hv hsh;have hpos:0<(qBu v 32 0).length:=List.length_pos_iff.2 hne;have:zbv_s ⟨true,qBu v 32 0⟩=some (⟨true,[]⟩,qA3 (qBu v 32 0)):=by
    unfold zbv_s;refine (qAa hpos _).trans ?_;exact (qAa ⟨rfl,hpos,prOne_range v 32 0⟩ _).trans rfl
   rw [this,obS]
 ·rw [deF hsh,Bool.not_false,cnT,if_neg hsh]
end Go.Proofs.YtdcoiccdbgcpaaaDoor
