import Derived.Test.YtngikdcgcakaaaaDoorEngJ
set_option linter.unusedSimpArgs false
set_option linter.unusedVariables false
namespace Go.Eng
def oldC:CQ->Con
 | .any _=>λ_ _=>none
 | .inl _=>λ_ _=>none
 | .pan _=>λ_ _=>none
 | .quiet C=>λargs hp=>match C args hp SV some with
  | some v=>some (True,v,none)
  | none=>none
 | .loud C=>λargs hp=>match C args hp (SV × List SB) (λv hp'=>some (v,hp')) with
  | some (v,hp')=>some (True,v,some hp')
  | none=>none
def natQ:CQ->Prop
 | .any _=>True
 | .inl _=>True
 | .pan C=>∀args hp (R:Type) (k:SV->List SB->Option R) (kp:PV->Option R) r,C args hp R k kp=some r->∃o,C args hp ((SV × List SB) ⊕ PV) (λv hp'=>some (.inl (v,hp'))) (λp=>some (.inr p))=some o/\Sum.elim (λx=>k x.1 x.2) kp o=some r
 | .quiet C=>∀args hp (R:Type) (k:SV->Option R) r,C args hp R k=some r->∃v,C args hp SV some=some v/\k v=some r
 | .loud C=>∀args hp (R:Type) (k:SV->List SB->Option R) r,C args hp R k=some r->∃v hp',C args hp (SV × List SB) (λv hp'=>some (v,hp'))=some (v,hp')/\k v hp'=some r
def BodyOK(P:Program)(f:Nat):Prop:=∃fn,P.funcs[f]?=some fn/\fn.body.isSome=true/\fn.name ≠ "runtime.NumGoroutine"
def PanPost(X:Nat->Prop)(w0:World)(hp:List SB)(Z:Nat->Value)(o:(SV × List SB) ⊕ PV)(e:Ending)(w':World):Prop :=
 match o with
 | .inl (v,hp')=>∃Z',(∀i<hp.length,Z' i=Z i)/\hp.length<=hp'.length/\e=.returned (v.den Z')/\v.lt hp'.length/\HpSat X w0 w' Z' hp'/\Stays X w0 w'
 | .inr p=>e=.panicked [{ v:=panV p,recovered:=false }]/\Stays X w0 w'
def anyQ(P:Program)(f:Nat):CQ->Prop
 | .any C=>∀(args:List SV) (hp:List SB) (k:IntKind) (p:Int->Prop),C args hp=some (k,p)->(∀v∈args,v.lt hp.length)->∀(X:Nat->Prop) (w0 w:World) (Z:Nat->Value),HpSat X w0 w Z hp->Stays X w0 w ->
   Calls P f (args.map (SV.den Z)).toArray w λe w'=>∃n,p n/\e=.returned (.int k n)/\HpSat X w0 w' Z hp/\Stays X w0 w'
 | .inl C=>BodyOK P f/\∀(args:List SV) (hp:List SB) (R:Type) (k:SV->List SB->Option R) (r:R),C args hp R k=some r->(∀v∈args,v.lt hp.length)->∀(X:Nat->Prop) (w0 w:World) (Z:Nat->Value),HpSat X w0 w Z hp->Stays X w0 w ->
   Calls P f (args.map (SV.den Z)).toArray w λe w'=>∃v hp' Z',(∀i<hp.length,Z' i=Z i)/\hp.length<=hp'.length/\e=.returned (v.den Z')/\v.lt hp'.length/\HpSat X w0 w' Z' hp'/\Stays X w0 w'/\k v hp'=some r
 | .pan C=>∀(args:List SV) (hp:List SB) (o:(SV × List SB) ⊕ PV),C args hp ((SV × List SB) ⊕ PV) (λv hp'=>some (.inl (v,hp'))) (λp=>some (.inr p))=some o->(∀v∈args,v.lt hp.length)->∀(X:Nat->Prop) (w0 w:World) (Z:Nat->Value),HpSat X w0 w Z hp->Stays X w0 w ->
   Calls P f (args.map (SV.den Z)).toArray w λe w'=>PanPost X w0 hp Z o e w'
 | _=>True
def qAg(P:Program)(f:Nat)(C:CQ):Prop:=natQ C/\Valid P f (oldC C)/\anyQ P f C
def oldG(J:Nat->Option CQ)(f:Nat):Option Con:=(J f).map oldC
def EntS(Z:Nat->Value)(a:Act)(n:Nat)(x:Nat × GL × SV):Prop :=
 (Hold a x.2.1->a.tmps[x.1]?=some (x.2.2.den Z))/\(¬Hold a x.2.1->a.tmps[x.1]?=some undef)/\(Hold a x.2.1->x.2.2.lt n)
structure SatQ (E:Env) (Z:Nat->Value) (S:QS) (a:Act) (w:World):Prop where
 nd:a.defers=E.df
 sz:a.tmps.size=E.nt
 sl:∀x∈S.sl,EntS Z a S.hp.length x
 kn:∀g∈S.kn,a.tmps[g.1]?=some (.bool g.2)
 hp:HpSat E.X E.w0 w Z S.hp
 fr:Stays E.X E.w0 w
 n0:E.n0<=S.hp.length
 ag:∀i<E.n0,Z i=E.Z0 i
theorem qDv{i:Nat}{e:GL × SV}:∀ {l:List (Nat × GL × SV)},getQ l i=some e->(i,e)∈l
 | [],h=>by simp[getQ] at h
 | (j,x)::r,h=>by
  simp only[getQ] at h;by_cases hj:j=i
  ·rw[nbeq.2 hj] at h;simp only[cnT,snJ] at h;subst h hj;exact List.mem_cons.2 (.inl rfl)
  ·rw[qCx hj] at h;exact List.mem_cons.2 (.inr (qDv (by simpa using h)))
theorem SatQ.old{E:Env}{Z:Nat->Value}{S:QS}{a:Act}{w:World}(h:SatQ E Z S a w):Sat E Z (qDq S a) a w:=by
 refine⟨h.nd,h.sz,?_,h.hp,h.fr,h.n0,h.ag⟩;intro i c v hg;simp only[qDq,qEj,Option.map_eq_some_iff,Prod.mk.injEq] at hg;obtain⟨⟨G,u⟩,h1,rfl,rfl⟩:=hg;exact h.sl _ (qDv h1)
theorem SatQ.hold{E:Env}{Z:Nat->Value}{S:QS}{a:Act}{w:World}(h:SatQ E Z S a w):Hold a S.kn:=h.kn
theorem SatQ.get{E:Env}{Z:Nat->Value}{S:QS}{a:Act}{w:World}(h:SatQ E Z S a w){i:Nat}{G:GL}{v:SV}(hg:getQ S.sl i=some (G,v)):EntS Z a S.hp.length (i,G,v):=h.sl _ (qDv hg)
theorem dropG_mem{d:Nat}{x:Nat × GL × SV}:∀ {l:List (Nat × GL × SV)},x∈dropG d l->x∈l/\ment d x.2.1=false
 | [],h=>by simp[dropG] at h
 | y::r,h=>by
  simp only[dropG] at h;cases hm:ment d y.2.1 with
  | true =>
   rw[hm] at h;obtain⟨h1,h2⟩:=dropG_mem (l:=r) (by simpa using h);exact⟨List.mem_cons.2 (.inr h1),h2⟩
  | false =>
   rw[hm] at h;simp only[cnF,List.mem_cons] at h;rcases h with rfl | h
   ·exact⟨List.mem_cons.2 (.inl rfl),hm⟩
   ·obtain⟨h1,h2⟩:=dropG_mem (l:=r) h;exact⟨List.mem_cons.2 (.inr h1),h2⟩
theorem delS_mem{d:Nat}{x:Nat × GL × SV}:∀ {l:List (Nat × GL × SV)},x∈delS d l->x∈l/\x.1≠d
 | [],h=>by simp[delS] at h
 | y::r,h=>by
  simp only[delS] at h;by_cases hy:y.1=d
  ·rw[nbeq.2 hy] at h;obtain⟨h1,h2⟩:=delS_mem (l:=r) (by simpa using h);exact⟨List.mem_cons.2 (.inr h1),h2⟩
  ·rw[qCx hy] at h;simp only[cnF,List.mem_cons] at h;rcases h with rfl | h
   ·exact⟨List.mem_cons.2 (.inl rfl),hy⟩
   ·obtain⟨h1,h2⟩:=delS_mem (l:=r) h;exact⟨List.mem_cons.2 (.inr h1),h2⟩
theorem delK_mem{d:Nat}{x:Nat × Bool}:∀ {l:GL},x∈delK d l->x∈l/\x.1≠d
 | [],h=>by simp[delK] at h
 | y::r,h=>by
  simp only[delK] at h;by_cases hy:y.1=d
  ·rw[nbeq.2 hy] at h;obtain⟨h1,h2⟩:=delK_mem (l:=r) (by simpa using h);exact⟨List.mem_cons.2 (.inr h1),h2⟩
  ·rw[qCx hy] at h;simp only[cnF,List.mem_cons] at h;rcases h with rfl | h
   ·exact⟨List.mem_cons.2 (.inl rfl),hy⟩
   ·obtain⟨h1,h2⟩:=delK_mem (l:=r) h;exact⟨List.mem_cons.2 (.inr h1),h2⟩
theorem repS_mem{i:Nat}{e:GL × SV}{x:Nat × GL × SV}:∀ {l:List (Nat × GL × SV)},x∈repS l i e->x=(i,e)\/(x∈l/\x.1≠i)
 | [],h=>by simp[repS] at h
 | (j,y)::r,h=>by
  simp only[repS] at h;by_cases hy:j=i
  ·rw[nbeq.2 hy] at h;simp only[cnT,List.mem_cons] at h;rcases h with h | h
   ·exact .inl h
   ·rcases repS_mem h with h | ⟨h1,h2⟩
    ·exact .inl h
    ·exact .inr ⟨List.mem_cons.2 (.inr h1),h2⟩
  ·rw[qCx hy] at h;simp only[cnF,List.mem_cons] at h;rcases h with rfl | h
   ·exact .inr ⟨List.mem_cons.2 (.inl rfl),hy⟩
   ·rcases repS_mem h with h | ⟨h1,h2⟩
    ·exact .inl h
    ·exact .inr ⟨List.mem_cons.2 (.inr h1),h2⟩
theorem hasS_no{i:Nat}:∀ {l:List (Nat × GL × SV)},hasS i l=false->∀x∈l,x.1≠i
 | [],_,x,hx=>by simp at hx
 | (j,y)::r,h,x,hx=>by
  simp only[hasS] at h;by_cases hj:j=i
  ·rw[nbeq.2 hj] at h;simp at h
  ·rw[qCx hj] at h;rcases List.mem_cons.1 hx with rfl | hx
   ·exact hj
   ·exact hasS_no (by simpa using h) x hx
theorem putS_mem{i:Nat}{e:GL × SV}{x:Nat × GL × SV}{l:List (Nat × GL × SV)}(h:x∈putS l i e):x=(i,e)\/(x∈l/\x.1≠i):=by
 unfold putS at h;cases hh:hasS i l with
 | true=>rw[hh] at h;exact repS_mem h
 | false =>
  rw[hh] at h;simp only[cnF,List.mem_append,List.mem_cons,List.not_mem_nil,or_false] at h;rcases h with h | h
  ·exact .inr ⟨h,hasS_no hh x h⟩
  ·exact .inl h
theorem putL_mem{nv i:Nat}{e:GL × SV}{x:Nat × GL × SV}{l:List (Nat × GL × SV)}(h:x∈putL nv l i e):x=(i,e)\/(x∈l/\x.1≠i):=by
 unfold putL at h;cases hh:Nat.blt i nv with
 | true=>rw[hh] at h;exact putS_mem h
 | false =>
  rw[hh] at h;simp only[cnF,List.mem_cons] at h;rcases h with h | h
  ·exact .inl h
  ·exact .inr (delS_mem h)
theorem qCk{nv last:Nat}{x:Nat × GL × SV}:∀ {l:List (Nat × GL × SV)},x∈qBh nv last l->x∈l/\x.2.1=[]
 | [],h=>by simp[qBh] at h
 | (j,G,v)::r,h=>by
  simp only[qBh] at h;cases hb:(bif Nat.blt j nv then true else Nat.beq j last) with
  | true =>
   rw[hb] at h;simp only[cnT] at h;cases G with
   | nil =>
    simp only[List.mem_cons] at h;rcases h with rfl | h
    ·exact⟨List.mem_cons.2 (.inl rfl),rfl⟩
    ·obtain⟨h1,h2⟩:=qCk h;exact⟨List.mem_cons.2 (.inr h1),h2⟩
   | cons g G =>
    obtain⟨h1,h2⟩:=qCk h;exact⟨List.mem_cons.2 (.inr h1),h2⟩
  | false =>
   rw[hb] at h;obtain⟨h1,h2⟩:=qCk (l:=r) (by simpa using h);exact⟨List.mem_cons.2 (.inr h1),h2⟩
theorem ment_iff{d:Nat}:∀ {G:GL},ment d G=false->∀g∈G,g.1≠d
 | [],_,g,hg=>by simp at hg
 | x::r,h,g,hg=>by
  simp only[ment] at h;by_cases hx:x.1=d
  ·rw[nbeq.2 hx] at h;simp at h
  ·rw[qCx hx] at h;rcases List.mem_cons.1 hg with rfl | hg
   ·exact hx
   ·exact ment_iff (by simpa using h) g hg
theorem qE3{a:Act}{d i:Nat}{u:Value}(h:d≠i):(a.put (some d) u).tmps[i]?=a.tmps[i]?:=by
 simp only[Act.put];exact Array.getElem?_setIfInBounds_ne h
theorem Hold.put{a:Act}{d:Nat}{u:Value}{G:GL}(h:ment d G=false):Hold (a.put (some d) u) G↔Hold a G:=by
 have hm:=ment_iff h;constructor
 ·intro hh g hg;rw[<-qE3 (a:=a) (u:=u) (Ne.symm (hm g hg))];exact hh g hg
 ·intro hh g hg;rw[qE3 (Ne.symm (hm g hg))];exact hh g hg
theorem dstQ_lt{nt d:Nat}{A:GL}(h:dstQ nt A (some d)=true):d<nt/\ment d A=false:=by
 simp only[dstQ] at h;cases h1:Nat.blt d nt with
 | false=>rw[h1] at h;simp at h
 | true =>
  rw[h1] at h;cases h2:ment d A with
  | true=>rw[h2] at h;simp at h
  | false=>exact⟨by simpa using h1,rfl⟩
section
variable {E:Env} {nv:Nat}
theorem EntS.put{Z Z':Nat->Value}{a:Act}{n m d:Nat}{u:Value}{x:Nat × GL × SV}(h:EntS Z a n x)(hag:∀i<n,Z' i=Z i)(hle:n<=m)(hd:ment d x.2.1=false)(hx:x.1≠d):EntS Z' (a.put (some d) u) m x:=by
 obtain⟨h1,h2,h3⟩:=h;refine⟨λhh=>?_,λhh=>?_,λhh=>?_⟩
 ·rw[Hold.put hd] at hh;rw[qE3 (Ne.symm hx),h1 hh,SV.den_congr hag (h3 hh)]
 ·rw[Hold.put hd] at hh;rw[qE3 (Ne.symm hx),h2 hh]
 ·rw[Hold.put hd] at hh;exact SV.lt_mono hle (h3 hh)
theorem EntS.same{Z Z':Nat->Value}{a:Act}{n m:Nat}{x:Nat × GL × SV}(h:EntS Z a n x)(hag:∀i<n,Z' i=Z i)(hle:n<=m):EntS Z' a m x:=by
 obtain⟨h1,h2,h3⟩:=h;exact⟨λhh=>by rw[h1 hh,SV.den_congr hag (h3 hh)],h2,λhh=>SV.lt_mono hle (h3 hh)⟩
theorem SatQ.next{Z Z':Nat->Value}{S:QS}{a:Act}{w w':World}(h:SatQ E Z S a w){A:GL}{d:Option Nat}{v:SV}{u:Value}{hp:List SB}(hd:dstQ E.nt A d=true)(hag:∀i<S.hp.length,Z' i=Z i)(hlen:S.hp.length<=hp.length)
  (hc:Cls E Z' hp w') (hv1:Hold a A->u=v.den Z') (hv2:¬Hold a A->u=undef) (hlt:Hold a A->v.lt hp.length):SatQ E Z' (putQ nv S d A v hp) (a.put d u) w':=by
 have hhp:(putQ nv S d A v hp).hp=hp:=by cases d <;> rfl
 refine⟨by rw[put_defers];exact h.nd,by rw[put_size];exact h.sz,?_,?_,by rw[hhp];exact hc.1,hc.2,by rw[hhp];exact Nat.le_trans h.n0 hlen,λi hi=>(hag i (Nat.lt_of_lt_of_le hi h.n0)).trans (h.ag i hi)⟩
 ·intro x hx;rw[hhp];cases d with
  | none=>exact(h.sl x hx).same hag hlen
  | some d =>
   obtain⟨hd1,hd2⟩:=dstQ_lt hd;have hd':d<a.tmps.size:=by rw[h.sz];exact hd1
   rcases putL_mem hx with rfl | ⟨hx,hne⟩
   ·refine⟨λhh=>?_,λhh=>?_,λhh=>?_⟩
    ·rw[Hold.put hd2] at hh;simp only[put_get hd',if_true,hv1 hh]
    ·rw[Hold.put hd2] at hh;simp only[put_get hd',if_true,hv2 hh]
    ·rw[Hold.put hd2] at hh;exact hlt hh
   ·obtain⟨h1,h2⟩:=dropG_mem hx;exact(h.sl x h1).put hag hlen h2 hne
 ·intro g hg;cases d with
  | none=>exact h.kn g hg
  | some d =>
   obtain⟨h1,h2⟩:=delK_mem hg;rw[qE3 (Ne.symm h2)];exact h.kn g h1
theorem SatQ.forget{Z:Nat->Value}{S:QS}{a:Act}{w:World}(h:SatQ E Z S a w)(d:Option Nat)(u:Value):SatQ E Z (forgetQ S d) (a.put d u) w:=by
 cases d with
 | none=>exact h
 | some d =>
  refine⟨h.nd,by rw[put_size];exact h.sz,λx hx=>?_,λg hg=>?_,h.hp,h.fr,h.n0,h.ag⟩
  ·obtain⟨h1,h2⟩:=delS_mem hx;obtain⟨h3,h4⟩:=dropG_mem h1;exact(h.sl x h3).put (λ_ _=>rfl) (Nat.le_refl _) h4 h2
  ·obtain⟨h1,h2⟩:=delK_mem hg;rw[qE3 (Ne.symm h2)];exact h.kn g h1
theorem SatQ.know{Z:Nat->Value}{S:QS}{a:Act}{w:World}(h:SatQ E Z S a w){s:Nat}{b:Bool}(hs:a.tmps[s]?=some (.bool b)):SatQ E Z (knowQ S s b) a w:=by
 refine⟨h.nd,h.sz,λx hx=>?_,λg hg=>?_,h.hp,h.fr,h.n0,h.ag⟩
 ·rcases putS_mem hx with rfl | ⟨hx,_⟩
  ·exact⟨λ_=>hs,λhn=>(hn (Hold.nil a)).elim,λ_=>trivial⟩
  ·exact h.sl x hx
 ·rcases List.mem_cons.1 hg with rfl | hg
  ·exact hs
  ·exact h.kn g hg
theorem SatQ.prune{Z:Nat->Value}{S:QS}{a:Act}{w:World}(h:SatQ E Z S a w)(last:Nat):SatQ E Z ⟨qBh nv last S.sl,[],S.hp⟩ a w :=
 ⟨h.nd,h.sz,λx hx=>h.sl x (qCk hx).1,λg hg=>by simp at hg,h.hp,h.fr,h.n0,h.ag⟩
theorem unkn_some{a:Act}{kn:GL}(hk:Hold a kn):∀ {G A:GL},unkn kn G=some A->(Hold a G↔Hold a A)
 | [],A,h=>by
  simp only[unkn,snJ] at h;subst h;exact Iff.rfl
 | g::r,A,h=>by
  simp only[unkn] at h;cases h1:memG g kn with
  | true =>
   rw[h1] at h;have ih:=unkn_some hk (G:=r) (A:=A) (by simpa using h);rw[<-ih];exact⟨λhh x hx=>hh x (List.mem_cons.2 (.inr hx)),λhh=>Hold.cons (hk g (qEk h1)) hh⟩
  | false =>
   rw[h1] at h;simp only[cnF] at h;cases h2:memG (g.1,bif g.2 then false else true) kn with
   | true=>rw[h2] at h;simp at h
   | false =>
    rw[h2] at h;simp only[cnF] at h;split at h
    ·rename_i s hs;simp only[snJ] at h;subst h;have ih:=unkn_some hk hs;constructor
     ·intro hh;exact Hold.cons (hh g (List.mem_cons.2 (.inl rfl))) (ih.1 λx hx=>hh x (List.mem_cons.2 (.inr hx)))
     ·intro hh;exact Hold.cons (hh g (List.mem_cons.2 (.inl rfl))) (ih.2 λx hx=>hh x (List.mem_cons.2 (.inr hx)))
    ·cases h
theorem unkn_none{a:Act}{kn:GL}(hk:Hold a kn):∀ {G:GL},unkn kn G=none->¬Hold a G
 | [],h=>by simp[unkn] at h
 | g::r,h=>by
  simp only[unkn] at h;cases h1:memG g kn with
  | true =>
   rw[h1] at h;have ih:=unkn_none hk (G:=r) (by simpa using h);exact λhh=>ih λx hx=>hh x (List.mem_cons.2 (.inr hx))
  | false =>
   rw[h1] at h;simp only[cnF] at h;cases h2:memG (g.1,bif g.2 then false else true) kn with
   | true =>
    intro hh;have e1:=hh g (List.mem_cons.2 (.inl rfl));have e2:=hk _ (qEk h2);simp only at e2;rw[e1] at e2;cases hb:g.2 <;> rw[hb] at e2 <;> simp at e2
   | false =>
    rw[h2] at h;simp only[cnF] at h;split at h
    ·cases h
    ·rename_i hs;have ih:=unkn_none hk hs;exact λhh=>ih λx hx=>hh x (List.mem_cons.2 (.inr hx))
theorem guard_spec{Z:Nat->Value}{S:QS}{a:Act}{w:World}(h:SatQ E Z S a w){raws:List Nat}{P:Program}{ops:Array Oper}{o:Oper}{io:IOp}(hc:oper P raws ops o=some io) :
  io.d=o.dst/\(∃raw,io.p=qE2 P raw o.op)/\match qDt S io.g with
   | .bad=>True
   | .pass=>¬Region.wanted o (yielded ops a.tmps)=true
   | .on A=>(Region.wanted o (yielded ops a.tmps)=true↔Hold a A):=by
 unfold oper at hc;split at hc
 ·rename_i hg;cases hc;refine⟨rfl,⟨_,rfl⟩,?_⟩;simp only[qDt];simp[Region.wanted,hg,Hold.nil]
 ·rename_i j b hg;split at hc
  ·rename_i q hq;split at hc
   ·rename_i s hs;cases hc;refine⟨rfl,⟨_,rfl⟩,?_⟩;have hw:Region.wanted o (yielded ops a.tmps)=true↔a.tmps[s]?=some (.bool b):=by
     simp only[Region.wanted,hg,yielded,hq,obS,hs];cases h0:a.tmps[s]? with
     | none=>simp
     | some v=>cases v <;> simp
    simp only[qDt];cases hgs:getQ S.sl s with
    | none=>trivial
    | some e =>
     obtain⟨G,u⟩:=e;have hent:=h.get hgs;have hiff:a.tmps[s]?=some (.bool b)->Hold a ((s,b)::G):=λhh=>by
      refine Hold.cons hh ?_;by_cases hG:Hold a G
      ·exact hG
      ·have:=hent.2.1 hG;simp only at this;rw[hh] at this;cases this
     have hiff':a.tmps[s]?=some (.bool b)↔Hold a ((s,b)::G):=⟨hiff,λhh=>hh (s,b) (List.mem_cons.2 (.inl rfl))⟩;cases u with
     | tup l=>trivial
     | c y =>
      cases y with
      | agg l=>trivial
      | o z =>
       cases z <;> (try simp only) <;> try trivial
       rename_i val;cases val <;> (try simp only) <;> try trivial
       rename_i x;cases hu:unkn S.kn ((s,b)::G) with
       | none =>
        simp only;rw[hw,hiff'];exact unkn_none h.hold hu
       | some A =>
        simp only;rw[hw,hiff'];exact unkn_some h.hold hu
   ·cases hc
  ·cases hc
theorem eqs_spec{Z:Nat->Value}{S:QS}{a:Act}{w:World}(h:SatQ E Z S a w):∀ {A:GL} {es:List (Bool × Bool)},eqsQ S A=some es->Hold a A->∀e∈es,e.1=e.2
 | [],es,he,_,e,hm=>by
  simp only[eqsQ,snJ] at he;subst he;simp at hm
 | (s,b)::r,es,he,hA,e,hm=>by
  simp only[eqsQ] at he;split at he
  ·rename_i G x l h1 h2;simp only[snJ] at he;subst he;rcases List.mem_cons.1 hm with rfl | hm
   ·have hs:=hA (s,b) (List.mem_cons.2 (.inl rfl));have hent:=h.get h1;by_cases hG:Hold a G
    ·have:=hent.1 hG;simp only at this hs;rw[hs] at this;simp only[SV.den,SC.den,S0.den,snJ,Value.bool.injEq] at this;exact this.symm
    ·have:=hent.2.1 hG;simp only at this hs;rw[hs] at this;cases this
   ·exact eqs_spec h h2 (λx hx=>hA x (List.mem_cons.2 (.inr hx))) e hm
  ·cases he
theorem impP_use{p:Prop}:∀ {es:List (Bool × Bool)},impP p es->(∀e∈es,e.1=e.2)->p
 | [],h,_=>h
 | (x,b)::r,h,he=>impP_use (h (he (x,b) (List.mem_cons.2 (.inl rfl)))) λe hm=>he e (List.mem_cons.2 (.inr hm))
theorem impL_use{es:List (Bool × Bool)}(he:∀e∈es,e.1=e.2):∀ {ps:List Prop},AllP (impL es ps)->AllP ps
 | [],_=>trivial
 | p::r,h=>⟨impP_use h.1 he,impL_use he h.2⟩
variable {J:Nat->Option CQ} {raws:List Nat}
theorem prim_use{Z:Nat->Value}{S:QS}{a:Act}{w:World}(h:SatQ E Z S a w)(J':Nat->Option Con)(A:GL)(pr:Pr):RelR (Hold a A) (runP J' (qDq S a) (Hold a A) pr) (primQ S A pr) :=
 prim_rel (read_old h.hold λi G v hg hG=>⟨Z,(h.get hg).1 hG⟩) J' pr
theorem ok_use{Z:Nat->Value}{S:QS}{a:Act}{w:World}(h:SatQ E Z S a w)(hJ:∀f C,J f=some C->qAg E.P f C){o:Oper}{raw:Bool}{pr:Pr}(hp:pr=qE2 E.P raw o.op){A:GL}(hA:Hold a A):OpOK E Z (qDq S a) a o (runP (oldG J) (qDq S a) (Hold a A) pr):=by
 have hs:=h.old;refine primB_sound (λi hi=>hs.hp.ref i hi) (λh sb hsb=>hs.hp.lt h sb hsb) hs.sl hA hp λf C hC=>?_
 simp only[oldG,Option.map_eq_some_iff] at hC;obtain⟨D,hD,rfl⟩:=hC;exact(hJ f D hD).2.1
theorem prim_call{P:Program}{raw:Bool}{o:Op}{f:Nat}{xs:List Arg}(hB:Pr.call f xs=qE2 P raw o):∃c fn,o=.call c/\P.funcs[f]?=some fn/\fn.body.isSome=true/\fn.name ≠ "runtime.NumGoroutine" /\ c.callee=.value (.func f)/\args c.args.toList=some xs:=by
 have h:prim P raw o=some (.call f xs):=by
  unfold qE2 at hB;split at hB
  ·rename_i p hp;subst hB;unfold floP at hp
   (repeat' split at hp) <;> first | cases hp | (rename_i hb;cases hb2:arithB _ <;> rw[hb2] at hp <;> cases hp)
  ·split at hB
   ·rename_i p hp;rw[hp,hB]
   ·cases hB
 cases o <;> simp only[prim,reduceCtorEq] at h
 case call c =>
  obtain⟨p0,h0,he⟩:=Option.map_eq_some_iff.1 h;have he:=qD5 he (λ_ _ h=>by cases h) (λ_ _ _ h=>by cases h);subst he;replace h:=h0;clear h0;obtain⟨callee,cargs,ctypes⟩:=c;simp only[callPr] at h;split at h
  ·rename_i g;split at h
   ·rename_i fn hf;split at h
    ·rename_i hb;split at h
     ·rename_i hn;simp only[Option.map_eq_some_iff,Pr.call.injEq] at h;obtain⟨ys,h1,rfl,rfl⟩:=h;exact⟨_,fn,rfl,hf,hb,by simpa using hn,rfl,h1⟩
     ·cases h
    ·split at h
     ·split at h <;> simp at h
     ·cases h
   ·cases h
  all_goals (repeat' split at h) <;> simp[Option.map_eq_some_iff] at h
 all_goals (repeat' split at h) <;> simp[Option.map_eq_some_iff] at h
theorem prim_panic{P:Program}{raw:Bool}{o:Op}{x:Arg}(hB:Pr.panic x=qE2 P raw o):∃y,o=.panic y/\arg y=some x:=by
 have h:prim P raw o=some (.panic x):=by
  unfold qE2 at hB;split at hB
  ·rename_i p hp;subst hB;unfold floP at hp
   (repeat' split at hp) <;> first | cases hp | (rename_i hb;cases hb2:arithB _ <;> rw[hb2] at hp <;> cases hp)
  ·split at hB
   ·rename_i p hp;rw[hp,hB]
   ·cases hB
 cases o <;> simp only[prim,reduceCtorEq] at h
 case panic y =>
  obtain⟨x0,h0,he⟩:=Option.map_eq_some_iff.1 h;cases he;exact⟨y,rfl,h0⟩
 case call c =>
  obtain⟨p0,h0,he⟩:=Option.map_eq_some_iff.1 h;have he:=qD5 he (λ_ _ h=>by cases h) (λ_ _ _ h=>by cases h);subst he;exfalso;obtain⟨callee,cargs,ctypes⟩:=c;simp only[callPr] at h0;split at h0
  all_goals ((repeat' split at h0) <;> simp[Option.map_eq_some_iff] at h0)
 all_goals (repeat' split at h) <;> first | cases h | (simp only[Option.map_eq_some_iff,reduceCtorEq,and_false,exists_false] at h)
theorem prim_callV{P:Program}{raw:Bool}{o:Op}{x:Arg}{xs:List Arg}(hB:Pr.callV x xs=qE2 P raw o):∃c t,o=.call c/\c.callee=.value (.tmp t)/\x=.t t/\args c.args.toList=some xs:=by
 have h:prim P raw o=some (.callV x xs):=by
  unfold qE2 at hB;split at hB
  ·rename_i p hp;subst hB;unfold floP at hp
   (repeat' split at hp) <;> first | cases hp | (rename_i hb;cases hb2:arithB _ <;> rw[hb2] at hp <;> cases hp)
  ·split at hB
   ·rename_i p hp;rw[hp,hB]
   ·cases hB
 cases o <;> simp only[prim,reduceCtorEq] at h
 case call c =>
  obtain⟨p0,h0,he⟩:=Option.map_eq_some_iff.1 h;have he:=qD5 he (λ_ _ h=>by cases h) (λ_ _ _ h=>by cases h);subst he;replace h:=h0;clear h0;obtain⟨callee,cargs,ctypes⟩:=c;simp only[callPr] at h;split at h
  ·(repeat' split at h) <;> simp[Option.map_eq_some_iff] at h
  ·rename_i t;simp only[Option.map_eq_some_iff,Pr.callV.injEq] at h;obtain⟨ys,h1,rfl,rfl⟩:=h;exact⟨_,t,rfl,rfl,rfl,h1⟩
  all_goals (repeat' split at h) <;> simp[Option.map_eq_some_iff] at h
 all_goals (repeat' split at h) <;> simp[Option.map_eq_some_iff] at h
theorem opQ_sound{R:Type}{KP:PV->Option R}(hJ:∀f C,J f=some C->qAg E.P f C){o:Oper}{io:IOp}(hd:io.d=o.dst){raw:Bool}(hpr:io.p=qE2 E.P raw o.op){r:R}{K:QS->Option R}{N:Act->World->Prop}{Q:Exit->Act->World->Prop}
  (hK:∀S' Z' a' w',SatQ E Z' S' a' w'->K S'=some r->N a' w') {Z:Nat->Value} {S:QS} {a:Act} {w:World} (h:SatQ E Z S a w) (hQP:∀p w',Stays E.X E.w0 w'->KP p=some r->Q (.panic [{ v:=panV p,recovered:=false }]) a w') (hr:opQ J nv E.nt KP io S K=some r):o.wp E.P a w N Q:=by
 unfold opQ at hr;cases hdd:dstQ E.nt [] io.d with
 | false=>rw[hdd] at hr;simp at hr
 | true =>
  rw[hdd] at hr;simp only[cnT] at hr;have hcls:Cls E Z S.hp w:=⟨h.hp,h.fr⟩;have hok:=ok_use h hJ hpr (Hold.nil a);have hst:∀(p:Prop) (v:SV),OpOK E Z (qDq S a) a o (.still p v)->p->K (putQ nv S io.d [] v S.hp)=some r->o.wp E.P a w N Q:=λp v hq hp hk=>by
   obtain⟨hlt,hq⟩:=hq hp;unfold Oper.wp;rw[hq w hcls w];rw[Oper.upon_value,<-hd];exact hK _ Z _ w (h.next (nv:=nv) hdd (λ_ _=>rfl) (Nat.le_refl _) hcls (λ_=>rfl) (λhn=>(hn (Hold.nil a)).elim) (λ_=>hlt)) hk
  have hqt:∀(p:Prop) (v:SV),OpOK E Z (qDq S a) a o (.quiet p v)->p->K (putQ nv S io.d [] v S.hp)=some r->o.wp E.P a w N Q:=λp v hq hp hk=>by
   obtain⟨hlt,hq⟩:=hq hp;refine Oper.wp_of_quiet (C:=Cls E Z S.hp) (K:=λa'=>a'=a.put o.dst (v.den Z)) hcls ?_ ⟨_,hq,rfl⟩;rintro a' w' hc rfl
   rw[<-hd];exact hK _ Z _ w' (h.next (nv:=nv) hdd (λ_ _=>rfl) (Nat.le_refl _) hc (λ_=>rfl) (λhn=>(hn (Hold.nil a)).elim) (λ_=>hlt)) hk
  have hlo:∀(p:Prop) (v:SV) (hp':List SB),OpOK E Z (qDq S a) a o (.ok p v hp')->p->K (putQ nv S io.d [] v hp')=some r->o.wp E.P a w N Q:=λp v hp' hq hp hk=>by
   obtain⟨hlt,hlen,hq⟩:=hq hp;refine hq w hcls _ _ λZ' w' hag hc=>?_
   rw[<-hd];exact hK _ Z' _ w' (h.next (nv:=nv) hdd hag hlen hc (λ_=>rfl) (λhn=>(hn (Hold.nil a)).elim) (λ_=>hlt)) hk
  have other:(∀f xs,io.p≠.call f xs)->(match primQ S [] io.p with
   | .still ps v=>gds ps (K (putQ nv S io.d [] v S.hp))
   | .quiet ps v=>gds ps (K (putQ nv S io.d [] v S.hp))
   | .ok ps v hp=>gds ps (K (putQ nv S io.d [] v hp))
   | .no=>none)=some r->o.wp E.P a w N Q:=λ_ hr=>by
   have hrel:=prim_use h (oldG J) [] io.p;cases hq:primQ S [] io.p with
   | no=>rw[hq] at hr;cases hr
   | still ps v =>
    rw[hq] at hr hrel;obtain⟨hps,hk⟩:=qA7.1 hr;cases hro:runP (oldG J) (qDq S a) (Hold a []) io.p <;> rw[hro] at hrel hok <;> simp only[RelR] at hrel
    obtain⟨rfl,hpp⟩:=hrel;exact hst _ _ hok (hpp λ_=>hps) hk
   | quiet ps v =>
    rw[hq] at hr hrel;obtain⟨hps,hk⟩:=qA7.1 hr;cases hro:runP (oldG J) (qDq S a) (Hold a []) io.p <;> rw[hro] at hrel hok <;> simp only[RelR] at hrel
    obtain⟨rfl,hpp⟩:=hrel;exact hqt _ _ hok (hpp λ_=>hps) hk
   | ok ps v hp' =>
    rw[hq] at hr hrel;obtain⟨hps,hk⟩:=qA7.1 hr;cases hro:runP (oldG J) (qDq S a) (Hold a []) io.p <;> rw[hro] at hrel hok <;> simp only[RelR] at hrel
    obtain⟨rfl,rfl,hpp⟩:=hrel;exact hlo _ _ _ hok (hpp λ_=>hps) hk
  have go:∀(f:Nat) (l:List SV),(∀v∈l,v.lt S.hp.length)->(execOp a.eval o).run E.P w=.ok (.enter f (l.map (SV.den Z)).toArray) w->goQ J KP f l S.hp (λv hp=>K (putQ nv S io.d [] v hp))=some r->o.wp E.P a w N Q:=λf l hlt hrun hr=>by
   unfold Oper.wp;rw[hrun];unfold goQ at hr;split at hr
   ·rename_i C hC;have hv:=hJ f _ hC;obtain⟨v,hv1,hv2⟩:=hv.1 _ _ _ _ _ hr;have hV:=hv.2.1 l S.hp True v none (by simp only[oldC,hv1]) trivial hlt;refine(hV.2 E.X E.w0 w Z hcls.1 hcls.2).mono ?_;rintro e w' ⟨rfl,hc⟩
    have:=hK _ Z _ w' (h.next (nv:=nv) (v:=v) hdd (λ_ _=>rfl) (Nat.le_refl _) hc (λ_=>rfl) (λhn=>(hn (Hold.nil a)).elim) (λ_=>hV.1)) hv2;rw[hd] at this;exact this
   ·rename_i C hC;have hv:=hJ f _ hC;obtain⟨v,hp',hv1,hv2⟩:=hv.1 _ _ _ _ _ hr;have hV:=hv.2.1 l S.hp True v (some hp') (by simp only[oldC,hv1]) trivial hlt;refine(hV.2.2 E.X E.w0 w Z hcls.1 hcls.2).mono ?_;rintro e w' ⟨Z',hag,rfl,h4,h5⟩
    have:=hK _ Z' _ w' (h.next (nv:=nv) (v:=v) hdd hag hV.2.1 ⟨h4,h5⟩ (λ_=>rfl) (λhn=>(hn (Hold.nil a)).elim) (λ_=>hV.1)) hv2;rw[hd] at this;exact this
   ·rename_i C hC;have hv:=(hJ f _ hC).2.2.2;refine(hv l S.hp R _ r hr hlt E.X E.w0 w Z hcls.1 hcls.2).mono ?_;rintro e w' ⟨v,hp',Z',hag,hlen,rfl,hvl,h4,h5,hk⟩
    have:=hK _ Z' _ w' (h.next (nv:=nv) (v:=v) hdd hag hlen ⟨h4,h5⟩ (λ_=>rfl) (λhn=>(hn (Hold.nil a)).elim) (λ_=>hvl)) hk;rw[hd] at this;exact this
   ·rename_i C hC;have hv:=hJ f _ hC;obtain⟨o',ho,hk⟩:=hv.1 _ _ _ _ _ _ hr;refine(hv.2.2 l S.hp o' ho hlt E.X E.w0 w Z hcls.1 hcls.2).mono ?_;intro e w' hpost;cases o' with
    | inl x =>
     obtain⟨v,hp'⟩:=x;obtain⟨Z',hag,hlen,rfl,hvl,h4,h5⟩:=hpost;have:=hK _ Z' _ w' (h.next (nv:=nv) (v:=v) hdd hag hlen ⟨h4,h5⟩ (λ_=>rfl) (λhn=>(hn (Hold.nil a)).elim) (λ_=>hvl)) hk;rw[hd] at this;exact this
    | inr p =>
     obtain⟨rfl,h5⟩:=hpost;exact hQP p w' h5 hk
   ·rename_i C hC;have hv:=(hJ f _ hC).2.2;split at hr
    ·rename_i k pp hCl;have hd':=demon_some hr;refine(hv l S.hp k pp hCl hlt E.X E.w0 w Z hcls.1 hcls.2).mono ?_;rintro e w' ⟨n,hpn,rfl,h4,h5⟩
     have:=hK _ Z _ w' (h.next (nv:=nv) (v:=.c (.o (.val (.int k n)))) hdd (λ_ _=>rfl) (Nat.le_refl _) ⟨h4,h5⟩ (λ_=>rfl) (λhn=>(hn (Hold.nil a)).elim) (λ_=>trivial)) (hd' n hpn);rw[hd] at this;exact this
    ·cases hr
   ·cases hr
  cases hio:io.p with
  | call f xs =>
   rw[hio] at hr;simp only at hr;split at hr
   ·rename_i l hl;obtain⟨p,ha1,ha2⟩:=qDu (act:=Hold a []) (read_old h.hold λi G v hg hG=>⟨Z,(h.get hg).1 hG⟩) id hl;obtain⟨c,fn,hop,hf,hb,hn,hce,hxs⟩:=prim_call (hio ▸ hpr);obtain⟨e1,e2⟩:=qA4 h.old.sl (Hold.nil a) hxs ha1 ha2;refine go f l e2 ?_ hr;have hmap:c.args.map a.eval=(l.map (SV.den Z)).toArray:=by
     rw[<-e1];apply Array.toList_inj.1;rw[Array.toList_map]
    unfold execOp;simp only[hop,resolve,hce,hmap,Act.eval,Deferred.ofValue,Sem.run_bind,Sem.run_pure,Result.andThen_ok,invoke,Array.empty_append,Array.append_empty,qDl hf hb hn]
   ·cases hr
  | panic x =>
   rw[hio] at hr;simp only at hr;split at hr
   ·rename_i t v hax;obtain⟨y,hop,hxy⟩:=prim_panic (hio ▸ hpr);obtain⟨px,q1,q2⟩:=(read_old h.hold λi G v hg hG=>⟨Z,(h.get hg).1 hG⟩).arg (act:=Hold a []) id hax;have hx:=(qAc h.old.sl (Hold.nil a) hxy q1 q2).1;have hx':a.eval y=.iface t v:=hx;unfold Oper.wp;have hrun:(execOp a.eval o).run E.P w=.halt (.panic (.iface t v)) w:=by
     unfold execOp;simp[hop,hx',Instr.panic,goPanic]
    rw[hrun];exact hQP (t,v) w h.fr hr
   ·cases hr
  | callV x xs =>
   rw[hio] at hr;simp only at hr;split at hr
   ·rename_i f l1 l2 l hcl hl;obtain⟨p,ha1,ha2⟩:=qDu (act:=Hold a []) (read_old h.hold λi G v hg hG=>⟨Z,(h.get hg).1 hG⟩) id hl;obtain⟨c,t,hop,hce,hxt,hxs⟩:=prim_callV (hio ▸ hpr);obtain⟨e1,e2⟩:=qA4 h.old.sl (Hold.nil a) hxs ha1 ha2;subst hxt;unfold cloQ at hcl;split at hcl
    ·rename_i hh hax;split at hcl
     ·rename_i f0 k0 l0 hsb;simp only[snJ,Prod.mk.injEq] at hcl;obtain⟨rfl,rfl,rfl⟩:=hcl;obtain⟨px,q1,q2⟩:=(read_old h.hold λi G v hg hG=>⟨Z,(h.get hg).1 hG⟩).arg (act:=Hold a []) id hax;have hx:=(qAc h.old.sl (Hold.nil a) (x:=.tmp t) rfl q1 q2).1;have hval:Z hh=_:=h.hp.sat hh _ hsb;have hlt0:=h.hp.lt hh _ hsb;have hg:goQ J KP f0 ((l0.take k0).map (λx=>SV.c (.o x))++l++(l0.drop k0).map λx=>SV.c (.o x)) S.hp (λv hp=>K (putQ nv S io.d [] v hp))=some r/\BodyOK E.P f0:=by
       unfold goV at hr;unfold goQ;split at hr
       ·rename_i C hC;rw[hC];exact⟨hr,(hJ f0 _ hC).2.2.1⟩
       ·cases hr
      obtain⟨hr,fn,hf,hb,hn⟩:=hg;refine go f0 _ ?_ ?_ hr
      ·intro v hv;simp only[List.mem_append,List.mem_map] at hv;rcases hv with(⟨y,hy,rfl⟩ | hv) | ⟨y,hy,rfl⟩
       ·exact hlt0 y (List.mem_of_mem_take hy)
       ·exact e2 v hv
       ·exact hlt0 y (List.mem_of_mem_drop hy)
      ·have hmap:c.args.map a.eval=(l.map (SV.den Z)).toArray:=by
        rw[<-e1];apply Array.toList_inj.1;rw[Array.toList_map]
       have hxv:a.eval (.tmp t)=.func (.func f0) ((l0.take k0).map (S0.den Z)).toArray ((l0.drop k0).map (S0.den Z)).toArray:=by rw[hx];exact hval
       unfold execOp;simp only[hop,resolve,hce,hmap,hxv,Deferred.ofValue,Sem.run_bind,Sem.run_pure,Result.andThen_ok,invoke,qDl hf hb hn];congr 2
       simp[SV.den,SC.den,Function.comp_def]
     ·cases hcl
    ·rename_i f0 hax;simp only[snJ,Prod.mk.injEq] at hcl;obtain⟨rfl,rfl,rfl⟩:=hcl;obtain⟨px,q1,q2⟩:=(read_old h.hold λi G v hg hG=>⟨Z,(h.get hg).1 hG⟩).arg (act:=Hold a []) id hax;have hx:=(qAc h.old.sl (Hold.nil a) (x:=.tmp t) rfl q1 q2).1;have hg:goQ J KP f0 ([]++l++[]) S.hp (λv hp=>K (putQ nv S io.d [] v hp))=some r/\BodyOK E.P f0:=by
      unfold goV at hr;unfold goQ;split at hr
      ·rename_i C hC;rw[hC];exact⟨hr,(hJ f0 _ hC).2.2.1⟩
      ·cases hr
     obtain⟨hr,fn,hf,hb,hn⟩:=hg;refine go f0 _ ?_ ?_ hr
     ·intro v hv;simp only[List.nil_append,List.append_nil] at hv;exact e2 v hv
     ·have hmap:c.args.map a.eval=(l.map (SV.den Z)).toArray:=by
       rw[<-e1];apply Array.toList_inj.1;rw[Array.toList_map]
      have hxv:a.eval (.tmp t)=.func (.func f0) #[] #[]:=hx;unfold execOp;simp only[hop,resolve,hce,hmap,hxv,Deferred.ofValue,Sem.run_bind,Sem.run_pure,Result.andThen_ok,invoke,qDl hf hb hn];congr 2
      simp
    ·cases hcl
   ·cases hr
  | _=>rw[hio] at hr other;exact other (λf xs h=>by cases h) hr
def StepOK(P:Program)(ops:Array Oper)(Q:Exit->Act->World->Prop)(N:Act->World->Prop)(o:Oper)(a:Act)(w:World):Prop :=
 if Region.wanted o (yielded ops a.tmps)=true then o.wp P a w N Q\/(o.asks P a w/\LetsOut Q) else N (a.put o.dst undef) w
theorem lastG_some{g:Nat × Bool}:∀ {A:GL},lastG A=some g->g∈A/\∀x∈A,x=g\/x∈A.dropLast
 | [],h=>by simp[lastG] at h
 | [x],h=>by
  simp only[lastG,snJ] at h;subst h;exact⟨by simp,λy hy=>by simp at hy;exact .inl hy⟩
 | x::y::r,h=>by
  simp only[lastG] at h;obtain⟨h1,h2⟩:=lastG_some (A:=y::r) h;refine⟨List.mem_cons.2 (.inr h1),λz hz=>?_⟩;rcases List.mem_cons.1 hz with rfl | hz
  ·exact .inr (by simp[List.dropLast])
  ·rcases h2 z hz with h | h
   ·exact .inl h
   ·exact .inr (by simp only[List.dropLast];exact List.mem_cons.2 (.inr h))
theorem lastG_none{A:GL}(h:lastG A=none):A=[]:=by
 cases A with
 | nil=>rfl
 | cons x r =>
  exfalso;induction r generalizing x with
  | nil=>simp[lastG] at h
  | cons y r ih=>exact ih y (by simpa[lastG] using h)
theorem hold_last{a:Act}{g:Nat × Bool}{A:GL}(h:lastG A=some g):Hold a A↔a.tmps[g.1]?=some (.bool g.2)/\Hold a A.dropLast:=by
 obtain⟨h1,h2⟩:=lastG_some h;constructor
 ·exact λhh=>⟨hh g h1,λx hx=>hh x (List.dropLast_subset _ hx)⟩
 ·rintro ⟨h3,h4⟩ x hx
  rcases h2 x hx with rfl | hx
  ·exact h3
  ·exact h4 x hx
theorem splitQ_sound{R:Type}{KP:PV->Option R}(hJ:∀f C,J f=some C->qAg E.P f C){ops:Array Oper}{o:Oper}{io:IOp}(hd:io.d=o.dst){raw:Bool}(hpr:io.p=qE2 E.P raw o.op){r:R}{K:QS->Option R}{N:Act->World->Prop}{Q:Exit->Act->World->Prop}
  (hK:∀S' Z' a' w',SatQ E Z' S' a' w'->K S'=some r->N a' w') {Z:Nat->Value} {a:Act} {w:World} (hQP:∀p w',Stays E.X E.w0 w'->KP p=some r->Q (.panic [{ v:=panV p,recovered:=false }]) a w'):∀(n:Nat) (A:GL) (S:QS),SatQ E Z S a w->(Region.wanted o (yielded ops a.tmps)=true↔Hold a A)->splitQ J nv E.nt KP io K n A S=some r->StepOK E.P ops Q N o a w
 | 0,A,S,h,hw,hr=>by simp[splitQ] at hr
 | n+1,A,S,h,hw,hr=>by
  simp only[splitQ] at hr;split at hr
  ·rename_i hl;have:=lastG_none hl;subst this;unfold StepOK;rw[if_pos (hw.2 (Hold.nil a))];exact .inl (opQ_sound hJ hd hpr hK h hQP hr)
  ·rename_i s b hl;have hlast:=hold_last (a:=a) hl;split at hr
   ·rename_i G x hg;cases hs:subG [] S.kn G with
    | false=>rw[hs] at hr;simp at hr
    | true =>
     rw[hs] at hr;simp only[cnT] at hr;have hsx:a.tmps[s]?=some (.bool x):=(h.get hg).1 (subG_hold (Hold.nil a) h.hold hs);have hpass:∀c,x=c->c≠b->K (forgetQ (knowQ S s c) io.d)=some r->StepOK E.P ops Q N o a w:=λc hc hne hk=>by
      subst hc;have hn:¬Region.wanted o (yielded ops a.tmps)=true:=λhwt=>by
       have:=(hlast.1 (hw.1 hwt)).1;simp only at this;rw[hsx] at this;simp only[snJ,Value.bool.injEq] at this;exact hne this
      unfold StepOK;rw[if_neg hn,<-hd];exact hK _ Z _ w ((h.know hsx).forget _ _) hk
     have hgo:∀c,x=c->c=b->splitQ J nv E.nt KP io K n A.dropLast (knowQ S s c)=some r->StepOK E.P ops Q N o a w:=λc hc hcb hk=>by
      subst hc hcb;refine splitQ_sound hJ hd hpr hK hQP n A.dropLast _ (h.know hsx) ?_ hk;rw[hw,hlast];exact⟨λhh=>hh.2,λhh=>⟨hsx,hh⟩⟩
     cases b <;> cases x <;> simp only[cnT,cnF] at hr
     ·exact hgo false rfl rfl hr
     ·exact hpass true rfl (by simp) hr
     ·exact hpass false rfl (by simp) hr
     ·exact hgo true rfl rfl hr
   ·cases hr
theorem SatQ.pass{Z:Nat->Value}{S:QS}{a:Act}{w:World}(h:SatQ E Z S a w){g:Option (Nat × Bool)}(hgq:qDt S g=.pass)(r:List IOp)(d:Option Nat):SatQ E Z (passQ nv E.nt r S g d) (a.put d undef) w:=by
 have hn:¬Hold a (gsQ S g):=by
  cases g with
  | none=>cases hgq
  | some x =>
   obtain⟨s,b⟩:=x;simp only[qDt,gsQ] at hgq ⊢;cases hgs:getQ S.sl s with
   | none=>rw[hgs] at hgq;cases hgq
   | some e =>
    obtain⟨G,u⟩:=e;rw[hgs] at hgq;simp only at hgq ⊢;split at hgq
    ·rename_i h1;cases h1;split at hgq
     ·cases hgq
     ·rename_i h2;exact unkn_none h.hold h2
    ·cases hgq
 unfold passQ;cases hc:(asksQ d r && dstQ E.nt (gsQ S g) d) with
 | false=>exact h.forget _ _
 | true =>
  rw[Bool.and_eq_true] at hc;exact h.next hc.2 (λ_ _=>rfl) (Nat.le_refl _) ⟨h.hp,h.fr⟩ (λhh=>(hn hh).elim) (λ_=>rfl) (λhh=>(hn hh).elim)
theorem opsQ_sound{R:Type}{KP:PV->Option R}(hJ:∀f C,J f=some C->qAg E.P f C){ops:Array Oper}{Q:Exit->Act->World->Prop}{r:R}{K:QS->Option R}
  (hK:∀S' Z' a' w',SatQ E Z' S' a' w'->K S'=some r->Q .normal a' w') (hQP:∀p a w',a.defers=E.df->Stays E.X E.w0 w'->KP p=some r->Q (.panic [{ v:=panV p,recovered:=false }]) a w') :
  ∀(l:List Oper) (is:List IOp),opers E.P raws ops l=some is->∀(S:QS) (Z:Nat->Value) (a:Act) (w:World),SatQ E Z S a w->opsQ J nv E.nt KP is S K=some r->wpList E.P ops Q l a w
 | [],is,h,S,Z,a,w,hs,hr=>by
  simp only[opers,snJ] at h;subst h;exact hK S Z a w hs hr
 | o::rest,is,h,S,Z,a,w,hs,hr=>by
  simp only[opers] at h;split at h
  ·rename_i io is' h1 h2;simp only[snJ] at h;subst h;obtain⟨hd,⟨raw,hpr⟩,hg⟩:=guard_spec hs h1;have ih:∀S' Z' a' w',SatQ E Z' S' a' w'->opsQ J nv E.nt KP is' S' K=some r->wpList E.P ops Q rest a' w':=λS' Z' a' w' hs' hr'=>opsQ_sound hJ hK hQP rest is' h2 S' Z' a' w' hs' hr'
   show StepOK E.P ops Q (wpList E.P ops Q rest) o a w;simp only[opsQ] at hr;cases hgq:qDt S io.g with
   | bad=>rw[hgq] at hr;cases hr
   | pass =>
    rw[hgq] at hr hg;simp only at hr hg;cases hdd:dstQ E.nt [] io.d with
    | false=>rw[hdd] at hr;simp at hr
    | true =>
     rw[hdd] at hr;unfold StepOK;rw[if_neg hg,<-hd];exact ih _ Z _ w (hs.pass hgq _ _) hr
   | on A =>
    rw[hgq] at hr hg;simp only at hg;cases A with
    | nil =>
     simp only at hr;unfold StepOK;rw[if_pos (hg.2 (Hold.nil a))];exact .inl (opQ_sound hJ hd hpr ih hs (λp w'=>hQP p a w' hs.nd) hr)
    | cons g A =>
     simp only at hr;have hrel:=prim_use hs (oldG J) (g::A) io.p;have hcls:Cls E Z S.hp w:=⟨hs.hp,hs.fr⟩;have hsplit:(bif dstQ E.nt [] io.d then splitQ J nv E.nt KP io (λS'=>opsQ J nv E.nt KP is' S' K) 9 (g::A) S else none)=some r->StepOK E.P ops Q (wpList E.P ops Q rest) o a w:=λhr=>by
      cases hdd:dstQ E.nt [] io.d with
      | false=>rw[hdd] at hr;simp at hr
      | true =>
       rw[hdd] at hr;exact splitQ_sound hJ hd hpr ih (λp w'=>hQP p a w' hs.nd) 9 _ S hs hg hr
     have hmerge:∀(q:Bool) (ps:List Prop) (v:SV),(Hold a (g::A)->AllP ps->v.lt S.hp.length/\o.wp E.P a w (λa' w'=>a'=a.put o.dst (v.den Z)/\Cls E Z S.hp w') Q)->(bif dstQ E.nt (g::A) io.d then(match eqsQ S (g::A) with
       | some es=>gds (impL es ps) (opsQ J nv E.nt KP is' (putQ nv S io.d (g::A) v S.hp) K)
       | none=>none) else none)=some r->StepOK E.P ops Q (wpList E.P ops Q rest) o a w:=λq ps v hdo hr=>by
      cases hdd:dstQ E.nt (g::A) io.d with
      | false=>rw[hdd] at hr;simp at hr
      | true =>
       rw[hdd] at hr;simp only[cnT] at hr;split at hr
       ·rename_i es hes;obtain⟨hps,hk⟩:=qA7.1 hr;unfold StepOK;by_cases hA:Hold a (g::A)
        ·rw[if_pos (hg.2 hA)];obtain⟨hlt,hwp⟩:=hdo hA (impL_use (eqs_spec hs hes hA) hps);refine .inl (Oper.wp_mono ?_ hwp);rintro a' w' ⟨rfl,hc⟩
         rw[<-hd];exact ih _ Z _ w' (hs.next (nv:=nv) hdd (λ_ _=>rfl) (Nat.le_refl _) hc (λ_=>rfl) (λhn=>(hn hA).elim) (λ_=>hlt)) hk
        ·rw[if_neg λhh=>hA (hg.1 hh),<-hd];exact ih _ Z _ w (hs.next (nv:=nv) hdd (λ_ _=>rfl) (Nat.le_refl _) hcls (λhh=>(hA hh).elim) (λ_=>rfl) (λhh=>(hA hh).elim)) hk
       ·cases hr
     cases hq:primQ S (g::A) io.p with
     | no=>rw[hq] at hr;exact hsplit hr
     | ok ps v hp'=>rw[hq] at hr;exact hsplit hr
     | still ps v =>
      rw[hq] at hr hrel;refine hmerge true ps v (λhA hps=>?_) hr;have hok:=ok_use hs hJ hpr hA;cases hro:runP (oldG J) (qDq S a) (Hold a (g::A)) io.p <;> rw[hro] at hrel hok <;> simp only[RelR] at hrel
      obtain⟨rfl,hpp⟩:=hrel;obtain⟨hlt,hqq⟩:=hok (hpp λ_=>hps);refine⟨hlt,?_⟩;unfold Oper.wp;rw[hqq w hcls w,Oper.upon_value];exact⟨rfl,hcls⟩
     | quiet ps v =>
      rw[hq] at hr hrel;refine hmerge true ps v (λhA hps=>?_) hr;have hok:=ok_use hs hJ hpr hA;cases hro:runP (oldG J) (qDq S a) (Hold a (g::A)) io.p <;> rw[hro] at hrel hok <;> simp only[RelR] at hrel
      obtain⟨rfl,hpp⟩:=hrel;obtain⟨hlt,hqq⟩:=hok (hpp λ_=>hps);refine⟨hlt,?_⟩;refine Oper.wp_of_quiet (C:=Cls E Z S.hp) (K:=λa'=>a'=_) hcls ?_ ⟨_,hqq,rfl⟩;rintro a' w' hc rfl
      exact⟨rfl,hc⟩
  ·cases h
end
def denG(So:St)(G:GL):Prop:=∀g∈G,∃c x,getE So.sl g.1=some (c,.c (.o (.val (.bool x))))/\c/\x=g.2
structure RelD (So:St) (S:QS):Prop where
 hp:So.hp=S.hp
 kn:S.kn=[]
 sl:∀i G v,(i,G,v)∈S.sl->∃c,getE So.sl i=some (c,v)/\(c↔denG So G)
theorem denG.cons{So:St}{g:Nat × Bool}{G:GL}:denG So (g::G)↔(∃c x,getE So.sl g.1=some (c,.c (.o (.val (.bool x))))/\c/\x=g.2)/\denG So G:=by
 constructor
 ·exact λh=>⟨h g (List.mem_cons.2 (.inl rfl)),λx hx=>h x (List.mem_cons.2 (.inr hx))⟩
 ·rintro ⟨h1,h2⟩ x hx
  rcases List.mem_cons.1 hx with rfl | hx
  ·exact h1
  ·exact h2 x hx
theorem denG.nil(So:St):denG So []:=λg hg=>by simp at hg
theorem subG_den{So:St}{A:GL}(hA:denG So A):∀ {G:GL},subG A [] G=true->denG So G
 | [],_=>denG.nil So
 | g::r,h=>by
  simp only[subG] at h;cases h1:memG g A with
  | true =>
   rw[h1] at h;exact denG.cons.2 ⟨hA g (qEk h1),subG_den hA h⟩
  | false=>rw[h1] at h;simp[memG] at h
theorem RelD.read{So:St}{S:QS}(h:RelD So S):Read So S (denG So):=by
 have key:∀ {act:Prop} {A:GL} {x:Arg} {v:SV},(act->denG So A)->argQ S A x=some v->∃p,argE So act x=some (p,v)/\p:=λ{act A x v} hact hx=>by
  cases x with
  | v x =>
   simp only[argQ,snJ] at hx;subst hx;exact⟨True,rfl,tV⟩
  | t i =>
   simp only[argQ] at hx;split at hx
   ·rename_i G u hg;obtain⟨c,h1,h2⟩:=h.sl i G u (qDv hg);rw[h.kn] at hx;cases hs:subG A [] G with
    | false=>rw[hs] at hx;simp at hx
    | true =>
     rw[hs] at hx;simp only[cnT,snJ] at hx;subst hx;exact⟨act->c,by simp only[argE,h1],λha=>h2.2 (subG_den (hact ha) hs)⟩
   ·cases hx
 refine⟨h.hp,key,λ{A j cb b} hc hA hb=>?_,λ{A j cb b} hm hc=>by rw[h.kn] at hm;simp[memG] at hm⟩;simp only[argQ] at hc;split at hc
 ·rename_i G u hg;obtain⟨c,h1,h2⟩:=h.sl j G u (qDv hg);rw[h.kn] at hc;cases hs:subG A [] G with
  | false=>rw[hs] at hc;simp at hc
  | true =>
   rw[hs] at hc;simp only[cnT,snJ] at hc;subst hc;exact denG.cons.2 ⟨⟨c,cb,h1,h2.2 (subG_den hA hs),hb⟩,hA⟩
 ·cases hc
theorem denG_put{So:St}{nv d:Nat}{act:Prop}{v:SV}{hp:List SB}{G:GL}(hd:ment d G=false):denG (putD nv So (some d) act v hp) G↔denG So G:=by
 have hm:=ment_iff hd;constructor
 ·intro hh g hg;obtain⟨c,x,h1,h2⟩:=hh g hg;simp only[putD,getE_putE,if_neg (Ne.symm (hm g hg))] at h1;exact⟨c,x,h1,h2⟩
 ·intro hh g hg;obtain⟨c,x,h1,h2⟩:=hh g hg;refine⟨c,x,?_,h2⟩;simp only[putD,getE_putE,if_neg (Ne.symm (hm g hg))];exact h1
theorem RelD.put{So:St}{S:QS}(h:RelD So S){nt nv:Nat}{d:Option Nat}{A:GL}{act:Prop}(ha:act↔denG So A)(hd:dstQ nt A d=true)(v:SV)(hp:List SB):RelD (putD nv So d act v hp) (putQ nv S d A v hp):=by
 cases d with
 | none=>exact⟨rfl,h.kn,λi G u hx=>h.sl i G u hx⟩
 | some d =>
  obtain⟨_,hd2⟩:=dstQ_lt hd;refine⟨rfl,?_,λi G u hx=>?_⟩
  ·show delK d S.kn=[];rw[h.kn];rfl
  ·rcases putL_mem hx with he | ⟨hx,hne⟩
   ·cases he;refine⟨act,by simp only[putD,getE_putE,if_true],?_⟩;rw[denG_put hd2];exact ha
   ·obtain⟨h1,h2⟩:=dropG_mem hx;obtain⟨c,h3,h4⟩:=h.sl i G u h1;refine⟨c,by simp only[putD,getE_putE,if_neg (Ne.symm hne)];exact h3,?_⟩;rw[denG_put h2];exact h4
theorem eqs_den{So:St}{S:QS}(h:RelD So S):∀ {A:GL} {es:List (Bool × Bool)},eqsQ S A=some es->denG So A->∀e∈es,e.1=e.2
 | [],es,he,_,e,hm=>by
  simp only[eqsQ,snJ] at he;subst he;simp at hm
 | (s,b)::r,es,he,hA,e,hm=>by
  simp only[eqsQ] at he;split at he
  ·rename_i G x l h1 h2;simp only[snJ] at he;subst he;obtain⟨hA1,hA2⟩:=denG.cons.1 hA;rcases List.mem_cons.1 hm with rfl | hm
   ·obtain⟨c,y,h3,_,h4⟩:=hA1;obtain⟨c',h5,_⟩:=h.sl s G _ (qDv h1);rw[h5] at h3;simp only[snJ,Prod.mk.injEq,SV.c.injEq,SC.o.injEq,S0.val.injEq,Value.bool.injEq] at h3;rw[h3.2];exact h4
   ·exact eqs_den h h2 hA2 e hm
  ·cases he
theorem unkn_nil:∀(G:GL),unkn [] G=some G
 | []=>rfl
 | g::r=>by simp only[unkn,memG,cnF,unkn_nil r]
theorem guard_den{So:St}{S:QS}(h:RelD So S){g:Option (Nat × Bool)}{A:GL}(hg:qDt S g=.on A):∃act,actOf So g=some act/\(act↔denG So A):=by
 cases g with
 | none =>
  simp only[qDt,GQ.on.injEq] at hg;subst hg;exact⟨True,rfl,⟨λ_=>denG.nil So,λ_=>trivial⟩⟩
 | some sb =>
  obtain⟨s,b⟩:=sb;simp only[qDt] at hg;split at hg
  ·rename_i G x hgs;rw[h.kn,unkn_nil] at hg;simp only[GQ.on.injEq] at hg;subst hg;obtain⟨c,h1,h2⟩:=h.sl s G _ (qDv hgs);refine⟨c/\x=b,by simp only[actOf,h1],?_⟩;rw[denG.cons];constructor
   ·exact λhh=>⟨⟨c,x,h1,hh.1,hh.2⟩,h2.1 hh.1⟩
   ·rintro ⟨⟨c',x',h3,h4,h5⟩,h6⟩
    rw[h1] at h3;simp only[snJ,Prod.mk.injEq,SV.c.injEq,SC.o.injEq,S0.val.injEq,Value.bool.injEq] at h3;exact⟨h2.2 h6,by rw[h3.2];exact h5⟩
  ·cases hg
theorem eqG_iff:∀ {A B:GL},eqG A B=true->A=B
 | [],[],_=>rfl
 | [],_::_,h=>by cases h
 | _::_,[],h=>by cases h
 | (s,b)::r,(t,c)::q,h=>by
  simp only[eqG,Bool.and_eq_true,beq_iff_eq] at h;obtain⟨⟨h1,h2⟩,h3⟩:=h;rw[Nat.eq_of_beq_eq_true h1,h2,eqG_iff h3]
def InvM(So:St)(M:List (GL × Bool)):Prop:=∀m∈M,(m.2=true->denG So m.1)/\(m.2=false->¬denG So m.1)
theorem knM_den{So:St}{M:List (GL × Bool)}(h:InvM So M){A:GL}{b:Bool}(hk:knM M A=some b):(b=true->denG So A)/\(b=false->¬denG So A):=by
 cases A with
 | nil =>
  cases hk;exact⟨λ_=>denG.nil So,λh=>by cases h⟩
 | cons g A =>
  simp only[knM,Option.map_eq_some_iff] at hk;obtain⟨m,h1,rfl⟩:=hk;have h2:=List.find?_some h1;have h3:=eqG_iff h2;rw[<-h3];exact h m (List.mem_of_find?_eq_some h1)
theorem InvM.put{So:St}{M:List (GL × Bool)}(h:InvM So M){nv:Nat}{d:Option Nat}{act:Prop}{v:SV}{hp:List SB}(hf:freeM M d=true):InvM (putD nv So d act v hp) M:=by
 cases d with
 | none=>exact h
 | some d =>
  intro m hm;simp only[freeM,List.all_eq_true] at hf;have:=hf m hm;rw[denG_put (by simpa using this)];exact h m hm
theorem InvM.add{So:St}{M:List (GL × Bool)}(h:InvM So M){nt nv:Nat}{d:Option Nat}{act:Prop}{v:SV}{hp:List SB}(hf:freeM M d=true){A:GL}(hd:dstQ nt A d=true){b:Bool}(hb:(b=true->denG So A)/\(b=false->¬denG So A)):InvM (putD nv So d act v hp) ((A,b)::M):=by
 intro m hm;rcases List.mem_cons.1 hm with rfl | hm
 ·cases d with
  | none=>exact hb
  | some d =>
   rw[denG_put (dstQ_lt hd).2];exact hb
 ·exact(h.put hf) m hm
theorem eqsC_den{So:St}{S:QS}(h:RelD So S):∀ {A:GL} {e:Bool},eqsC S A=some e->(denG So A↔e=true)
 | [],e,he=>by
  cases he;exact⟨λ_=>rfl,λ_=>denG.nil So⟩
 | (s,b)::r,e,he=>by
  simp only[eqsC] at he;split at he
  ·rename_i G x hg;cases hs:subG r [] G with
   | false=>rw[hs] at he;simp at he
   | true =>
    rw[hs] at he;simp only[cnT] at he;obtain⟨c,h1,h2⟩:=h.sl s G _ (qDv hg);have key:denG So ((s,b)::r)↔(x=b/\denG So r):=by
     rw[denG.cons];constructor
     ·rintro ⟨⟨c',x',h3,h4,h5⟩,h6⟩
      rw[h1] at h3;simp only[snJ,Prod.mk.injEq,SV.c.injEq,SC.o.injEq,S0.val.injEq,Value.bool.injEq] at h3;exact⟨by rw[h3.2];exact h5,h6⟩
     ·rintro ⟨h3,h4⟩
      exact⟨⟨c,x,h1,h2.2 (subG_den h4 hs),h3⟩,h4⟩
    have lit:litB b x=true↔x=b:=by cases b <;> cases x <;> simp[litB]
    cases r with
    | nil =>
     simp only[snJ] at he;subst he;rw[key,lit];exact⟨λh=>h.1,λh=>⟨h,denG.nil So⟩⟩
    | cons g r =>
     simp only[Option.map_eq_some_iff] at he;obtain⟨e',he',rfl⟩:=he;rw[key,Bool.and_eq_true,lit,eqsC_den h he']
  ·cases he
theorem step_rel{R:Type}{P:Program}{J:Nat->Option CQ}(hJ:∀f C,J f=some C->qAg P f C){nv nt:Nat}{hp0:List SB}{r:R}{rec:QS->Option R}{Ko:St->Prop}{o:IOp}{So:St}{S:QS}(h:RelD So S){A:GL}{act:Prop}(ha:actOf So o.g=some act)(hact:act↔denG So A)
  (hdd:dstQ nt A o.d=true) {es:List (Bool × Bool)} (hes:eqsQ S A=some es) {on:Bool} (hon:on=true->act)
  (hrec:∀(v:SV) (hp:List SB),RelD (putD nv So o.d act v hp) (putQ nv S o.d A v hp)->rec (putQ nv S o.d A v hp)=some r->Ko (putD nv So o.d act v hp))
  (hr:drawS J nv hp0 o A es on S rec=some r):qAz (oldG J) nv nt hp0 [o] So Ko:=by
 have go:∀(v:SV) (hp:List SB),rec (putQ nv S o.d A v hp)=some r->Ko (putD nv So o.d act v hp):=λv hp=>hrec v hp (h.put hact hdd v hp)
 have hdo:qD8 nt o.d:=by
  cases hd:o.d with
  | none=>trivial
  | some d=>rw[hd] at hdd;exact(dstQ_lt hdd).1
 have hrd:=h.read;have rel:=λpr=>prim_rel (A:=A) hrd (oldG J) pr
 have hactD:act=denG So A:=propext hact;have himp:∀ {ps:List Prop},AllP (impL es ps)->act->AllP ps:=λhps hac=>impL_use (eqs_den h hes (hact.1 hac)) hps
 unfold qAz;simp only[ha];refine .inr ?_;unfold drawS at hr;cases hop:o.p with
 | load n x =>
  rw[hop] at hr;simp only at hr ⊢;split at hr
  ·rename_i s hs;obtain⟨p,h1,h2⟩:=hrd.arg (act:=act) hact.1 hs;have hl:=load_rel hp0 n s;cases hq:loadQ hp0 n s <;> rw[hq] at hr <;> simp only[reduceCtorEq] at hr
   rename_i ps v;rw[hq] at hl;cases hb:s.ltB hp0.length with
   | false=>rw[hb] at hr;simp at hr
   | true =>
    rw[hb] at hr;simp only[cnT] at hr;obtain⟨hps,hk⟩:=qA7.1 hr;cases hro:loadR hp0 n s <;> rw[hro] at hl <;> simp only[RelS] at hl
    obtain⟨rfl,hpp⟩:=hl;simp only[h1,hro,owe];refine⟨hdo,hb,⟨h2,λhac=>hpp (himp hps hac)⟩,?_⟩;rw[h.hp];exact go _ _ hk
  ·cases hr
 | call f xs =>
  rw[hop] at hr;simp only at hr ⊢;split at hr
  ·rename_i l C hl hC;obtain⟨p,h1,h2⟩:=qDu (act:=act) hrd (A:=A) hact.1 hl;obtain⟨v,hv1,hv2⟩:=(hJ f _ hC).1 _ _ _ _ _ hr;have hrun:runP (oldG J) So act (.call f xs)=.quiet (p/\(act->True)) v:=by
    simp only[runP,oldG,hC,Option.map_some,h1,h.hp,oldC,hv1]
   rw[hrun];simp only;refine⟨hdo,⟨h2,λ_=>trivial⟩,?_⟩;rw[h.hp];exact go _ _ hv2
  ·rename_i l C hl hC;cases on with
   | false=>cases hr
   | true =>
    simp only[cnT] at hr;obtain⟨p,h1,h2⟩:=qDu (act:=act) hrd (A:=A) hact.1 hl;obtain⟨v,hp',hv1,hv2⟩:=(hJ f _ hC).1 _ _ _ _ _ hr;obtain⟨hpre,hv2⟩:=gd_some.1 hv2;have hrun:runP (oldG J) So act (.call f xs)=.ok (p/\(act->True)) v hp':=by
     simp only[runP,oldG,hC,Option.map_some,h1,h.hp,oldC,hv1]
    rw[hrun];simp only;refine⟨⟨hp'.drop S.hp.length,?_⟩,hdo,hon rfl,⟨h2,λ_=>trivial⟩,go _ _ hv2⟩;rw[h.hp];conv=>lhs;rw[<-List.take_append_drop S.hp.length hp',hpre]
  ·cases hr
 | callW fs x xs =>
  rw[hop] at hr;simp only at hr ⊢;split at hr
  ·rename_i f l1 l2 l hcl hl;obtain⟨p,h1,h2⟩:=qDu (act:=act) hrd (A:=A) hact.1 hl;obtain⟨s,hs,hcl2⟩:∃s,argQ S A x=some (.c (.o s))/\cloL S.hp s=some (f,l1,l2):=by
    unfold cloW at hcl;split at hcl
    ·rename_i s hs;exact⟨s,hs,hcl⟩
    ·cases hcl
   obtain⟨px,x1,x2⟩:=hrd.arg (act:=act) hact.1 hs;cases hfs:fs.contains f with
   | false=>rw[hfs] at hr;cases hr
   | true =>
   rw[hfs] at hr;simp only[cnT] at hr;split at hr
   ·rename_i C hC;obtain⟨v,hv1,hv2⟩:=(hJ f _ hC).1 _ _ _ _ _ hr;have hrun:runP (oldG J) So act (.callW fs x xs)=.quiet ((px/\p)/\(act->True)) v:=by
     simp only[runP,x1,h1,h.hp,hcl2,hfs,cnT,oldG,hC,Option.map_some,oldC,hv1]
    rw[hrun];simp only;refine⟨hdo,⟨⟨x2,h2⟩,λ_=>trivial⟩,?_⟩;rw[h.hp];exact go _ _ hv2
   ·rename_i C hC;cases on with
    | false=>cases hr
    | true =>
     simp only[cnT] at hr;obtain⟨v,hp',hv1,hv2⟩:=(hJ f _ hC).1 _ _ _ _ _ hr;obtain⟨hpre,hv2⟩:=gd_some.1 hv2;have hrun:runP (oldG J) So act (.callW fs x xs)=.ok ((px/\p)/\(act->True)) v hp':=by
      simp only[runP,x1,h1,h.hp,hcl2,hfs,cnT,oldG,hC,Option.map_some,oldC,hv1]
     rw[hrun];simp only;refine⟨⟨hp'.drop S.hp.length,?_⟩,hdo,hon rfl,⟨⟨x2,h2⟩,λ_=>trivial⟩,go _ _ hv2⟩;rw[h.hp];conv=>lhs;rw[<-List.take_append_drop S.hp.length hp',hpre]
   ·cases hr
  ·cases hr
 | callL f xs =>
  rw[hop] at hr;simp only at hr ⊢;split at hr
  ·rename_i l C hl hC;cases on with
   | false=>cases hr
   | true =>
    simp only[cnT] at hr;obtain⟨p,h1,h2⟩:=qDu (act:=act) hrd (A:=A) hact.1 hl;obtain⟨v,hp',hv1,hv2⟩:=(hJ f _ hC).1 _ _ _ _ _ hr;have hrun:runP (oldG J) So act (.callL f xs)=.ok (p/\(act->True)) v hp':=by
     simp only[runP,oldG,hC,Option.map_some,h1,h.hp,oldC,hv1]
    rw[hrun];simp only[qAp,cnF];exact⟨hdo,hon rfl,⟨h2,λ_=>trivial⟩,go _ _ hv2⟩
  ·cases hr
 | ext x xs =>
  cases x with
  | mget =>
   rw[hop] at hr;simp only at hr ⊢;split at hr
   ·rename_i s0 t0 hl;obtain⟨p,h1,h2⟩:=qDu (act:=act) hrd (A:=A) hact.1 hl;split at hr
    ·rename_i ps m hm;cases hb:s0.ltB hp0.length with
     | false=>rw[hb] at hr;simp at hr
     | true =>
      rw[hb] at hr;simp only[cnT] at hr;obtain⟨hps,hk⟩:=qA7.1 hr;simp only[h1,hm];refine⟨hdo,hb,⟨h2,λhac=>himp hps hac⟩,?_⟩;rw[h.hp];exact go _ _ hk
    ·cases hr
   ·cases hr
  | _ =>
    rw[hop] at hr;simp only at hr ⊢;have hl:=rel o.p;rw[hop] at hl;generalize hq:primQ S A _=q at hr hl
    cases q <;> simp only[reduceCtorEq] at hr
    ·rename_i ps v;obtain⟨hps,hk⟩:=qA7.1 hr;rw[hactD] at go himp ⊢;generalize hro:runP (oldG J) So _ _=ro at hl
     cases ro <;> simp only[RelR] at hl
     obtain⟨rfl,hpp⟩:=hl;refine⟨hdo,hpp λhac=>himp hps hac,?_⟩;rw[h.hp];exact go _ _ hk
    ·rename_i ps v hp';cases on with
     | false=>cases hr
     | true =>
      simp only[cnT] at hr;rw[hactD] at go himp hon ⊢;generalize hst:qAp _=st at hr
      cases st with
      | true=>simp at hr
      | false =>
       simp only[cnF] at hr;obtain⟨hps,hk⟩:=qA7.1 hr;generalize hro:runP (oldG J) So _ _=ro at hl
       cases ro <;> simp only[RelR] at hl
       obtain⟨rfl,rfl,hpp⟩:=hl;simp only[cnF];exact⟨hdo,hon rfl,hpp λhac=>himp hps hac,go _ _ hk⟩
 | _ =>
  rw[hop] at hr;simp only at hr ⊢;have hl:=rel o.p;rw[hop] at hl;generalize hq:primQ S A _=q at hr hl
  cases q <;> simp only[reduceCtorEq] at hr
  ·rename_i ps v;obtain⟨hps,hk⟩:=qA7.1 hr;rw[hactD] at go himp ⊢;generalize hro:runP (oldG J) So _ _=ro at hl
   cases ro <;> simp only[RelR] at hl
   obtain⟨rfl,hpp⟩:=hl;refine⟨hdo,hpp λhac=>himp hps hac,?_⟩;rw[h.hp];exact go _ _ hk
  ·rename_i ps v hp';cases on with
   | false=>cases hr
   | true =>
    simp only[cnT] at hr;rw[hactD] at go himp hon ⊢;generalize hst:qAp _=st at hr
    cases st with
    | true=>simp at hr
    | false =>
     simp only[cnF] at hr;obtain⟨hps,hk⟩:=qA7.1 hr;generalize hro:runP (oldG J) So _ _=ro at hl
     cases ro <;> simp only[RelR] at hl
     obtain⟨rfl,rfl,hpp⟩:=hl;simp only[cnF];exact⟨hdo,hon rfl,hpp λhac=>himp hps hac,go _ _ hk⟩
theorem runDraw_one{J:Nat->Option Con}{nv nt:Nat}{hp0:List SB}{o:IOp}{is:List IOp}{S:St}{K:St->Prop}:qAz J nv nt hp0 (o::is) S K=qAz J nv nt hp0 [o] S λS'=>qAz J nv nt hp0 is S' K:=rfl
theorem draw_rel{R:Type}{P:Program}{J:Nat->Option CQ}(hJ:∀f C,J f=some C->qAg P f C){nv nt:Nat}{hp0:List SB}{r:R}{K:QS->Option R}:∀(is:List IOp) (M:List (GL × Bool)) (So:St) (S:QS),InvM So M->RelD So S->drawQ J nv nt hp0 is M S K=some r ->
  qAz (oldG J) nv nt hp0 is So λSo'=>∃S',RelD So' S'/\K S'=some r
 | [],M,So,S,hM,h,hr=>⟨S,h,hr⟩
 | o::rest,M,So,S,hM,h,hr=>by
  simp only[drawQ] at hr;cases hgq:qDt S o.g with
  | bad=>rw[hgq] at hr;cases hr
  | pass=>rw[hgq] at hr;cases hr
  | on A =>
   rw[hgq] at hr;simp only at hr;obtain⟨act,ha,hact⟩:=guard_den h hgq;cases hdf:(dstQ nt A o.d && freeM M o.d) with
   | false=>rw[hdf] at hr;simp at hr
   | true =>
    rw[hdf] at hr;simp only[cnT] at hr;rw[Bool.and_eq_true] at hdf;obtain⟨hdd,hf⟩:=hdf;have hdo:qD8 nt o.d:=by
     cases hd:o.d with
     | none=>trivial
     | some d=>rw[hd] at hdd;exact(dstQ_lt hdd).1
    have off:∀(M':List (GL × Bool)),(∀v hp,InvM (putD nv So o.d act v hp) M')->¬act->drawQ J nv nt hp0 rest M' (putQ nv S o.d A dmyV S.hp) K=some r->qAz (oldG J) nv nt hp0 (o::rest) So λSo'=>∃S',RelD So' S'/\K S'=some r:=λM' hM' hna hk=>by
     unfold qAz;simp only[ha];refine .inl ⟨hna,hdo,?_⟩;rw[h.hp];exact draw_rel hJ rest M' _ _ (hM' _ _) (h.put hact hdd dmyV S.hp) hk
    rw[runDraw_one];split at hr
    ·rename_i es hes;cases hk:knM M A with
     | some b =>
      rw[hk] at hr;have hb:=knM_den hM hk;cases b with
      | true=>exact step_rel hJ h ha hact hdd hes (λ_=>hact.2 (hb.1 rfl)) (λv hp hR hk'=>draw_rel hJ rest M _ _ (hM.put hf) hR hk') hr
      | false=>exact off M (λv hp=>hM.put hf) (λhac=>hb.2 rfl (hact.1 hac)) hr
     | none =>
      rw[hk] at hr;simp only at hr;cases hlo:loudB J S A o.p with
      | false =>
       rw[hlo] at hr;simp only[cnF] at hr;exact step_rel hJ h ha hact hdd hes (λ(h:false=true)=>by cases h) (λv hp hR hk'=>draw_rel hJ rest M _ _ (hM.put hf) hR hk') hr
      | true =>
       rw[hlo] at hr;simp only[cnT] at hr;split at hr
       ·rename_i e he;have hden:=eqsC_den h he;cases e with
        | true =>
         simp only[cnT] at hr;have hA:=hden.2 rfl;exact step_rel hJ h ha hact hdd hes (λ_=>hact.2 hA) (λv hp hR hk'=>draw_rel hJ rest ((A,true)::M) _ _ (hM.add hf hdd ⟨λ_=>hA,λ(h:true=false)=>by cases h⟩) hR hk') hr
        | false =>
         simp only[cnF] at hr;have hA:¬denG So A:=λhh=>by cases hden.1 hh
         exact off ((A,false)::M) (λv hp=>hM.add hf hdd ⟨λ(h:false=true)=>(by cases h),λ_=>hA⟩) (λhac=>hA (hact.1 hac)) hr
       ·cases hr
    ·cases hr
theorem qEy{M:List (GL × Bool)}{d:Option Nat}:freeM (keepM M d) d=true:=by
 unfold keepM;cases h:freeM M d with
 | true=>exact h
 | false=>cases d <;> rfl
theorem InvM.keep{So:St}{M:List (GL × Bool)}(h:InvM So M)(d:Option Nat):InvM So (keepM M d):=by
 unfold keepM;cases freeM M d with
 | true=>exact h
 | false=>exact λm hm=>by cases hm
theorem drawM_rel{R:Type}{P:Program}{J:Nat->Option CQ}(hJ:∀f C,J f=some C->qAg P f C){nv nt:Nat}{hp0:List SB}{r:R}{o:IOp}{M:List (GL × Bool)}{So:St}{S:QS}{K:List (GL × Bool)->QS->Option R}(hM0:InvM So M)(h:RelD So S)(hr:drawM J nv nt hp0 o M S K=some r) :
  qAz (oldG J) nv nt hp0 [o] So λSo'=>∃M' S',InvM So' M'/\RelD So' S'/\K M' S'=some r:=by
 have hM:=hM0.keep o.d;have hf:=qEy (M:=M) (d:=o.d);unfold drawM at hr;generalize keepM M o.d=N at hM hf hr
 cases hgq:qDt S o.g with
 | bad=>rw[hgq] at hr;cases hr
 | pass=>rw[hgq] at hr;cases hr
 | on A =>
  rw[hgq] at hr;simp only at hr;obtain⟨act,ha,hact⟩:=guard_den h hgq;cases hdd:dstQ nt A o.d with
  | false=>rw[hdd] at hr;simp at hr
  | true =>
   rw[hdd] at hr;simp only[cnT] at hr;have hdo:qD8 nt o.d:=by
    cases hd:o.d with
    | none=>trivial
    | some d=>rw[hd] at hdd;exact(dstQ_lt hdd).1
   have off:∀(M':List (GL × Bool)),(∀v hp,InvM (putD nv So o.d act v hp) M')->¬act->K M' (putQ nv S o.d A dmyV S.hp)=some r->qAz (oldG J) nv nt hp0 [o] So λSo'=>∃M' S',InvM So' M'/\RelD So' S'/\K M' S'=some r:=λM' hM' hna hk=>by
    unfold qAz;simp only[ha];refine .inl ⟨hna,hdo,?_⟩;rw[h.hp];exact⟨M',_,hM' _ _,h.put hact hdd dmyV S.hp,hk⟩
   split at hr
   ·rename_i es hes;cases hk:knM N A with
    | some b =>
     rw[hk] at hr;have hb:=knM_den hM hk;cases b with
     | true=>exact step_rel hJ h ha hact hdd hes (λ_=>hact.2 (hb.1 rfl)) (λv hp hR hk'=>⟨N,_,hM.put hf,hR,hk'⟩) hr
     | false=>exact off N (λv hp=>hM.put hf) (λhac=>hb.2 rfl (hact.1 hac)) hr
    | none =>
     rw[hk] at hr;simp only at hr;cases hlo:loudB J S A o.p with
     | false =>
      rw[hlo] at hr;simp only[cnF] at hr;exact step_rel hJ h ha hact hdd hes (λ(h:false=true)=>by cases h) (λv hp hR hk'=>⟨N,_,hM.put hf,hR,hk'⟩) hr
     | true =>
      rw[hlo] at hr;simp only[cnT] at hr;split at hr
      ·rename_i e he;have hden:=eqsC_den h he;cases e with
       | true =>
        simp only[cnT] at hr;have hA:=hden.2 rfl;exact step_rel hJ h ha hact hdd hes (λ_=>hact.2 hA) (λv hp hR hk'=>⟨(A,true)::N,_,hM.add hf hdd ⟨λ_=>hA,λ(h:true=false)=>by cases h⟩,hR,hk'⟩) hr
       | false =>
        simp only[cnF] at hr;have hA:¬denG So A:=λhh=>by cases hden.1 hh
        exact off ((A,false)::N) (λv hp=>hM.add hf hdd ⟨λ(h:false=true)=>(by cases h),λ_=>hA⟩) (λhac=>hA (hact.1 hac)) hr
      ·cases hr
   ·cases hr
theorem qA9{J:Nat->Option Con}{nv nt:Nat}{hp0:List SB}{K K':St->Prop}(hK:∀S,K S->K' S):∀ {is:List IOp} {S:St},qAz J nv nt hp0 is S K->qAz J nv nt hp0 is S K'
 | [],S,h=>hK S h
 | o::r,S,h=>by
  unfold qAz at h ⊢;split at h
  ·rcases h with h | h
   ·exact .inl ⟨h.1,h.2.1,qA9 hK h.2.2⟩
   ·refine .inr ?_;split at h
    ·split at h
     ·split at h
      ·exact⟨h.1,h.2.1,h.2.2.1,qA9 hK h.2.2.2⟩
      ·exact h.elim
     ·exact h.elim
    ·split at h
     ·exact⟨h.1,h.2.1,qA9 hK h.2.2⟩
     ·exact⟨h.1,h.2.1,h.2.2.1,h.2.2.2.1,qA9 hK h.2.2.2.2⟩
     ·exact h.elim
    ·split at h
     ·exact⟨h.1,h.2.1,qA9 hK h.2.2⟩
     ·exact⟨h.1,h.2.1,h.2.2.1,h.2.2.2.1,qA9 hK h.2.2.2.2⟩
     ·exact h.elim
    ·split at h
     ·split at h
      ·exact⟨h.1,h.2.1,h.2.2.1,qA9 hK h.2.2.2⟩
      ·exact h.elim
     ·exact h.elim
    ·split at h
     ·exact⟨h.1,h.2.1,qA9 hK h.2.2⟩
     ·generalize qAp _=st at h ⊢
      cases st with
      | true=>exact h.elim
      | false=>exact⟨h.1,h.2.1,h.2.2.1,qA9 hK h.2.2.2⟩
     ·exact h.elim
  ·exact h.elim
theorem alt_rel{R:Type}{P:Program}{J:Nat->Option CQ}{nv nt:Nat}{r:R}{K:QS->Option R}{o:IOp}{So:St}{S:QS}{Kp:St->Prop}{M:List (GL × Bool)}(hM:InvM So M)(h:RelD So S)(hr:altQ J nv nt o (keepM M o.d) S K=some r)
  (hK:∀So' S',InvM So' (keepM M o.d)->RelD So' S'->K S'=some r->Kp So'):altP (oldG J) nv nt o So Kp:=by
 unfold altQ at hr;unfold altP;cases hgq:qDt S o.g with
 | bad=>rw[hgq] at hr;cases hr
 | pass=>rw[hgq] at hr;cases hr
 | on A =>
  rw[hgq] at hr;simp only at hr;obtain⟨act,ha,hact⟩:=guard_den h hgq;cases hdd:dstQ nt A o.d with
  | false=>rw[hdd] at hr;simp at hr
  | true =>
   rw[hdd] at hr;simp only[cnT] at hr;have hdo:qD8 nt o.d:=by
    cases hd:o.d with
    | none=>trivial
    | some d=>rw[hd] at hdd;exact(dstQ_lt hdd).1
   have hN:=hM.keep o.d;have hf:=qEy (M:=M) (d:=o.d);have hput:=λv hp=>h.put (act:=act) (A:=A) (nv:=nv) hact hdd v hp
   simp only[ha];split at hr
   ·rename_i hkn;have hna:=(knM_den hN hkn).2 rfl;refine .inl ⟨λhac=>hna (hact.1 hac),hdo,?_⟩;rw[h.hp];exact hK _ _ (hN.put hf) (hput dmyV _) hr
   refine .inr ?_;split at hr
   ·rename_i es hes;have hactD:act=denG So A:=propext hact;have himp:∀ {ps:List Prop},AllP (impL es ps)->act->AllP ps:=λhps hac=>impL_use (eqs_den h hes (hact.1 hac)) hps
    have hl:=prim_rel (A:=A) h.read (oldG J) o.p;rw[<-hactD] at hl;generalize hq:primQ S A o.p=q at hr hl
    generalize hro:runP (oldG J) So act o.p=ro at hl
    cases q <;> simp only[reduceCtorEq] at hr
    ·obtain⟨hps,hk⟩:=qA7.1 hr;cases ro <;> simp only[RelR] at hl
     obtain⟨rfl,hpp⟩:=hl;refine⟨hdo,hpp λhac=>himp hps hac,?_⟩;rw[h.hp];exact hK _ _ ((hM.keep o.d).put qEy) (hput _ _) hk
    ·obtain⟨hps,hk⟩:=qA7.1 hr;cases ro <;> simp only[RelR] at hl
     obtain⟨rfl,hpp⟩:=hl;refine⟨hdo,hpp λhac=>himp hps hac,?_⟩;rw[h.hp];exact hK _ _ ((hM.keep o.d).put qEy) (hput _ _) hk
    ·split at hr
     ·cases hst:qAp o.p with
      | true=>rw[hst] at hr;simp at hr
      | false =>
       rw[hst] at hr;simp only[cnF] at hr;obtain⟨hps,hk⟩:=qA7.1 hr;cases ro <;> simp only[RelR] at hl
       obtain⟨rfl,rfl,hpp⟩:=hl;simp only[cnF];exact⟨hdo,hact.2 (denG.nil So),hpp λ_=>hps,hK _ _ ((hM.keep o.d).put qEy) (hput _ _) hk⟩
     ·cases hr
   ·cases hr
theorem qB9{R:Type}{P:Program}{J:Nat->Option CQ}(hJ:∀f C,J f=some C->qAg P f C){nv nt:Nat}{hp0:List SB}{r:R}{K:QS->Option R}:∀(t:DT) (M:List (GL × Bool)) (So:St) (S:QS),InvM So M->RelD So S->treeQ J nv nt hp0 t M S K=some r ->
  runT (oldG J) nv nt hp0 t So λSo'=>∃S',RelD So' S'/\K S'=some r
 | .fin,M,So,S,hM,h,hr=>⟨S,h,hr⟩
 | .one o t,M,So,S,hM,h,hr=>qA9 (λS1 h1=>by
   obtain⟨M',S',h2,h3,h4⟩:=h1;exact qB9 hJ t M' S1 S' h2 h3 h4) (drawM_rel (P:=P) hJ hM h hr)
 | .wk o t,M,So,S,hM,h,hr=>qA9 (λS1 h1=>by
   obtain⟨M',S',h2,h3,h4⟩:=h1;exact qB9 hJ t M' S1 S' h2 h3 h4) (drawM_rel (P:=P) hJ hM h hr)
 | .alt o t .stop,M,So,S,hM,h,hr=>⟨alt_rel (P:=P) hM h (show altQ J nv nt o (keepM M o.d) S (λS'=>treeQ J nv nt hp0 t (keepM M o.d) S' K)=some r from hr) λSo' S' h1 h2 h3=>qB9 hJ t _ So' S' h1 h2 h3,tV⟩
 | .alt o t .fin,M,So,S,hM,h,hr=>by
  obtain⟨h1,h2⟩:=all2_some (show all2 _ _=some r from hr);exact⟨alt_rel (P:=P) hM h h1 λSo' S' h1 h2 h3=>qB9 hJ t _ So' S' h1 h2 h3,qB9 hJ .fin M So S hM h h2⟩
 | .alt o t (.one o2 t2),M,So,S,hM,h,hr=>by
  obtain⟨h1,h2⟩:=all2_some (show all2 _ _=some r from hr);exact⟨alt_rel (P:=P) hM h h1 λSo' S' h1 h2 h3=>qB9 hJ t _ So' S' h1 h2 h3,qB9 hJ (.one o2 t2) M So S hM h h2⟩
 | .alt o t (.wk o2 t2),M,So,S,hM,h,hr=>by
  obtain⟨h1,h2⟩:=all2_some (show all2 _ _=some r from hr);exact⟨alt_rel (P:=P) hM h h1 λSo' S' h1 h2 h3=>qB9 hJ t _ So' S' h1 h2 h3,qB9 hJ (.wk o2 t2) M So S hM h h2⟩
 | .alt o t (.alt o2 t2 r2),M,So,S,hM,h,hr=>by
  obtain⟨h1,h2⟩:=all2_some (show all2 _ _=some r from hr);exact⟨alt_rel (P:=P) hM h h1 λSo' S' h1 h2 h3=>qB9 hJ t _ So' S' h1 h2 h3,qB9 hJ (.alt o2 t2 r2) M So S hM h h2⟩
 | .stop,M,So,S,hM,h,hr=>trivial
def nodSl:List (Nat × GL × SV)->Bool
 | []=>true
 | (i,_)::r=>bif hasS i r then false else nodSl r
theorem getQ_of_mem{i:Nat}{e:GL × SV}:∀ {l:List (Nat × GL × SV)},nodSl l=true->(i,e)∈l->getQ l i=some e
 | [],_,h=>by simp at h
 | (j,x)::r,hn,h=>by
  simp only[nodSl] at hn;cases hh:hasS j r with
  | true=>rw[hh] at hn;simp at hn
  | false =>
   rw[hh] at hn;simp only[getQ];rcases List.mem_cons.1 h with h | h
   ·cases h;rw[nbeq.2 rfl];rfl
   ·have hne:j≠i:=λe=>hasS_no hh _ h e.symm
    rw[qCx hne];exact getQ_of_mem (by simpa using hn) h
theorem SatQ.relD{E:Env}{Z:Nat->Value}{S:QS}{a:Act}{w:World}(h:SatQ E Z S a w)(hk:S.kn=[])(hn:nodSl S.sl=true)(hG:∀x∈S.sl,x.2.1=[]):RelD (qDq S a) S:=by
 refine⟨rfl,hk,λi G v hx=>⟨Hold a G,?_,?_⟩⟩
 ·simp only[qDq,qEj,getQ_of_mem hn hx,Option.map_some]
 ·have:=hG _ hx;simp only at this;subst this;exact⟨λ_=>denG.nil _,λ_=>Hold.nil a⟩
theorem RelD.sat{E:Env}{nv last:Nat}{Z:Nat->Value}{So:St}{S:QS}{a:Act}{w:World}(h:RelD So S)(hs:Sat E Z So a w):SatQ E Z ⟨qBh nv last S.sl,[],S.hp⟩ a w:=by
 refine⟨hs.nd,hs.sz,λx hx=>?_,λg hg=>by simp at hg,by rw[<-h.hp];exact hs.hp,hs.fr,by rw[<-h.hp];exact hs.n0,hs.ag⟩;obtain⟨i,G,v⟩:=x;obtain⟨h1,h2⟩:=qCk hx;simp only at h2;subst h2;obtain⟨c,h3,h4⟩:=h.sl i [] v h1;have hc:c:=h4.2 (denG.nil So);obtain⟨e1,_,e3⟩:=hs.sl i c v h3;refine⟨λ_=>e1 hc,λhn=>(hn (Hold.nil a)).elim,λ_=>?_⟩;show v.lt S.hp.length;rw[<-h.hp];exact e3 hc
theorem placeH_spec{h:Nat}:∀ {Y:List Nat} {n:Nat},h∈Y->n<=qBn h n Y/\Y[qBn h n Y - n]?=some h
 | [],n,hm=>by simp at hm
 | x::r,n,hm=>by
  simp only[qBn];by_cases hx:x=h
  ·subst hx;rw[nbeq.2 rfl];simp
  ·rw[qCx hx];have hr:h∈r:=by
    rcases List.mem_cons.1 hm with rfl | hm
    ·exact(hx rfl).elim
    ·exact hm
   obtain⟨h1,h2⟩:=placeH_spec (n:=n+1) hr;simp only[cnF];refine⟨by omega,?_⟩;rw[show qBn h (n+1) r - n=(qBn h (n+1) r - (n+1))+1 by omega];simpa using h2
theorem qDj{h:Nat}{Y:List Nat}(hm:h∈Y):Y.getD (qBn h 0 Y) 0=h/\qBn h 0 Y<Y.length:=by
 obtain⟨_,h2⟩:=placeH_spec (n:=0) hm;simp only[Nat.sub_zero] at h2;exact⟨by simp[List.getD,h2],(List.getElem?_eq_some_iff.1 h2).1⟩
theorem S0.mv_den{Y:List Nat}{Z:Nat->Value}{x:S0}(h:x.inB Y=true):(x.mv Y).den (λi=>Z (Y.getD i 0))=x.den Z:=by
 cases x <;> simp only[S0.mv,S0.den] <;> simp only[S0.inB,List.contains_iff_mem] at h <;> first | rfl | rw[(qDj h).1]
theorem S0.mv_lt{Y:List Nat}{x:S0}(h:x.inB Y=true):(x.mv Y).lt Y.length:=by
 cases x <;> simp only[S0.mv,S0.lt] <;> simp only[S0.inB,List.contains_iff_mem] at h <;> first | trivial | exact(qDj h).2
theorem inL_iff{Y:List Nat}:∀ {l:List S0},inL Y l=true->∀x∈l,x.inB Y=true
 | [],_,x,hx=>by simp at hx
 | y::r,h,x,hx=>by
  simp only[inL] at h;cases hy:y.inB Y with
  | false=>rw[hy] at h;simp at h
  | true =>
   rw[hy] at h;rcases List.mem_cons.1 hx with rfl | hx
   ·exact hy
   ·exact inL_iff (by simpa using h) x hx
theorem mvL_eq{Y:List Nat}:∀(l:List S0),mvL Y l=l.map (S0.mv Y)
 | []=>rfl
 | x::r=>by simp only[mvL,List.map_cons,mvL_eq r]
theorem mvL_den{Y:List Nat}{Z:Nat->Value}{l:List S0}(h:inL Y l=true):(mvL Y l).map (S0.den λi=>Z (Y.getD i 0))=l.map (S0.den Z):=by
 rw[mvL_eq,List.map_map];exact List.map_congr_left λx hx=>S0.mv_den (inL_iff h x hx)
theorem mvL_lt{Y:List Nat}{l:List S0}(h:inL Y l=true):∀x∈mvL Y l,x.lt Y.length:=by
 intro x hx;rw[mvL_eq,List.mem_map] at hx;obtain⟨y,hy,rfl⟩:=hx;exact S0.mv_lt (inL_iff h y hy)
theorem SC.mv_den{Y:List Nat}{Z:Nat->Value}{x:SC}(h:x.inB Y=true):(x.mv Y).den (λi=>Z (Y.getD i 0))=x.den Z:=by
 cases x with
 | o y=>exact S0.mv_den h
 | agg l=>simp only[SC.mv,SC.den];rw[mvL_den h]
theorem SC.mv_lt{Y:List Nat}{x:SC}(h:x.inB Y=true):(x.mv Y).lt Y.length:=by
 cases x with
 | o y=>exact S0.mv_lt h
 | agg l=>exact mvL_lt h
theorem mvCs_eq{Y:List Nat}:∀(l:List SC),mvCs Y l=l.map (SC.mv Y)
 | []=>rfl
 | x::r=>by simp only[mvCs,List.map_cons,mvCs_eq r]
theorem inCs_iff{Y:List Nat}:∀ {l:List SC},inCs Y l=true->∀x∈l,x.inB Y=true
 | [],_,x,hx=>by simp at hx
 | y::r,h,x,hx=>by
  simp only[inCs] at h;cases hy:y.inB Y with
  | false=>rw[hy] at h;simp at h
  | true =>
   rw[hy] at h;rcases List.mem_cons.1 hx with rfl | hx
   ·exact hy
   ·exact inCs_iff (by simpa using h) x hx
theorem SV.mv_den{Y:List Nat}{Z:Nat->Value}{x:SV}(h:x.inB Y=true):(x.mv Y).den (λi=>Z (Y.getD i 0))=x.den Z:=by
 cases x with
 | c y=>exact SC.mv_den h
 | tup l =>
  simp only[SV.mv,SV.den,mvCs_eq,List.map_map];congr 2
  exact List.map_congr_left λx hx=>SC.mv_den (inCs_iff h x hx)
theorem SV.mv_lt{Y:List Nat}{x:SV}(h:x.inB Y=true):(x.mv Y).lt Y.length:=by
 cases x with
 | c y=>exact SC.mv_lt h
 | tup l =>
  intro y hy;rw[mvCs_eq,List.mem_map] at hy;obtain⟨z,hz,rfl⟩:=hy;exact SC.mv_lt (inCs_iff h z hz)
theorem mvHp_spec{hp:List SB}{Y:List Nat}:∀ {l:List Nat} {hp':List SB},mvHp hp Y l=some hp'->l.length=hp'.length/\∀(j:Nat) (sb:SB),hp'[j]?=some sb->∃i sb0,l[j]?=some i/\hp[i]?=some sb0/\sb=sb0.mv Y/\sb0.inB Y=true
 | [],hp',h=>by
  simp only[mvHp,snJ] at h;subst h;exact⟨rfl,λj sb h=>by simp at h⟩
 | i::r,hp',h=>by
  simp only[mvHp] at h;split at h
  ·rename_i sb0 s h1 h2;cases hi:sb0.inB Y with
   | false=>rw[hi] at h;simp at h
   | true =>
    rw[hi] at h;simp only[cnT,snJ] at h;subst h;obtain⟨h3,h4⟩:=mvHp_spec h2;refine⟨by simp[h3],λj sb hj=>?_⟩;cases j with
    | zero =>
     simp at hj;subst hj;exact⟨i,sb0,rfl,h1,rfl,hi⟩
    | succ j=>simpa using h4 j sb (by simpa using hj)
  ·cases h
theorem headOK_spec{n:Nat}:∀ {Y:List Nat} {k:Nat},headOK n k Y=true->n<=k+Y.length/\∀i,k<=i->i<n->Y.getD (i - k) 0=i
 | [],k,h=>by
  simp only[headOK,Nat.ble_eq] at h;exact⟨by simpa using h,λi h1 h2=>by omega⟩
 | x::r,k,h=>by
  simp only[headOK] at h;cases hb:Nat.ble n k with
  | true =>
   have:=Nat.le_of_ble_eq_true hb;exact⟨by omega,λi h1 h2=>by omega⟩
  | false =>
   rw[hb] at h;simp only[cnF] at h;by_cases hx:x=k
   ·subst hx;rw[nbeq.2 rfl] at h;obtain⟨h1,h2⟩:=headOK_spec (Y:=r) (k:=x+1) (by simpa using h);refine⟨by simp only[List.length_cons];omega,λi h3 h4=>?_⟩;by_cases hi:i=x
    ·subst hi;simp
    ·have:=h2 i (by omega) h4;rw[show i - x=(i - (x+1))+1 by omega];simpa using this
   ·rw[qCx hx] at h;simp at h
theorem heap_mv{X:Nat->Prop}{w0 w:World}{Z:Nat->Value}{hp hp':List SB}{Y:List Nat}(h:HpSat X w0 w Z hp)(hn:qDh Y=true)(hm:mvHp hp Y Y=some hp'):HpSat X w0 w (λi=>Z (Y.getD i 0)) hp'/\hp'.length=Y.length:=by
 obtain⟨hl,hsp⟩:=mvHp_spec hm;have hg:∀(j i:Nat),Y[j]?=some i->Y.getD j 0=i:=λj i h=>by simp[List.getD,h]
 refine⟨⟨λj hj=>?_,λj sb hj=>?_,λj sb hj=>?_,λi j sb1 sb2 b hij hi hj e1 e2 f1 f2=>?_,h.tab⟩,hl.symm⟩
 ·obtain⟨i,sb0,h1,h2,_⟩:=hsp j _ (List.getElem?_eq_getElem hj);show qBs (Z (Y.getD j 0));rw[hg j i h1];exact h.ref i (List.getElem?_eq_some_iff.1 h2).1
 ·obtain⟨i,sb0,h1,h2,rfl,h4⟩:=hsp j sb hj;show(sb0.mv Y).sat X w0 w (λi=>Z (Y.getD i 0)) (Z (Y.getD j 0));rw[hg j i h1];have:=h.sat i sb0 h2;cases sb0 with
  | cells e l =>
   obtain⟨b,hv,hb,hx⟩:=this;refine⟨b,hv,?_,hx⟩;rw[hb,mvL_den h4]
  | row t e l=>exact this
  | view t l=>exact this
  | map m=>exact this
  | bag ks e l=>exact this
  | vrow t l=>exact this
  | part k lo n sz =>
   have hk:k∈Y:=by
    have h4:Y.contains k=true:=h4;simpa using h4
   show qB5 (Z (Y.getD (qBn k 0 Y) 0)) _ _ _ _;rw[(qDj hk).1];exact this
  | slc k n sz =>
   have hk:k∈Y:=by
    have h4:Y.contains k=true:=h4;simpa using h4
   show ∃b,Z (Y.getD (qBn k 0 Y) 0)=_/\_;rw[(qDj hk).1];exact this
  | srow e sz n l =>
   obtain⟨h1,h2,h3,h5⟩:=this;refine⟨by rw[mvL_eq,List.length_map];exact h1,h2,?_,h5⟩;rw[mvL_den h4];exact h3
  | gro t e l n g =>
   have hk:g∈Y:=by
    have h4:Y.contains g=true:=h4;simpa using h4
   show ∃u,Z i=bagV u [[Z (Y.getD (qBn g 0 Y) 0)]]/\_/\_/\_/\VrowAt X w0 w t (Z (Y.getD (qBn g 0 Y) 0)) _;rw[(qDj hk).1];exact this
  | clo f k l =>
   have this:Z i=_:=this;show Z i=.func (.func f) (((mvL Y l).take k).map _).toArray (((mvL Y l).drop k).map _).toArray;have hden:=mvL_den (Z:=Z) h4;rw[List.map_take,List.map_drop,hden,<-List.map_take,<-List.map_drop];exact this
  | dead=>trivial
 ·obtain⟨i,sb0,h1,h2,rfl,h4⟩:=hsp j sb hj;cases sb0 with
  | cells e l =>
   intro x hx;rw[<-hl];exact mvL_lt h4 x hx
  | row t e l=>trivial
  | view t l=>trivial
  | map m=>trivial
  | bag ks e l=>trivial
  | srow e sz n l =>
   intro x hx;rw[<-hl];exact mvL_lt h4 x hx
  | gro t e l n g =>
   have hk:g∈Y:=by
    have h4:Y.contains g=true:=h4;simpa using h4
   show qBn g 0 Y<hp'.length;rw[<-hl];exact(qDj hk).2
  | vrow t l=>trivial
  | part k lo n sz =>
   have hk:k∈Y:=by
    have h4:Y.contains k=true:=h4;simpa using h4
   show qBn k 0 Y<hp'.length;rw[<-hl];exact(qDj hk).2
  | slc k n sz =>
   have hk:k∈Y:=by
    have h4:Y.contains k=true:=h4;simpa using h4
   show qBn k 0 Y<hp'.length;rw[<-hl];exact(qDj hk).2
  | clo f k l =>
   intro x hx;rw[<-hl];exact mvL_lt h4 x hx
  | dead=>trivial
 ·obtain⟨i',s1,a1,a2,rfl,_⟩:=hsp i sb1 hi;obtain⟨j',s2,b1,b2,rfl,_⟩:=hsp j sb2 hj;have x1:s1.ex=true:=by cases s1 <;> first | rfl | cases e1
  have x2:s2.ex=true:=by cases s2 <;> first | rfl | cases e2
  refine h.apart i' j' s1 s2 b ?_ a2 b2 x1 x2 ?_ ?_
  ·rintro rfl
   exact hij (nodup_spec hn i j i' a1 b1)
  ·simpa only [hg i i' a1] using f1
  ·simpa only [hg j j' b1] using f2
theorem keepQ_mem{S:QS}{x:Nat × GL × SV}:∀ {l:List Nat} {sl:List (Nat × GL × SV)},keepQ S l=some sl->x∈sl->x∈S.sl/\x.2.1=[]
 | [],sl,h,hx=>by
  simp only[keepQ,snJ] at h;subst h;simp at hx
 | i::r,sl,h,hx=>by
  simp only[keepQ] at h;split at h
  ·rename_i v l h1 h2;simp only[snJ] at h;subst h;rcases List.mem_cons.1 hx with rfl | hx
   ·exact⟨qDv h1,rfl⟩
   ·exact keepQ_mem h2 hx
  ·cases h
theorem mvSl_mem{Y:List Nat}{y:Nat × GL × SV}:∀ {sl sl':List (Nat × GL × SV)},mvSl Y sl=some sl'->y∈sl'->∃v,(y.1,y.2.1,v)∈sl/\v.inB Y=true/\y.2.2=v.mv Y
 | [],sl',h,hy=>by
  simp only[mvSl,snJ] at h;subst h;simp at hy
 | (i,G,v)::r,sl',h,hy=>by
  simp only[mvSl] at h;split at h
  ·rename_i l hl;cases hv:v.inB Y with
   | false=>rw[hv] at h;simp at h
   | true =>
    rw[hv] at h;simp only[cnT,snJ] at h;subst h;rcases List.mem_cons.1 hy with rfl | hy
    ·exact⟨v,List.mem_cons.2 (.inl rfl),hv,rfl⟩
    ·obtain⟨u,h1,h2⟩:=mvSl_mem hl hy;exact⟨u,List.mem_cons.2 (.inr h1),h2⟩
  ·cases h
theorem canon_sat{E:Env}{Z:Nat->Value}{S S':QS}{a:Act}{w:World}{keep:List Nat}(h:SatQ E Z S a w)(hc:canonQ E.n0 keep S=some S'):∃Z',SatQ E Z' S' a w:=by
 unfold canonQ at hc;split at hc
 ·rename_i sl hsl;simp only at hc;generalize hY:closeH S.hp 60 0 (hsVs (svsOf sl) (List.range E.n0))=Y at hc
  cases hn:qDh Y with
  | false=>rw[hn] at hc;simp at hc
  | true =>
   rw[hn] at hc;simp only[cnT] at hc;cases hh:headOK E.n0 0 Y with
   | false=>rw[hh] at hc;simp at hc
   | true =>
    rw[hh] at hc;simp only[cnT] at hc;split at hc
    ·rename_i sl' hp' h1 h2;simp only[snJ] at hc;subst hc;obtain⟨g1,g2⟩:=heap_mv h.hp hn h2;obtain⟨k1,k2⟩:=headOK_spec hh;refine⟨λi=>Z (Y.getD i 0),h.nd,h.sz,λy hy=>?_,λg hg=>by simp at hg,g1,h.fr,by show E.n0<=hp'.length;omega,λi hi=>?_⟩
     ·obtain⟨v,m1,m2,m3⟩:=mvSl_mem h1 hy;obtain⟨n1,n2⟩:=keepQ_mem hsl m1;obtain⟨e1,_,e3⟩:=h.sl _ n1;simp only at n2;have hG:Hold a y.2.1:=by rw[n2];exact Hold.nil a
      refine⟨λ_=>?_,λhn=>(hn hG).elim,λ_=>?_⟩
      ·rw[m3,SV.mv_den m2];exact e1 hG
      ·rw[m3];show(v.mv Y).lt hp'.length;rw[g2];exact SV.mv_lt m2
     ·have:=k2 i (by omega) hi;simp only[Nat.sub_zero] at this;simp only[this];exact h.ag i hi
    ·cases hc
 ·cases hc
end Go.Eng
