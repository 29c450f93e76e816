import Derived.Test.YtngikdcgcakaaaaDoorEngL
namespace Go.Eng
set_option linter.unusedVariables false
set_option linter.unusedSimpArgs false
inductive IQ where
 | bad
 | skip
 | reg (last:Nat) (draw:Option (List Nat)) (ops:List IOp)
 | regT (last:Nat) (t:DT)
 | regL (last:Nat) (d:List Nat) (k:Nat) (ops:List IOp) (o:IOp)
 | seq (a b:IQ)
 | cond (c:Arg) (a b:IQ)
 | block (id:Nat) (b:IQ)
 | loop (keep:List Nat) (b:IQ)
 | unroll (n:Nat) (b:IQ)
 | exit (id:Nat)
 | ret
 | canon (co:List (Nat × Option Nat × ET × Nat)) (keep:List Nat) (a:IQ)
 | join (co:List (Nat × Option Nat × ET × Nat)) (keep:List Nat) (a:IQ)
 | sub (i:Nat) (a:IQ)
def IQ.erase:IQ->IC
 | .bad=>.bad
 | .skip=>.skip
 | .reg l d o=>.reg l d o
 | .regT l t=>.regT l t
 | .regL l d k ops o=>.regL l d k ops o
 | .seq a b=>.seq a.erase b.erase
 | .cond c a b=>.cond c a.erase b.erase
 | .block i b=>.block i b.erase
 | .loop _ b=>.loop b.erase
 | .unroll _ b=>.loop b.erase
 | .exit i=>.exit i
 | .ret=>.ret
 | .canon _ _ a=>a.erase
 | .join _ _ a=>a.erase
 | .sub _ a=>a.erase
def nilB:S0->Bool
 | .val (.slice none 0 0)=>true
 | _=>false
def nilK(t:ET)(x:S0):Bool :=
 match t with
 | .mp=>match x with
  | .val (.map none)=>true
  | _=>false
 | .bag []=>false
 | _=>nilB x
def nilH(t:ET)(n:Nat):S0 :=
 match t with
 | .bag _=>.bsl n
 | _=>.own n
def nilSB(t:ET)(e:Nat):SB :=
 match t with
 | .mp=>.map none
 | .bag ks=>.bag ks e []
 | t=>.row t e []
def nilVal(t:ET):Value :=
 match t with
 | .mp=>.map none
 | .bag _=>bagV (.slice none 0 0) []
 | _=>.slice none 0 0
def coerQ(S:QS)(d:Nat)(off:Option Nat)(t:ET)(e:Nat):Option QS :=
 match getQ S.sl d,off with
 | some ([],.c (.o x)),none=>bif nilK t x then some ⟨putS S.sl d ([],.c (.o (nilH t S.hp.length))),S.kn,S.hp++[nilSB t e]⟩ else some S
 | some ([],.c (.agg l)),some k=>match l[k]? with
  | some x=>bif nilK t x then some ⟨putS S.sl d ([],.c (.agg (l.set k (nilH t S.hp.length)))),S.kn,S.hp++[nilSB t e]⟩ else some S
  | none=>none
 | some ([],.c (.o (.hd h 0))),some k=>match S.hp[h]? with
  | some (.cells e' l)=>match l[k]? with
   | some x=>bif nilK t x then some ⟨S.sl,S.kn,S.hp.set h (.cells e' (l.set k (nilH t S.hp.length)))++[nilSB t e]⟩ else some S
   | none=>none
  | _=>none
 | _,_=>none
def mvB(hp:List SB):S0->Option (S0 × List SB)
 | .own q=>match hp[q]? with
  | some (.row t e l)=>some (.own hp.length,hp.set q .dead++[.row t e l])
  | some (.map m)=>some (.own hp.length,hp.set q .dead++[.map m])
  | some (.view t l)=>some (.own hp.length,hp++[.view t l])
  | _=>none
 | .bsl q=>match hp[q]? with
  | some (.bag ks e l)=>some (.bsl hp.length,hp.set q .dead++[.bag ks e l])
  | _=>none
 | _=>none
def mvQ(S:QS)(d:Nat)(off:Option Nat):Option QS :=
 match getQ S.sl d,off with
 | some ([],.c (.o (.hd h 0))),some k=>match S.hp[h]? with
  | some (.cells e l)=>match l[k]? with
   | some x=>match mvB S.hp x with
    | some (y,hp')=>some ⟨S.sl,S.kn,hp'.set h (.cells e (l.set k y))⟩
    | none=>none
   | none=>none
  | _=>none
 | some ([],.c (.o x)),none=>match mvB S.hp x with
  | some (y,hp')=>some ⟨putS S.sl d ([],.c (.o y)),S.kn,hp'⟩
  | none=>none
 | _,_=>none
def selfP(h:Nat):S0->Option S0
 | .hd h' 0=>bif Nat.beq h' h then some (.opt true h 0) else none
 | .val (.pointer none)=>some (.opt false h 0)
 | .opt c h' 0=>bif Nat.beq h' h then some (.opt c h 0) else none
 | _=>none
def selfQ(S:QS)(d:Nat)(off:Option Nat):Option QS :=
 match getQ S.sl d,off with
 | some ([],.c (.o (.hd h 0))),some k=>match S.hp[h]? with
  | some (.cells e l)=>match l[k]? with
   | some x=>(selfP h x).bind λy=>some ⟨S.sl,S.kn,S.hp.set h (.cells e (l.set k y))⟩
   | none=>none
  | _=>none
 | _,_=>none
def thinQ(S:QS)(d:Nat):Option QS :=
 match getQ S.sl d with
 | some ([],.c (.o (.own h)))=>match S.hp[h]? with
  | some (.row t e l)=>some ⟨putS S.sl d ([],.c (.o (.own (S.hp.length+1)))),S.kn,S.hp++[.dead]++[.part S.hp.length 0 l.length t.sz]⟩
  | some (.part k lo n z)=>some S
  | _=>none
 | _=>none
def aliasQ(S:QS)(d:Nat)(off:Option Nat):Option QS :=
 match getQ S.sl d,off with
 | some ([],.c (.o (.hd h 0))),some k=>match S.hp[h]? with
  | some (.cells e l)=>match l[k]? with
   | some (.own q)=>match S.hp[q]? with
    | some (.row t e' r)=>some ⟨S.sl,S.kn,(S.hp++[SB.part q 0 r.length t.sz]).set h (.cells e (l.set k (.own S.hp.length)))⟩
    | _=>none
   | _=>none
  | _=>none
 | _,_=>none
def vrowQ(S:QS)(d:Nat):Option QS :=
 match getQ S.sl d with
 | some ([],.c (.o (.own h)))=>match S.hp[h]? with
  | some (.row t e l)=>some ⟨S.sl,S.kn,S.hp.set h (.vrow t l)⟩
  | some (.vrow _ _)=>some S
  | _=>none
 | _=>none
def groQ(S:QS)(d:Nat):Option QS :=
 match getQ S.sl d with
 | some ([],.c (.o (.own h)))=>match S.hp[h]? with
  | some (.row t e l)=>some ⟨putS S.sl d ([],.c (.o (.bsl S.hp.length))),S.kn,S.hp.set h .dead++[.gro t e l l.length h]⟩
  | _=>none
 | some ([],.c (.o (.bsl _)))=>some S
 | _=>none
def coersQ:List (Nat × Option Nat × ET × Nat)->QS->Option QS
 | [],S=>some S
 | (d,off,t,e)::r,S=>(bif Nat.ble 7000000 d then groQ S (d - 7000000) else bif Nat.ble 6000000 d then vrowQ S (d - 6000000) else bif Nat.ble 5000000 d then aliasQ S (d - 5000000) off else bif Nat.ble 4000000 d then thinQ S (d - 4000000) else bif Nat.ble 3000000 d then some ⟨S.sl,S.kn,S.hp.set (d - 3000000) .dead⟩ else bif Nat.ble 2000000 d then selfQ S (d - 2000000) off else bif Nat.ble 1000000 d then mvQ S (d - 1000000) off else coerQ S d off t e).bind (coersQ r)
def postQ(n0:Nat)(co:List (Nat × Option Nat × ET × Nat))(keep:List Nat)(S:QS):Option QS:=(coersQ co S).bind (canonQ n0 keep)
noncomputable def lfp{R:Type}(f:Nat->Option R):Option R:=@dite _ (∃n r,f n=some r) (Classical.propDecidable _) (λh=>f h.choose) (λ_=>none)
theorem lfp_some{R:Type}{f:Nat->Option R}{r:R}(h:lfp f=some r):∃n,f n=some r:=by
 unfold lfp at h;split at h
 ·exact⟨_,h⟩
 ·cases h
theorem lfp_eq{R:Type}{f:Nat->Option R}{n:Nat}{r:R}(hm:∀n m r,f n=some r->n<=m->f m=some r)(h:f n=some r):lfp f=some r:=by
 have hex:∃n r,f n=some r:=⟨n,r,h⟩;unfold lfp;rw[dif_pos hex];obtain⟨r',hr'⟩:=hex.choose_spec;rcases Nat.le_total n hex.choose with hle | hle
 ·exact hm _ _ _ h hle
 ·have:=hm _ _ _ hr' hle;rw[h] at this;rw[hr',<-this]
noncomputable def loopN{R:Type}(body:QS->(QS->Option R)->Option R)(cn:QS->Option QS):Nat->QS->Option R
 | 0,_=>none
 | n+1,S=>body S λS'=>(cn S').bind (loopN body cn n)
abbrev SubQ:=QS->(R:Type)->(QS->Option R)->(Nat->QS->Option R)->(QS->Option R)->Option R
noncomputable def qAy{R:Type}(I:Nat->SubQ)(J:Nat->Option CQ)(n0 nv nt:Nat):IQ->QS->(QS->Option R)->(Nat->QS->Option R)->(QS->Option R)->Option R
 | .bad,S,kn,kx,kr=>none
 | .skip,S,kn,kx,kr=>kn S
 | .reg last none ops,S,kn,kx,kr=>opsQ J nv nt (λp=>kx PANB (panS p)) ops S λS'=>kn ⟨qBh nv last S'.sl,[],S'.hp⟩
 | .reg last (some _) ops,S,kn,kx,kr=>match S.kn with
  | []=>bif nodSl S.sl then drawQ J nv nt S.hp ops [] ⟨qBh 1000000 0 S.sl,[],S.hp⟩ λS'=>kn ⟨qBh nv last S'.sl,[],S'.hp⟩ else none
  | _::_=>none
 | .regT last t,S,kn,kx,kr=>match S.kn with
  | []=>bif nodSl S.sl then treeQ J nv nt S.hp t [] ⟨qBh 1000000 0 S.sl,[],S.hp⟩ λS'=>kn ⟨qBh nv last S'.sl,[],S'.hp⟩ else none
  | _::_=>none
 | .regL last d k ops o,S,kn,kx,kr=>match S.kn with
  | []=>bif nodSl S.sl then drawQ J nv nt S.hp ops [] ⟨qBh 1000000 0 S.sl,[],S.hp⟩ λS'=>opQ J nv nt (λ_=>none) o ⟨qBh 1000000 0 S'.sl,[],S'.hp⟩ λS2=>kn ⟨qBh nv last S2.sl,[],S2.hp⟩ else none
  | _::_=>none
 | .seq a b,S,kn,kx,kr=>qAy I J n0 nv nt a S (λS'=>qAy I J n0 nv nt b S' kn kx kr) kx kr
 | .cond c a b,S,kn,kx,kr=>match argQ S [] c with
  | some (.c (.o (.val (.bool t))))=>bif t then qAy I J n0 nv nt a S kn kx kr else qAy I J n0 nv nt b S kn kx kr
  | _=>none
 | .block id b,S,kn,kx,kr=>bif Nat.beq PANB id then none else qAy I J n0 nv nt b S kn (λi S'=>bif Nat.beq i id then kn S' else kx i S') kr
 | .loop keep b,S,kn,kx,kr=>match canonQ n0 keep S with
  | some S0=>lfp λn=>loopN (λS kk=>qAy I J n0 nv nt b S kk kx kr) (canonQ n0 keep) n S0
  | none=>none
 | .unroll n b,S,kn,kx,kr=>loopN (λS kk=>qAy I J n0 nv nt b S kk kx kr) some n S
 | .exit id,S,kn,kx,kr=>bif Nat.beq id PANB then none else kx id S
 | .ret,S,kn,kx,kr=>kr S
 | .canon co keep a,S,kn,kx,kr=>(postQ n0 co keep S).bind λS'=>qAy I J n0 nv nt a S' kn kx kr
 | .join co keep a,S,kn,kx,kr=>qAy I J n0 nv nt a S (λS'=>(postQ n0 co keep S').bind kn) kx kr
 | .sub i a,S,kn,kx,kr=>I i S R kn kx kr
def qCr(I:Nat->SubQ)(J:Nat->Option CQ)(n0 nv nt:Nat):IQ->Prop
 | .seq a b=>qCr I J n0 nv nt a/\qCr I J n0 nv nt b
 | .cond _ a b=>qCr I J n0 nv nt a/\qCr I J n0 nv nt b
 | .block _ b=>qCr I J n0 nv nt b
 | .loop _ b=>qCr I J n0 nv nt b
 | .unroll _ b=>qCr I J n0 nv nt b
 | .canon _ _ a=>qCr I J n0 nv nt a
 | .join _ _ a=>qCr I J n0 nv nt a
 | .sub i a=>(∀(S:QS) (R:Type) (kn:QS->Option R) (kx:Nat->QS->Option R) (kr:QS->Option R) (r:R),I i S R kn kx kr=some r->qAy I J n0 nv nt a S kn kx kr=some r)/\qCr I J n0 nv nt a
 | _=>True
def subsL:IQ->List (Nat × IQ)
 | .seq a b=>subsL a++subsL b
 | .cond _ a b=>subsL a++subsL b
 | .block _ b=>subsL b
 | .loop _ b=>subsL b
 | .unroll _ b=>subsL b
 | .canon _ _ a=>subsL a
 | .join _ _ a=>subsL a
 | .sub i a=>(i,a)::subsL a
 | _=>[]
def qBr(I:Nat->SubQ)(J:Nat->Option CQ)(n0 nv nt:Nat)(i:Nat)(a:IQ):Prop :=
 ∀(S:QS) (R:Type) (kn:QS->Option R) (kx:Nat->QS->Option R) (kr:QS->Option R) (r:R),I i S R kn kx kr=some r->qAy I J n0 nv nt a S kn kx kr=some r
def qA6(I:Nat->SubQ)(J:Nat->Option CQ)(n0 nv nt:Nat):List (Nat × IQ)->Prop
 | []=>True
 | (i,a)::r=>qBr I J n0 nv nt i a/\qA6 I J n0 nv nt r
theorem qA6.app{I:Nat->SubQ}{J:Nat->Option CQ}{n0 nv nt:Nat}:∀ {l m:List (Nat × IQ)},qA6 I J n0 nv nt (l++m)->qA6 I J n0 nv nt l/\qA6 I J n0 nv nt m
 | [],_,h=>⟨trivial,h⟩
 | (_,_)::r,m,h=>⟨⟨h.1,(qA6.app (l:=r) h.2).1⟩,(qA6.app (l:=r) h.2).2⟩
theorem qCs{I:Nat->SubQ}{J:Nat->Option CQ}{n0 nv nt:Nat}:∀ {ic:IQ},qA6 I J n0 nv nt (subsL ic)->qCr I J n0 nv nt ic
 | .bad,_=>trivial
 | .skip,_=>trivial
 | .reg _ _ _,_=>trivial
 | .regT _ _,_=>trivial
 | .regL _ _ _ _ _,_=>trivial
 | .exit _,_=>trivial
 | .ret,_=>trivial
 | .seq a b,h=>⟨qCs (qA6.app h).1,qCs (qA6.app h).2⟩
 | .cond _ a b,h=>⟨qCs (qA6.app h).1,qCs (qA6.app h).2⟩
 | .block _ b,h=>qCs (ic:=b) h
 | .loop _ b,h=>qCs (ic:=b) h
 | .unroll _ b,h=>qCs (ic:=b) h
 | .canon _ _ a,h=>qCs (ic:=a) h
 | .join _ _ a,h=>qCs (ic:=a) h
 | .sub i a,h=>⟨h.1,qCs (ic:=a) h.2⟩
section
variable {E:Env} {nv:Nat} {J:Nat->Option CQ} {raws:List Nat}
theorem nilB_eq{x:S0}(h:nilB x=true):x=.val (.slice none 0 0):=by
 unfold nilB at h;split at h
 ·rfl
 ·cases h
def nilZT(t:ET)(n:Nat)(Z:Nat->Value):Nat->Value:=λi=>if i<n then Z i else nilVal t
theorem qCp{t:ET}{n:Nat}{Z:Nat->Value}:∀i<n,nilZT t n Z i=Z i:=λi hi=>by simp[nilZT,hi]
theorem nilT_at(t:ET)(n:Nat)(Z:Nat->Value):nilZT t n Z n=nilVal t:=by simp[nilZT]
theorem nilT_den{t:ET}{x:S0}{n:Nat}{Z:Nat->Value}(h:nilK t x=true):(nilH t n).den (nilZT t n Z)=x.den Z:=by
 cases t with
 | mp =>
  simp only[nilK] at h;split at h
  ·simp only[nilH,S0.den,nilT_at,nilVal]
  ·cases h
 | bag ks =>
  cases ks with
  | nil=>simp[nilK] at h
  | cons k r =>
   have:=nilB_eq h;subst this;simp only[nilH,S0.den,nilT_at,nilVal];exact qAq [] rfl
 | _ =>
  all_goals
   have:=nilB_eq h;subst this;simp only[nilH,S0.den,nilT_at,nilVal]
theorem nilH_lt(t:ET)(n:Nat):(nilH t n).lt (n+1):=by cases t <;> exact Nat.lt_succ_self _
theorem nilVal_fp(t:ET):fp (nilVal t)=[]:=by cases t <;> rfl
theorem qEz{X:Nat->Prop}{w0 w:World}{Z:Nat->Value}{hp:List SB}{t:ET}{x:S0}(hx:nilK t x=true)(h:HpSat X w0 w Z hp)(e:Nat):HpSat X w0 w (nilZT t hp.length Z) (hp++[nilSB t e]):=by
 refine h.push (w':=w) (nilSB t e) qCp (λk _ _=>rfl) (λ_ _=>rfl) (λ_ _ k _ _ _=>rfl) ?_ ?_ ?_ ?_
 ·rw[nilT_at];cases t with
  | mp=>rfl
  | bag ks =>
   cases ks with
   | nil=>simp[nilK] at hx
   | cons k r=>exact⟨.slice none 0 0,[],rfl,World.ownsRow_nil w 0 e _,by simp[Value.ownBlock],trivial,by simp[qBo],by simp[qBo],Nat.succ_pos _⟩
  | _=>all_goals exact⟨World.ownsRow_nil w 0 e _,λb hb=>by simp[nilVal,Value.ownBlock] at hb⟩
 ·cases t <;> trivial
 ·rw[nilT_at];cases t <;> trivial
 ·intro _ b hb;rw[nilT_at,nilVal_fp] at hb;cases hb
theorem qDn{Z:Nat->Value}{n:Nat}{l:List S0}{k:Nat}{x:S0}{t:ET}(hx:l[k]?=some x)(hn:nilK t x=true)(hl:∀y∈l,y.lt n) :
  (l.set k (nilH t n)).map (S0.den (nilZT t n Z))=l.map (S0.den Z):=by
 apply List.ext_getElem?;intro i;rw[List.getElem?_map,List.getElem?_map];by_cases hi:i=k
 ·subst hi;have hlt:=(List.getElem?_eq_some_iff.1 hx).1;rw[List.getElem?_set_self hlt,hx];simp only[Option.map_some,nilT_den hn]
 ·rw[List.getElem?_set_ne (Ne.symm hi)];cases h:l[i]? with
  | none=>rfl
  | some y =>
   simp only[Option.map_some];rw[S0.den_congr qCp (hl y (List.mem_of_getElem? h))]
theorem set_nilT_lt{n k:Nat}{l:List S0}{t:ET}(hl:∀y∈l,y.lt n):∀y∈l.set k (nilH t n),y.lt (n+1):=by
 intro y hy;rcases List.mem_or_eq_of_mem_set hy with h | rfl
 ·exact S0.lt_mono (Nat.le_succ _) (hl y h)
 ·exact nilH_lt t n
theorem coer_sat{Z:Nat->Value}{S S':QS}{a:Act}{w:World}{d:Nat}{off:Option Nat}{t:ET}{e:Nat}(h:SatQ E Z S a w)(hc:coerQ S d off t e=some S'):∃Z',SatQ E Z' S' a w:=by
 have base:∀(sl:List (Nat × GL × SV)) (hp:List SB),hp.length=S.hp.length+1->(∀x∈sl,x∈S.sl\/EntS (nilZT t S.hp.length Z) a hp.length x)->HpSat E.X E.w0 w (nilZT t S.hp.length Z) hp->SatQ E (nilZT t S.hp.length Z) ⟨sl,S.kn,hp⟩ a w:=λsl hp hl hs hh=>by
  refine⟨h.nd,h.sz,λx hx=>?_,h.kn,hh,h.fr,by show E.n0<=hp.length;have:=h.n0;omega,λi hi=>?_⟩
  ·rcases hs x hx with hx | hx
   ·exact(h.sl x hx).same qCp (by show _<=hp.length;omega)
   ·exact hx
  ·rw[qCp i (Nat.lt_of_lt_of_le hi h.n0)];exact h.ag i hi
 unfold coerQ at hc;split at hc
 ·rename_i x hg;cases hx:nilK t x with
  | false=>rw[hx] at hc;simp only[cnF,snJ] at hc;subst hc;exact⟨Z,h⟩
  | true =>
   rw[hx] at hc;simp only[cnT,snJ] at hc;subst hc;refine⟨_,base _ _ (by simp) (λy hy=>?_) (qEz hx h.hp e)⟩;rcases putS_mem hy with rfl | ⟨hy,_⟩
   ·refine .inr ⟨λhG=>?_,λhn=>(hn (Hold.nil a)).elim,λ_=>?_⟩
    ·rw[(h.get hg).1 hG];simp only[SV.den,SC.den,nilT_den hx]
    ·have:=nilH_lt t S.hp.length;simpa[SV.lt,SC.lt] using this
   ·exact .inl hy
 ·rename_i l k hg;split at hc
  ·rename_i x hx;cases hn:nilK t x with
   | false=>rw[hn] at hc;simp only[cnF,snJ] at hc;subst hc;exact⟨Z,h⟩
   | true =>
    rw[hn] at hc;simp only[cnT,snJ] at hc;subst hc;have hlt:=(h.get hg).2.2 (Hold.nil a);refine⟨_,base _ _ (by simp) (λy hy=>?_) (qEz hn h.hp e)⟩;rcases putS_mem hy with rfl | ⟨hy,_⟩
    ·refine .inr ⟨λhG=>?_,λhn=>(hn (Hold.nil a)).elim,λ_=>?_⟩
     ·rw[(h.get hg).1 hG];simp only[SV.den,SC.den];rw[qDn hx hn hlt]
     ·show ∀y∈l.set k (nilH t S.hp.length),S0.lt _ y;have:=set_nilT_lt (k:=k) (t:=t) hlt;simpa using this
    ·exact .inl hy
  ·cases hc
 ·rename_i hh k hg;split at hc
  ·rename_i e' l hsb;split at hc
   ·rename_i x hx;cases hn:nilK t x with
    | false=>rw[hn] at hc;simp only[cnF,snJ] at hc;subst hc;exact⟨Z,h⟩
    | true =>
     rw[hn] at hc;simp only[cnT,snJ] at hc;subst hc;have hlt:=h.hp.lt hh _ hsb;have hhl:=(List.getElem?_eq_some_iff.1 hsb).1;have h1:=qEz hn h.hp e;have hsb':(S.hp++[nilSB t e])[hh]?=some (.cells e' l):=by rw[List.getElem?_append_left hhl];exact hsb
     have h2:=h1.turn hh _ (.cells e' (l.set k (nilH t S.hp.length))) hsb' (λ_=>rfl) (λk _ _=>rfl) (λ_ _=>rfl) (λ_ _ k _ _ _ _=>rfl) (by
      obtain⟨b,hv,hb,hx'⟩:=h.hp.sat hh _ hsb;refine⟨b,by rw[qCp hh hhl];exact hv,?_,hx'⟩;rw[qDn hx hn hlt];exact hb) (by
      have:=set_nilT_lt (k:=k) (t:=t) hlt;show ∀y∈_,S0.lt _ y;simpa using this)
     rw[List.set_append_left _ _ hhl] at h2;exact⟨_,base _ _ (by simp) (λy hy=>.inl hy) h2⟩
   ·cases hc
  ·cases hc
 ·cases hc
theorem heap_respell'{X:Nat->Prop}{w0 w:World}{Z:Nat->Value}{hp:List SB}(h:HpSat X w0 w Z hp){hh e:Nat}{l l':List S0}(hsb:hp[hh]?=some (.cells e l))(hd:l'.map (S0.den Z)=l.map (S0.den Z))(hl:∀y∈l',y.lt hp.length):HpSat X w0 w Z (hp.set hh (.cells e l')) :=
 h.turn hh _ (.cells e l') hsb (λ_=>rfl) (λk _ _=>rfl) (λ_ _=>rfl) (λ_ _ k _ _ _ _=>rfl) (by
  obtain⟨b,hv,hb,hx⟩:=h.sat hh _ hsb;exact⟨b,hv,by rw[hd];exact hb,hx⟩) hl
theorem mvB_sat{X:Nat->Prop}{w0 w:World}{Z:Nat->Value}{hp hp':List SB}{x y:S0}(h:HpSat X w0 w Z hp)(hm:mvB hp x=some (y,hp')) :
  ∃Z',(∀i<hp.length,Z' i=Z i)/\HpSat X w0 w Z' hp'/\y.den Z'=x.den Z/\y.lt hp'.length/\hp'.length=hp.length+1/\∀(i:Nat) (e:Nat) (l:List S0),hp[i]?=some (.cells e l)->hp'[i]?=some (.cells e l):=by
 have core:∀(q:Nat) (sb:SB),hp[q]?=some sb->sb.ex=true->(∀n m,n<=m->sb.lt n->sb.lt m)->(∀e l,sb≠.cells e l)->∃Z',(∀i<hp.length,Z' i=Z i)/\Z' hp.length=Z q/\HpSat X w0 w Z' (hp.set q .dead++[sb]) /\
   ∀(i:Nat) (e:Nat) (l:List S0),hp[i]?=some (.cells e l)->(hp.set q .dead++[sb])[i]?=some (.cells e l):=by
  intro q sb hsb hex hmono hnc;have hql:=(List.getElem?_eq_some_iff.1 hsb).1;have h1:=h.turn q _ .dead hsb (λe=>by cases e) (λk _ _=>rfl) (λ_ _=>rfl) (λ_ _ k _ _ _ _=>rfl) trivial trivial;have hlen:(hp.set q .dead).length=hp.length:=List.length_set;let Z':Nat->Value:=λi=>if i=hp.length then Z q else Z i
  have hat:Z' hp.length=Z q:=by simp[Z']
  have hlt':∀i<hp.length,Z' i=Z i:=λi hi=>by simp only[Z'];rw[if_neg (by omega)]
  have h2:=h1.push (Z':=Z') (w':=w) sb (λi hi=>hlt' i (by omega)) (λk _ _=>rfl) (λ_ _=>rfl) (λ_ _ k _ _ _=>rfl)
   (by rw[hlen,hat];exact SB.sat_ren (h.sat q _ hsb) (h.lt q sb hsb) hlt') (hmono _ _ (by rw[hlen];omega) (h.lt q sb hsb)) (by rw[hlen,hat];exact h.ref q hql) (by
    intro _ b hb i sb' hi hx hf;rw[hlen,hat] at hb;by_cases hih:i=q
    ·subst hih;rw[List.getElem?_set_self hql] at hi;cases hi;cases hx
    ·rw[List.getElem?_set_ne (Ne.symm hih)] at hi;exact h.apart i q sb' _ b hih hi hsb hx hex hf hb)
  refine⟨Z',hlt',hat,h2,λi e l hi=>?_⟩;have hil:=(List.getElem?_eq_some_iff.1 hi).1;have hiq:q≠i:=by
   rintro rfl
   rw[hsb] at hi;exact hnc e l (Option.some.inj hi)
  rw[List.getElem?_append_left (by simpa using hil),List.getElem?_set_ne hiq];exact hi
 unfold mvB at hm;split at hm
 ·rename_i q;split at hm
  ·rename_i t e l hsb;simp only[snJ,Prod.mk.injEq] at hm;obtain⟨rfl,rfl⟩:=hm;obtain⟨Z',a1,a2,a3,a4⟩:=core q _ hsb rfl (λ_ _ _ _=>trivial) (λ_ _ h=>by cases h);exact⟨Z',a1,a3,a2,by simp[S0.lt],by simp,a4⟩
  ·rename_i m hsb;simp only[snJ,Prod.mk.injEq] at hm;obtain⟨rfl,rfl⟩:=hm;obtain⟨Z',a1,a2,a3,a4⟩:=core q _ hsb rfl (λ_ _ _ _=>trivial) (λ_ _ h=>by cases h);exact⟨Z',a1,a3,a2,by simp[S0.lt],by simp,a4⟩
  ·rename_i t l hsb;simp only[snJ,Prod.mk.injEq] at hm;obtain⟨rfl,rfl⟩:=hm;have hql:=(List.getElem?_eq_some_iff.1 hsb).1;obtain⟨Z',a1,a2,a3⟩:=h.more (.view t l) (Z q) (h.ref q hql) (λ_ _=>h.sat q _ hsb) trivial (λhx=>by cases hx);exact⟨Z',a1,a3,a2,by simp[S0.lt],by simp,λi e l hi=>by rw[List.getElem?_append_left (List.getElem?_eq_some_iff.1 hi).1];exact hi⟩
  ·cases hm
 ·rename_i q;split at hm
  ·rename_i ks e l hsb;simp only[snJ,Prod.mk.injEq] at hm;obtain⟨rfl,rfl⟩:=hm;obtain⟨Z',a1,a2,a3,a4⟩:=core q _ hsb rfl (λ_ _ _ _=>trivial) (λ_ _ h=>by cases h);exact⟨Z',a1,a3,congrArg baseV a2,by simp[S0.lt],by simp,a4⟩
  ·cases hm
 ·cases hm
theorem mv_sat{Z:Nat->Value}{S S':QS}{a:Act}{w:World}{d:Nat}{off:Option Nat}(h:SatQ E Z S a w)(hc:mvQ S d off=some S'):∃Z',SatQ E Z' S' a w:=by
 unfold mvQ at hc;split at hc
 ·rename_i hh k hg;split at hc
  ·rename_i e l hsb;split at hc
   ·rename_i x hx;split at hc
    ·rename_i y hp' hm;simp only[snJ] at hc;subst hc;obtain⟨Z',a1,a2,a3,a4,a5,a6⟩:=mvB_sat h.hp hm;have hlt:=h.hp.lt hh _ hsb;have hhl:=(List.getElem?_eq_some_iff.1 hsb).1;have hd:(l.set k y).map (S0.den Z')=l.map (S0.den Z'):=by
      apply List.ext_getElem?;intro i;rw[List.getElem?_map,List.getElem?_map];by_cases hi:i=k
      ·subst hi;rw[List.getElem?_set_self (List.getElem?_eq_some_iff.1 hx).1,hx];simp only[Option.map_some];rw[a3,S0.den_congr a1 (hlt x (List.mem_of_getElem? hx))]
      ·rw[List.getElem?_set_ne (Ne.symm hi)]
     have hl2:∀z∈l.set k y,z.lt hp'.length:=λz hz=>by
      rcases List.mem_or_eq_of_mem_set hz with hz | rfl
      ·exact S0.lt_mono (by omega) (hlt z hz)
      ·exact a4
     refine⟨Z',h.nd,h.sz,λz hz=>?_,h.kn,heap_respell' a2 (a6 hh e l hsb) hd hl2,h.fr,by show E.n0<=(hp'.set hh _).length;have:=h.n0;simp;omega,λi hi=>?_⟩
     ·exact(h.sl z hz).same a1 (by show _<=(hp'.set hh _).length;simp;omega)
     ·rw[a1 i (Nat.lt_of_lt_of_le hi h.n0)];exact h.ag i hi
    ·cases hc
   ·cases hc
  ·cases hc
 ·rename_i x hg;split at hc
  ·rename_i y hp' hm;simp only[snJ] at hc;subst hc;obtain⟨Z',a1,a2,a3,a4,a5,_⟩:=mvB_sat h.hp hm;refine⟨Z',h.nd,h.sz,λz hz=>?_,h.kn,a2,h.fr,by show E.n0<=hp'.length;have:=h.n0;omega,λi hi=>?_⟩
   ·rcases putS_mem hz with rfl | ⟨hz,_⟩
    ·refine⟨λhG=>?_,λhn=>(hn (Hold.nil a)).elim,λ_=>a4⟩;rw[(h.get hg).1 hG];simp only[SV.den,SC.den,a3]
    ·exact(h.sl z hz).same a1 (by show _<=hp'.length;omega)
   ·rw[a1 i (Nat.lt_of_lt_of_le hi h.n0)];exact h.ag i hi
  ·cases hc
 ·cases hc
theorem selfP_den{Z:Nat->Value}{h:Nat}{x y:S0}(hx:selfP h x=some y):y.den Z=x.den Z/\∀n,h<n->y.lt n:=by
 unfold selfP at hx;split at hx
 ·rename_i h';cases hb:Nat.beq h' h with
  | false=>rw[hb] at hx;simp at hx
  | true =>
   rw[hb] at hx;simp only[cnT,snJ] at hx;have:h'=h:=by simpa using hb
   subst hx this;exact⟨rfl,λn hn=>hn⟩
 ·simp only[snJ] at hx;subst hx;exact⟨rfl,λn hn=>hn⟩
 ·rename_i c h';cases hb:Nat.beq h' h with
  | false=>rw[hb] at hx;simp at hx
  | true =>
   rw[hb] at hx;simp only[cnT,snJ] at hx;have:h'=h:=by simpa using hb
   subst hx this;exact⟨rfl,λn hn=>hn⟩
 ·cases hx
theorem qCi{X:Nat->Prop}{w0 w:World}{Z:Nat->Value}{hp:List SB}(h:HpSat X w0 w Z hp){hh e:Nat}{l l':List S0}(hsb:hp[hh]?=some (.cells e l))(hd:l'.map (S0.den Z)=l.map (S0.den Z))(hl:∀y∈l',y.lt hp.length):HpSat X w0 w Z (hp.set hh (.cells e l')) :=
 h.turn hh _ (.cells e l') hsb (λ_=>rfl) (λk _ _=>rfl) (λ_ _=>rfl) (λ_ _ k _ _ _ _=>rfl) (by
  obtain⟨b,hv,hb,hx⟩:=h.sat hh _ hsb;exact⟨b,hv,by rw[hd];exact hb,hx⟩) hl
theorem set_den{Z:Nat->Value}{l:List S0}{k:Nat}{x y:S0}(hx:l[k]?=some x)(hy:y.den Z=x.den Z):(l.set k y).map (S0.den Z)=l.map (S0.den Z):=by
 apply List.ext_getElem?;intro i;rw[List.getElem?_map,List.getElem?_map];by_cases hi:i=k
 ·subst hi;have hlt:=(List.getElem?_eq_some_iff.1 hx).1;rw[List.getElem?_set_self hlt,hx];simp only[Option.map_some,hy]
 ·rw[List.getElem?_set_ne (Ne.symm hi)]
theorem set_lt{n k:Nat}{l:List S0}{y:S0}(hl:∀x∈l,x.lt n)(hy:y.lt n):∀x∈l.set k y,x.lt n:=by
 intro x hx;rcases List.mem_or_eq_of_mem_set hx with h | rfl
 ·exact hl x h
 ·exact hy
theorem self_sat{Z:Nat->Value}{S S':QS}{a:Act}{w:World}{d:Nat}{off:Option Nat}(h:SatQ E Z S a w)(hc:selfQ S d off=some S'):∃Z',SatQ E Z' S' a w:=by
 unfold selfQ at hc;split at hc
 ·rename_i hh k hg;split at hc
  ·rename_i e l hsb;split at hc
   ·rename_i x hx;obtain⟨y,hy,hc⟩:=Option.bind_eq_some_iff.1 hc;simp only[snJ] at hc;subst hc;have hhl:=(List.getElem?_eq_some_iff.1 hsb).1;obtain⟨hd,hl⟩:=selfP_den (Z:=Z) hy;have hp2:=qCi h.hp hsb (set_den hx hd) (set_lt (h.hp.lt hh _ hsb) (hl _ hhl));exact⟨Z,h.nd,h.sz,λz hz=>(h.sl z hz).same (λ_ _=>rfl) (by simp),h.kn,hp2,h.fr,by have:=h.n0;simpa using this,h.ag⟩
   ·cases hc
  ·cases hc
 ·cases hc
theorem thin_sat{Z:Nat->Value}{S S':QS}{a:Act}{w:World}{d:Nat}(h:SatQ E Z S a w)(hc:thinQ S d=some S'):∃Z',SatQ E Z' S' a w:=by
 unfold thinQ at hc;split at hc
 ·rename_i hh hg;split at hc
  ·rename_i t e l hsb;simp only[snJ] at hc;subst hc;have hhl:=(List.getElem?_eq_some_iff.1 hsb).1;obtain⟨h1,h2⟩:=h.hp.sat hh _ hsb;have key:qB5 (Z hh) (Z hh) 0 l.length t.sz/\qBs (Z hh):=by
    rcases h1.2 with⟨hv,hn0⟩ | ⟨g,cap,cur,hv,hbz,hg,hnc,hcm,hcs,htake⟩
    ·exact⟨qB5.of t.sz_pos ⟨none,0,0,none,hv,by rw[hv,hn0],by omega,λhlt=>by omega,λ_=>rfl⟩,by rw[hv];trivial⟩
    ·exact⟨qB5.of t.sz_pos ⟨some ⟨g,0,none⟩,_,cap,_,hv,by rw[hv];rfl,by omega,λhlt=>⟨_,rfl,by simp[Addr.add]⟩,λ_=>rfl⟩,by rw[hv];trivial⟩
   obtain⟨Z1,a1,n1,s1⟩:=h.hp.more .dead (Z hh) key.2 (λ_ _=>trivial) trivial (λhx=>by cases hx);have hl1:(S.hp++[SB.dead]).length=S.hp.length+1:=by simp
   obtain⟨Z2,a2,n2,s2⟩:=s1.more (.part S.hp.length 0 l.length t.sz) (Z hh) key.2 (λZ' hag=>by
    show qB5 (Z' S.hp.length) _ _ _ _;rw[hag S.hp.length (by omega),n1];exact key.1) (by show S.hp.length<_;omega) (λhx=>by cases hx)
   have hag:∀i<S.hp.length,Z2 i=Z i:=λi hi=>(a2 i (by omega)).trans (a1 i hi)
   have hlen:(S.hp++[SB.dead]++[SB.part S.hp.length 0 l.length t.sz]).length=S.hp.length+2:=by simp
   refine⟨Z2,h.nd,h.sz,λx hx=>?_,h.kn,s2,h.fr,by show E.n0<=(S.hp++[SB.dead]++[SB.part S.hp.length 0 l.length t.sz]).length;have:=h.n0;omega,λi hi=>?_⟩
   ·rcases putS_mem hx with rfl | ⟨hx,_⟩
    ·refine⟨λhG=>?_,λhn=>(hn (Hold.nil a)).elim,λ_=>?_⟩
     ·rw[(h.get hg).1 hG];rw[hl1] at n2;simp only[SV.den,SC.den,S0.den,n2]
     ·show S.hp.length+1<(S.hp++[SB.dead]++[SB.part S.hp.length 0 l.length t.sz]).length;omega
    ·exact(h.sl x hx).same hag (by show _<=(S.hp++[SB.dead]++[SB.part S.hp.length 0 l.length t.sz]).length;omega)
   ·rw[hag i (Nat.lt_of_lt_of_le hi h.n0)];exact h.ag i hi
  ·simp only[snJ] at hc;subst hc;exact⟨Z,h⟩
  ·cases hc
 ·cases hc
theorem alias_sat{Z:Nat->Value}{S S':QS}{a:Act}{w:World}{d:Nat}{off:Option Nat}(h:SatQ E Z S a w)(hc:aliasQ S d off=some S'):∃Z',SatQ E Z' S' a w:=by
 unfold aliasQ at hc;split at hc
 ·rename_i hh k hg;split at hc
  ·rename_i e l hsb;split at hc
   ·rename_i q hx;split at hc
    ·rename_i t e' r hq;simp only[snJ] at hc;subst hc;have hhl:=(List.getElem?_eq_some_iff.1 hsb).1;have hql:=(List.getElem?_eq_some_iff.1 hq).1;obtain⟨h1,h2⟩:=h.hp.sat q _ hq;have key:qB5 (Z q) (Z q) 0 r.length t.sz/\qBs (Z q):=by
      rcases h1.2 with⟨hv,hn0⟩ | ⟨g,cap,cur,hv,hbz,hg,hnc,hcm,hcs,htake⟩
      ·exact⟨qB5.of t.sz_pos ⟨none,0,0,none,hv,by rw[hv,hn0],by omega,λhlt=>by omega,λ_=>rfl⟩,by rw[hv];trivial⟩
      ·exact⟨qB5.of t.sz_pos ⟨some ⟨g,0,none⟩,_,cap,_,hv,by rw[hv];rfl,by omega,λhlt=>⟨_,rfl,by simp[Addr.add]⟩,λ_=>rfl⟩,by rw[hv];trivial⟩
     obtain⟨Z1,a1,n1,s1⟩:=h.hp.more (.part q 0 r.length t.sz) (Z q) key.2 (λZ' hag=>by
      show qB5 (Z' q) _ _ _ _;rw[hag q hql];exact key.1) (by show q<_;omega) (λhx=>by cases hx)
     have hlen:(S.hp++[SB.part q 0 r.length t.sz]).length=S.hp.length+1:=by simp
     have hsb1:(S.hp++[SB.part q 0 r.length t.sz])[hh]?=some (.cells e l):=by rw[List.getElem?_append_left hhl];exact hsb
     have hd:S0.den Z1 (.own S.hp.length)=S0.den Z1 (.own q):=by
      show Z1 _=Z1 _;rw[n1,a1 q hql]
     have hlt:∀y∈l.set k (.own S.hp.length),S0.lt (S.hp++[SB.part q 0 r.length t.sz]).length y:=by
      rw[hlen];exact set_lt (λy hy=>S0.lt_mono (Nat.le_succ _) ((h.hp.lt hh _ hsb) y hy)) (Nat.lt_succ_self S.hp.length)
     have hp2:=qCi s1 hsb1 (set_den hx hd) hlt;have hlen2:((S.hp++[SB.part q 0 r.length t.sz]).set hh (.cells e (l.set k (.own S.hp.length)))).length=S.hp.length+1:=by rw[List.length_set,hlen]
     refine⟨Z1,h.nd,h.sz,λz hz=>?_,h.kn,hp2,h.fr,by show E.n0<=((S.hp++[SB.part q 0 r.length t.sz]).set hh (.cells e (l.set k (.own S.hp.length)))).length;have:=h.n0;omega,λi hi=>?_⟩
     ·exact(h.sl z hz).same a1 (by show _<=((S.hp++[SB.part q 0 r.length t.sz]).set hh (.cells e (l.set k (.own S.hp.length)))).length;omega)
     ·rw[a1 i (Nat.lt_of_lt_of_le hi h.n0)];exact h.ag i hi
    ·cases hc
   ·cases hc
  ·cases hc
 ·cases hc
theorem vrow_sat{Z:Nat->Value}{S S':QS}{a:Act}{w:World}{d:Nat}(h:SatQ E Z S a w)(hc:vrowQ S d=some S'):∃Z',SatQ E Z' S' a w:=by
 unfold vrowQ at hc;split at hc
 ·rename_i hh hg;split at hc
  ·rename_i t e l hsb;simp only[snJ] at hc;subst hc;obtain⟨h1,h2⟩:=h.hp.sat hh _ hsb;have hp2:HpSat E.X E.w0 w Z (S.hp.set hh (.vrow t l)):=h.hp.turn hh _ (.vrow t l) hsb (λ_=>rfl) (λk _ _=>rfl) (λ_ _=>rfl) (λ_ _ k _ _ _ _=>rfl) (by
    rcases h1.2 with⟨hv,hn0⟩ | ⟨g,cap,cur,hv,hbz,hg,hnc,hcm,hcs,htake⟩
    ·exact .inl ⟨0,hv,List.eq_nil_of_length_eq_zero hn0⟩
    ·obtain⟨q1,q2,q3⟩:=h.hp.fp_lt3 hsb rfl (k:=g) (by rw[hv];exact List.mem_singleton.2 rfl);exact .inr ⟨g,cap,hv,hnc,λj u hu=>by
      have:=World.ownsRow.cells h1 (g:=g) (by rw[hv];rfl) j u hu;rwa [qAw] at this,q1,q2,q3⟩) trivial
   exact⟨Z,h.nd,h.sz,λz hz=>(h.sl z hz).same (λ_ _=>rfl) (by simp),h.kn,hp2,h.fr,by have:=h.n0;simpa using this,h.ag⟩
  ·simp only[snJ] at hc;subst hc;exact⟨Z,h⟩
  ·cases hc
 ·cases hc
theorem gro_coer{Z:Nat->Value}{S S':QS}{a:Act}{w:World}{d:Nat}(h:SatQ E Z S a w)(hc:groQ S d=some S'):∃Z',SatQ E Z' S' a w:=by
 unfold groQ at hc;split at hc
 ·rename_i hh hg;split at hc
  ·rename_i t e l hsb;simp only[snJ] at hc;subst hc;obtain⟨h1,h2⟩:=h.hp.sat hh _ hsb;have hhl:=(List.getElem?_eq_some_iff.1 hsb).1;have hone:(Z hh).oneCell'=true:=by rcases h1.2 with⟨hu,_⟩ | ⟨b,cap,cur,hu,_⟩ <;> rw[hu] <;> rfl
   have hfp:∀b,b∈fp (bagV (Z hh) [[Z hh]])->b∈fp (Z hh):=λb hb=>by
    rw[fp_bag,List.mem_append] at hb;rcases h1.2 with⟨hv,_⟩ | ⟨g,cap,cur,hv,_⟩
    ·rw[hv] at hb;simp[fpI,fp1] at hb
    ·rw[hv] at hb ⊢;simpa[fpI,fp,fp1] using hb
   obtain⟨Z1,a1,n1,s1⟩:=sb_push (w':=w) h.hp [hh] (.gro t e l l.length hh) (bagV (Z hh) [[Z hh]]) trivial (λ_ _ _=>rfl) (λ_ _=>rfl) (λ_ _ _ _ _ _ _=>rfl) (λZ' hag=>⟨Z hh,by rw[hag hh hhl],h1,h2,Nat.le_refl _,by
    rw[hag hh hhl,List.take_length];rcases h1.2 with⟨hv,hn0⟩ | ⟨g,cap,cur,hv,hbz,hg,hnc,hcm,hcs,htake⟩
    ·exact .inl ⟨0,hv,List.eq_nil_of_length_eq_zero hn0⟩
    ·obtain⟨q1,q2,q3⟩:=h.hp.fp_lt3 hsb rfl (k:=g) (by rw[hv];exact List.mem_singleton.2 rfl);exact .inr ⟨g,cap,hv,hnc,λj u hu=>by
      have:=World.ownsRow.cells h1 (g:=g) (by rw[hv];rfl) j u hu;rwa [qAw] at this,q1,q2,q3⟩⟩) (Nat.lt_succ_of_lt hhl) (λb hb=>.inr ⟨hh,by simp,_,hsb,rfl,hfp b hb⟩)
   have hlen:(S.hp.set hh .dead++[SB.gro t e l l.length hh]).length=S.hp.length+1:=by simp
   refine⟨Z1,h.nd,h.sz,λx hx=>?_,h.kn,s1,h.fr,by show E.n0<=(S.hp.set hh .dead++[SB.gro t e l l.length hh]).length;have:=h.n0;omega,λi hi=>?_⟩
   ·rcases putS_mem hx with rfl | ⟨hx,_⟩
    ·refine⟨λhG=>?_,λhn=>(hn (Hold.nil a)).elim,λ_=>?_⟩
     ·rw[(h.get hg).1 hG];simp only[SV.den,SC.den,S0.den,n1,qAq _ hone]
     ·show S.hp.length<(S.hp.set hh .dead++[SB.gro t e l l.length hh]).length;omega
    ·exact(h.sl x hx).same a1 (by show _<=(S.hp.set hh .dead++[SB.gro t e l l.length hh]).length;omega)
   ·rw[a1 i (Nat.lt_of_lt_of_le hi h.n0)];exact h.ag i hi
  ·cases hc
 ·simp only[snJ] at hc;subst hc;exact⟨Z,h⟩
 ·cases hc
theorem coers_sat{w:World}:∀ {co:List (Nat × Option Nat × ET × Nat)} {Z:Nat->Value} {S S':QS} {a:Act},SatQ E Z S a w->coersQ co S=some S'->∃Z',SatQ E Z' S' a w
 | [],Z,S,S',a,h,hc=>by
  simp only[coersQ,snJ] at hc;subst hc;exact⟨Z,h⟩
 | (d,off,t,e)::r,Z,S,S',a,h,hc=>by
  obtain⟨S1,h1,h2⟩:=Option.bind_eq_some_iff.1 hc;obtain⟨Z1,hs1⟩:∃Z',SatQ E Z' S1 a w:=by
   cases hb7:Nat.ble 7000000 d with
   | true=>rw[hb7] at h1;exact gro_coer h h1
   | false =>
   rw[hb7,cnF] at h1;cases hb6:Nat.ble 6000000 d with
   | true=>rw[hb6] at h1;exact vrow_sat h h1
   | false =>
   rw[hb6,cnF] at h1;cases hb5:Nat.ble 5000000 d with
   | true=>rw[hb5] at h1;exact alias_sat h h1
   | false =>
   rw[hb5,cnF] at h1;cases hb4:Nat.ble 4000000 d with
   | true=>rw[hb4] at h1;exact thin_sat h h1
   | false =>
   rw[hb4,cnF] at h1;cases hb3:Nat.ble 3000000 d with
   | true =>
    rw[hb3] at h1;simp only[cnT,snJ] at h1;subst h1;exact⟨Z,h.nd,h.sz,λz hz=>(h.sl z hz).same (λ_ _=>rfl) (by simp),h.kn,h.hp.kill _,h.fr,by have:=h.n0;simpa using this,h.ag⟩
   | false =>
    rw[hb3] at h1;cases hb2:Nat.ble 2000000 d with
    | true=>rw[hb2] at h1;exact self_sat h h1
    | false =>
     rw[hb2] at h1;cases hb:Nat.ble 1000000 d with
     | true=>rw[hb] at h1;exact mv_sat h h1
     | false=>rw[hb] at h1;exact coer_sat h h1
  exact coers_sat hs1 h2
theorem post_sat{Z:Nat->Value}{S S':QS}{a:Act}{w:World}{co:List (Nat × Option Nat × ET × Nat)}{keep:List Nat}(h:SatQ E Z S a w)(hc:postQ E.n0 co keep S=some S'):∃Z',SatQ E Z' S' a w:=by
 obtain⟨S1,h1,h2⟩:=Option.bind_eq_some_iff.1 hc;obtain⟨Z1,hs1⟩:=coers_sat h h1;exact canon_sat hs1 h2
theorem nod_prune{l0:List (Nat × GL × SV)}(hnod:nodSl l0=true):nodSl (qBh 1000000 0 l0)=true:=by
 have hhas:∀(j:Nat) (l:List (Nat × GL × SV)),hasS j l=false->hasS j (qBh 1000000 0 l)=false:=by
  intro j l;induction l with
  | nil=>intro _;rfl
  | cons x r ih =>
   obtain⟨i,G,v⟩:=x;intro hj;simp only[hasS] at hj;cases hij:Nat.beq i j with
   | true=>rw[hij] at hj;simp at hj
   | false =>
    rw[hij] at hj;have ih':=ih (by simpa using hj);simp only[qBh];cases (bif Nat.blt i 1000000 then true else Nat.beq i 0) with
    | false=>exact ih'
    | true =>
     cases G with
     | nil=>simp only[cnT,hasS,hij,cnF];exact ih'
     | cons g G=>exact ih'
 induction l0 with
 | nil=>rfl
 | cons x r ih =>
  obtain⟨i,G,v⟩:=x;simp only[nodSl] at hnod;cases hh:hasS i r with
  | true=>rw[hh] at hnod;simp at hnod
  | false =>
   rw[hh] at hnod;have ih':=ih (by simpa using hnod);simp only[qBh];cases (bif Nat.blt i 1000000 then true else Nat.beq i 0) with
   | false=>exact ih'
   | true =>
    cases G with
    | nil=>simp only[cnT,nodSl,hhas i r hh,cnF];exact ih'
    | cons g G=>exact ih'
def noPan(Q:Exit->Act->World->Prop):Exit->Act->World->Prop:=λe a w=>Q e a w/\∀c,e≠.panic c
theorem qA8{R:Type}{I:Nat->SubQ}(hJ:∀f C,J f=some C->qAg E.P f C){r:R}:∀(ic:IQ),qCr I J E.n0 nv E.nt ic->∀(S:QS) (kn:QS->Option R) (kx:Nat->QS->Option R) (kr:QS->Option R) (Q:Exit->Act->World->Prop),
  (∀p a w,a.defers=E.df->Stays E.X E.w0 w->kx PANB (panS p)=some r->Q (.panic [{ v:=panV p,recovered:=false }]) a w)->(∀S' Z a w,SatQ E Z S' a w->kn S'=some r->Q .normal a w)->(∀id S' Z a w,Nat.beq id PANB=false->SatQ E Z S' a w->kx id S'=some r->Q (.exit id) a w)->(∀S' Z a w,SatQ E Z S' a w->kr S'=some r->Q .ret a w) ->
  qAy I J E.n0 nv E.nt ic S kn kx kr=some r->∀c,comp E.P raws c=some ic.erase->∀Z a w,SatQ E Z S a w->c.wp E.P Q a w
 | .bad,hso,S,kn,kx,kr,Q,hp,hn,hx,hr,h,c,hc,Z,a,w,hs=>by cases h
 | .skip,hso,S,kn,kx,kr,Q,hp,hn,hx,hr,h,c,hc,Z,a,w,hs=>by
  rcases comp_skip hc with rfl | ⟨l,rfl⟩
  ·exact wp_skip (hn S Z a w hs h)
  ·exact wp_label (hn S Z a w hs h)
 | .reg last none ops,hso,S,kn,kx,kr,Q,hp,hn,hx,hr,h,c,hc,Z,a,w,hs=>by
  obtain⟨id,l,rfl,h1⟩:=comp_reg hc;refine wp_region_list (opsQ_sound hJ (K:=λS'=>kn ⟨qBh nv last S'.sl,[],S'.hp⟩) ?_ hp l.toList ops h1 S Z a w hs h);intro S' Z' a' w' hs' hk;exact hn _ Z' a' w' (hs'.prune last) hk
 | .reg last (some d) ops,hso,S,kn,kx,kr,Q,hp,hn,hx,hr,h,c,hc,Z,a,w,hs=>by
  obtain⟨id,l,is,rfl,h1,hpk,hmo,hok⟩:=comp_regD hc;simp only[qAy] at h;split at h
  ·rename_i hkn;cases hnod:nodSl S.sl with
   | false=>rw[hnod] at h;simp at h
   | true =>
    rw[hnod] at h;simp only[cnT] at h;refine wp_mono (Q:=noPan Q) ?_ λe a w h=>h.1
    refine wp_region_any hmo ?_;have hs1:=hs.prune (nv:=1000000) 0;have hs2:SatQ E Z ⟨qBh 1000000 0 S.sl,[],S.hp⟩ a { w with drawn:=w.drawn+1 }:=⟨hs1.nd,hs1.sz,hs1.sl,hs1.kn,⟨hs1.hp.ref,λi sb hi=>SB.sat_keep (hs1.hp.sat i sb hi) (λ_ _ _=>rfl) (λ_ _=>rfl) (λ_ _ _=>rfl),hs1.hp.lt,hs1.hp.apart,hs1.hp.tab⟩,⟨hs1.fr.os,hs1.fr.output,hs1.fr.size,hs1.fr.block⟩,hs1.n0,hs1.ag⟩
    have hnod2:nodSl (qBh 1000000 0 S.sl)=true:=nod_prune hnod;have hrel:=hs2.relD rfl hnod2 (λx hx=>(qCk hx).2);have hrun:=draw_rel hJ ops [] _ _ (λm hm=>by cases hm) hrel h;have hvalid:∀f C,oldG J f=some C->Valid E.P f C:=λf C hC=>by
     simp only[oldG,Option.map_eq_some_iff] at hC;obtain⟨D,hD,rfl⟩:=hC;exact(hJ f D hD).2.1
    have:=draw_sound (J:=oldG J) (raws:=raws) (nv:=nv) (E:=E) hvalid (Q:=noPan Q) h1 (by simp only[drawOK,Bool.and_eq_true] at hok;exact hok.1) (λc a w h=>h.2 c rfl) (hp0:=S.hp) (Z0:=Z) (λi sb hi=>hs.hp.lt i sb hi)
     (K:=λSo'=>∃S',RelD So' S'/\kn ⟨qBh nv last S'.sl,[],S'.hp⟩=some r)
     (λS' Z' a' w' hs' hv=>by
      obtain⟨S2,hR,hk⟩:=hv;exact⟨hn _ Z' a' w' (hR.sat hs') hk,λc hc=>by cases hc⟩)
     d ops (Array.replicate l.size false) hpk (by simp) (by simp only[drawOK,Bool.and_eq_true] at hok;exact hok.2) (by
      intro j o hj;rw[Array.getD_eq_getD_getElem?,Array.getElem?_replicate] at hj;split at hj <;> simp at hj) _ Z a _ hs2.old (λ_ _=>rfl) (Nat.le_refl _) (Pre.start ⟨hs2.old.hp,hs2.old.fr⟩ λi sb hi=>hs.hp.lt i sb hi) hrun
    have hlen:d.length=l.size:=by
     simp only[drawOK,Bool.and_eq_true] at hok;exact drawAll_len d _ (by simp) hok.2
    have h2:=wpAny_of_L _ _ _ _ this;rw[hlen] at h2;simpa using h2
  ·cases h
 | .regT last t,hso,S,kn,kx,kr,Q,hp,hn,hx,hr,h,c,hc,Z,a,w,hs=>by
  obtain⟨id,l,is,kt,rfl,h1,hpk,hmo,hnsel,hok⟩:=comp_regT hc;simp only[qAy] at h;split at h
  ·rename_i hkn;cases hnod:nodSl S.sl with
   | false=>rw[hnod] at h;simp at h
   | true =>
    rw[hnod] at h;simp only[cnT] at h;refine wp_mono (Q:=noPan Q) ?_ λe a w h=>h.1
    refine wp_region_any hmo ?_;have hs1:=hs.prune (nv:=1000000) 0;have hs2:SatQ E Z ⟨qBh 1000000 0 S.sl,[],S.hp⟩ a { w with drawn:=w.drawn+1 }:=⟨hs1.nd,hs1.sz,hs1.sl,hs1.kn,⟨hs1.hp.ref,λi sb hi=>SB.sat_keep (hs1.hp.sat i sb hi) (λ_ _ _=>rfl) (λ_ _=>rfl) (λ_ _ _=>rfl),hs1.hp.lt,hs1.hp.apart,hs1.hp.tab⟩,⟨hs1.fr.os,hs1.fr.output,hs1.fr.size,hs1.fr.block⟩,hs1.n0,hs1.ag⟩
    have hrel:=hs2.relD rfl (nod_prune hnod) (λx hx=>(qCk hx).2);have hrun:=qB9 hJ t [] _ _ (λm hm=>by cases hm) hrel h;have hvalid:∀f C,oldG J f=some C->Valid E.P f C:=λf C hC=>by
     simp only[oldG,Option.map_eq_some_iff] at hC;obtain⟨D,hD,rfl⟩:=hC;exact(hJ f D hD).2.1
    have:=qD7 (J:=oldG J) (raws:=raws) (nv:=nv) (E:=E) hvalid (Q:=noPan Q) h1 hnsel (λc a w h=>h.2 c rfl) (hp0:=S.hp) (Z0:=Z) (λi sb hi=>hs.hp.lt i sb hi)
     (K:=λSo'=>∃S',RelD So' S'/\kn ⟨qBh nv last S'.sl,[],S'.hp⟩=some r)
     (λS' Z' a' w' hs' hv=>by
      obtain⟨S2,hR,hk⟩:=hv;exact⟨hn _ Z' a' w' (hR.sat hs') hk,λc hc=>by cases hc⟩)
     kt t false (Array.replicate l.size false) hpk (by simp) hok (by
      intro j o hj;rw[Array.getD_eq_getD_getElem?,Array.getElem?_replicate] at hj;split at hj <;> simp at hj) _ Z a _ hs2.old (λ_ _=>rfl) (Nat.le_refl _) (Pre.start ⟨hs2.old.hp,hs2.old.fr⟩ λi sb hi=>hs.hp.lt i sb hi) hrun
    simp only[Bool.false_eq_true,if_false] at this;have hlen:left (Array.replicate l.size false)=l.size:=by
     unfold left;simp[List.countP_replicate]
    have h2:=wpAny_of_L _ _ _ _ this;rw[hlen] at h2;simpa using h2
  ·cases h
 | .regL last d k ops io,hso,S,kn,kx,kr,Q,hp,hn,hx,hr,h,c,hc,Z,a,w,hs=>by
  obtain⟨id,l,is,rfl,h1,hpk,hik,⟨hgn,y,ys,hpv⟩,hmo,hok⟩:=comp_regL hc;simp only[qAy] at h;split at h
  ·rename_i hkn;cases hnod:nodSl S.sl with
   | false=>rw[hnod] at h;simp at h
   | true =>
    rw[hnod] at h;simp only[cnT] at h;refine wp_mono (Q:=noPan Q) ?_ λe a w h=>h.1
    refine wp_region_any hmo ?_;have hs1:=hs.prune (nv:=1000000) 0;have hs2:SatQ E Z ⟨qBh 1000000 0 S.sl,[],S.hp⟩ a { w with drawn:=w.drawn+1 }:=⟨hs1.nd,hs1.sz,hs1.sl,hs1.kn,⟨hs1.hp.ref,λi sb hi=>SB.sat_keep (hs1.hp.sat i sb hi) (λ_ _ _=>rfl) (λ_ _=>rfl) (λ_ _ _=>rfl),hs1.hp.lt,hs1.hp.apart,hs1.hp.tab⟩,⟨hs1.fr.os,hs1.fr.output,hs1.fr.size,hs1.fr.block⟩,hs1.n0,hs1.ag⟩
    have hnod2:nodSl (qBh 1000000 0 S.sl)=true:=nod_prune hnod;have hrel:=hs2.relD rfl hnod2 (λx hx=>(qCk hx).2);have hrun:=draw_rel hJ ops [] _ _ (λm hm=>by cases hm) hrel h;have hvalid:∀f C,oldG J f=some C->Valid E.P f C:=λf C hC=>by
     simp only[oldG,Option.map_eq_some_iff] at hC;obtain⟨D,hD,rfl⟩:=hC;exact(hJ f D hD).2.1
    have:=draw_soundL (J:=oldG J) (raws:=raws) (nv:=nv) (E:=E) hvalid (Q:=noPan Q) h1 (by simp only[drawOK,Bool.and_eq_true] at hok;exact hok.1) (λc a w h=>h.2 c rfl) (hp0:=S.hp) (Z0:=Z) (λi sb hi=>hs.hp.lt i sb hi) hik (by rw[hpv];rfl) (by rw[hpv];rfl) (by rw[hpv];rfl) (by rw[hpv];rfl) hgn
     (K:=λSo'=>∃S',RelD So' S'/\opQ J nv E.nt (λ_=>none) io ⟨qBh 1000000 0 S'.sl,[],S'.hp⟩ (λS2=>kn ⟨qBh nv last S2.sl,[],S2.hp⟩)=some r)
     (λS' Z' a' w' hs' hv o ho=>by
      obtain⟨S2,hR,hk⟩:=hv;obtain⟨io',h3,h4⟩:=opers_at h1 k o (by simpa using ho);rw[hik] at h3;cases h3;obtain⟨raw,hprim⟩:=oper_prim h4;refine opQ_sound hJ (qE6 hs' h4 (act:=True) (by rw[hgn];rfl)).2 hprim (λS3 Z3 a3 w3 hs3 hk3=>?_) (hR.sat hs') (λp w' _ h=>by cases h) hk;exact⟨hn _ Z3 a3 w3 (hs3.prune last) hk3,λc hc=>by cases hc⟩)
     d ops (Array.replicate l.size false) hpk (by simp) (by simp only[drawOK,Bool.and_eq_true] at hok;exact hok.2) (by
      intro j o hj;rw[Array.getD_eq_getD_getElem?,Array.getElem?_replicate] at hj;split at hj <;> simp at hj) _ Z a _ hs2.old (λ_ _=>rfl) (Nat.le_refl _) (Pre.start ⟨hs2.old.hp,hs2.old.fr⟩ λi sb hi=>hs.hp.lt i sb hi) hrun
    have hlen:d.length+1=l.size:=by
     simp only[drawOK,Bool.and_eq_true] at hok;have:=drawAll_len (d++[k]) _ (by simp) hok.2;simpa using this
    have h2:=wpAny_of_L _ _ _ _ this;rw[hlen] at h2;simpa using h2
  ·cases h
 | .seq x y,hso,S,kn,kx,kr,Q,hp,hn,hx,hr,h,c,hc,Z,a,w,hs=>by
  obtain⟨c1,c2,rfl,h1,h2⟩:=comp_seq hc;refine wp_seq (qA8 hJ x hso.1 S (λS'=>qAy I J E.n0 nv E.nt y S' kn kx kr) kx kr (Exit.then (c2.wp E.P Q) Q) hp ?_ hx hr h c1 h1 Z a w hs);intro S' Z' a' w' hs' hk;exact qA8 hJ y hso.2 S' kn kx kr Q hp hn hx hr hk c2 h2 Z' a' w' hs'
 | .cond x y z,hso,S,kn,kx,kr,Q,hp,hn,hx,hr,h,c,hc,Z,a,w,hs=>by
  obtain⟨o,c1,c2,rfl,h1,h2,h3⟩:=comp_cond hc;simp only[qAy] at h;split at h
  ·rename_i t ht;have hold:=hs.old;obtain⟨p,e1,e2⟩:=(read_old hs.hold λi G v hg hG=>⟨Z,(hs.get hg).1 hG⟩).arg (act:=True) (λ_=>Hold.nil a) ht;have he:=(qAc hold.sl trivial h1 e1 e2).1;refine wp_cond_split he (λht=>?_) (λht=>?_)
   ·subst ht;exact qA8 hJ y hso.1 S kn kx kr Q hp hn hx hr h c1 h2 Z a w hs
   ·subst ht;exact qA8 hJ z hso.2 S kn kx kr Q hp hn hx hr h c2 h3 Z a w hs
  ·cases h
 | .block id b,hso,S,kn,kx,kr,Q,hp,hn,hx,hr,h,c,hc,Z,a,w,hs=>by
  obtain⟨c1,rfl,h1⟩:=comp_block hc;simp only[qAy] at h;cases hne:Nat.beq PANB id with
  | true=>rw[hne] at h;cases h
  | false =>
   rw[hne] at h;simp only[cnF] at h;refine wp_block (qA8 hJ b hso S kn (λi S'=>bif Nat.beq i id then kn S' else kx i S') kr (Exit.inBlock id Q) (λp a' w' hd hst hk=>?_) hn ?_ hr h c1 h1 Z a w hs)
   ·rw[hne] at hk;exact hp p a' w' hd hst hk
   ·intro i S' Z' a' w' hib hs' hk;by_cases hi:i=id
    ·subst hi;rw[nbeq.2 rfl] at hk;simpa[Exit.inBlock] using hn S' Z' a' w' hs' hk
    ·rw[qCx hi] at hk;simpa[Exit.inBlock,hi] using hx i S' Z' a' w' hib hs' hk
 | .loop keep b,hso,S,kn,kx,kr,Q,hp,hn,hx,hr,h,c,hc,Z,a,w,hs=>by
  obtain⟨c1,rfl,h1⟩:=comp_loop hc;simp only[qAy] at h;split at h
  ·rename_i S0 hS0;obtain⟨n,hN⟩:=lfp_some h;obtain⟨Z0,hs0⟩:=canon_sat hs hS0;refine wp_loop_ghost (λn a w=>∃S Z,SatQ E Z S a w/\loopN (λS kk=>qAy I J E.n0 nv E.nt b S kk kx kr) (canonQ E.n0 keep) n S=some r) n ⟨S0,Z0,hs0,hN⟩ ?_;rintro n a w ⟨S1,Z1,hs1,hl⟩
   cases n with
   | zero=>cases hl
   | succ n =>
    simp only[loopN] at hl;refine qA8 hJ b hso S1 _ kx kr (Exit.then (λa' w'=>∃n',n'<n+1/\∃S Z,SatQ E Z S a' w'/\loopN (λS kk=>qAy I J E.n0 nv E.nt b S kk kx kr) (canonQ E.n0 keep) n' S=some r) Q) hp ?_ hx hr hl c1 h1 Z1 a w hs1;intro S2 Z2 a2 w2 hs2 hk;obtain⟨S3,hS3,hk⟩:=Option.bind_eq_some_iff.1 hk;obtain⟨Z3,hs3⟩:=canon_sat hs2 hS3;exact⟨n,Nat.lt_succ_self n,S3,Z3,hs3,hk⟩
  ·cases h
 | .unroll m b,hso,S,kn,kx,kr,Q,hp,hn,hx,hr,h,c,hc,Z,a,w,hs=>by
  obtain⟨c1,rfl,h1⟩:=comp_loop hc;simp only[qAy] at h;refine wp_loop_ghost (λn a w=>∃S Z,SatQ E Z S a w/\loopN (λS kk=>qAy I J E.n0 nv E.nt b S kk kx kr) some n S=some r) m ⟨S,Z,hs,h⟩ ?_;rintro n a w ⟨S1,Z1,hs1,hl⟩
  cases n with
  | zero=>cases hl
  | succ n =>
   simp only[loopN] at hl;refine qA8 hJ b hso S1 _ kx kr (Exit.then (λa' w'=>∃n',n'<n+1/\∃S Z,SatQ E Z S a' w'/\loopN (λS kk=>qAy I J E.n0 nv E.nt b S kk kx kr) some n' S=some r) Q) hp ?_ hx hr hl c1 h1 Z1 a w hs1;intro S2 Z2 a2 w2 hs2 hk;exact⟨n,Nat.lt_succ_self n,S2,Z2,hs2,hk⟩
 | .exit id,hso,S,kn,kx,kr,Q,hp,hn,hx,hr,h,c,hc,Z,a,w,hs=>by
  cases comp_exit hc;simp only[qAy] at h;cases hne:Nat.beq id PANB with
  | true=>rw[hne] at h;cases h
  | false =>
   rw[hne] at h;exact wp_exit (hx id S Z a w hne hs h)
 | .ret,hso,S,kn,kx,kr,Q,hp,hn,hx,hr,h,c,hc,Z,a,w,hs=>by
  cases comp_ret hc;exact wp_ret (hr S Z a w hs h)
 | .canon co keep b,hso,S,kn,kx,kr,Q,hp,hn,hx,hr,h,c,hc,Z,a,w,hs=>by
  simp only[qAy] at h;obtain⟨S2,hS2,hk⟩:=Option.bind_eq_some_iff.1 h;obtain⟨Z2,hs2⟩:=post_sat hs hS2;exact qA8 hJ b hso S2 kn kx kr Q hp hn hx hr hk c hc Z2 a w hs2
 | .join co keep b,hso,S,kn,kx,kr,Q,hp,hn,hx,hr,h,c,hc,Z,a,w,hs=>by
  refine qA8 hJ b hso S _ kx kr Q hp ?_ hx hr h c hc Z a w hs;intro S1 Z1 a1 w1 hs1 hk;obtain⟨S2,hS2,hk⟩:=Option.bind_eq_some_iff.1 hk;obtain⟨Z2,hs2⟩:=post_sat hs1 hS2;exact hn S2 Z2 a1 w1 hs2 hk
 | .sub i b,hso,S,kn,kx,kr,Q,hp,hn,hx,hr,h,c,hc,Z,a,w,hs=>by
  simp only[qAy] at h;exact qA8 hJ b hso.2 S kn kx kr Q hp hn hx hr (hso.1 S R kn kx kr r h) c hc Z a w hs
end
def rvQ(S:QS):RV->Option SC
 | .tmp t=>match getQ S.sl t with
  | some ([],.c x)=>some x
  | _=>none
 | .cell a n=>match getQ S.sl a with
  | some ([],.c (.o (.hd h off)))=>match S.hp[h]? with
   | some (.cells _ l)=>match n with
    | none=>match l[off]? with
     | some x=>some (.o x)
     | none=>none
    | some m=>bif Nat.ble (off+m) l.length then some (.agg (qBg l off m)) else none
   | _=>none
  | _=>none
def resQ(S:QS):List RV->Option (List SC)
 | []=>some []
 | x::r=>match rvQ S x,resQ S r with
  | some v,some l=>some (v::l)
  | _,_=>none
section
variable {R:Type}
noncomputable def finQ(n0:Nat)(rv:List RV)(S:QS)(k:SV->List SB->Option R):Option R :=
 match resQ S rv with
 | some l =>
  let Y:=closeH S.hp 60 0 (hsCs l (List.range n0))
  bif(bif qDh Y then(bif headOK n0 0 Y then inCs Y l else false) else false) then(match mvHp S.hp Y Y with
   | some hp'=>k (mkRes (mvCs Y l)) hp'
   | none=>none) else none
 | none=>none
def argSlQ:Nat->List SV->List (Nat × GL × SV)
 | _,[]=>[]
 | i,v::r=>(i,[],v)::argSlQ (i+1) r
noncomputable def fnQ(I:Nat->SubQ)(J:Nat->Option CQ)(nv nt:Nat)(ic:IQ)(rv:List RV)(args:List SV)(hp:List SB)(k:SV->List SB->Option R):Option R :=
 qAy I J hp.length nv nt ic ⟨argSlQ 0 args,[],hp⟩ (λS=>finQ hp.length rv S k) (λ_ _=>none) (λS=>finQ hp.length rv S k)
end
theorem rvQ_rel{S:QS}{a:Act}{x:RV}{v:SC}(h:rvQ S x=some v):∃p,rvE (qDq S a) x=some (p,v)/\p:=by
 cases x with
 | tmp t =>
  simp only[rvQ] at h;split at h
  ·rename_i y hg;simp only[snJ] at h;subst h;exact⟨_,by simp only[rvE,qDq,qEj,hg,Option.map_some],Hold.nil a⟩
  ·cases h
 | cell c n =>
  simp only[rvQ] at h;split at h
  ·rename_i hh off hg;split at h
   ·rename_i e l hsb;have hsb':(qDq S a).hp[hh]?=some (.cells e l):=hsb;cases n with
    | none =>
     simp only at h;split at h
     ·rename_i y hy;simp only[snJ] at h;subst h;exact⟨_,by simp only[rvE,qDq,qEj,hg,Option.map_some,hsb,hy],Hold.nil a⟩
     ·cases h
    | some m =>
     simp only at h;cases hb:Nat.ble (off+m) l.length with
     | false=>rw[hb] at h;simp at h
     | true =>
      rw[hb] at h;simp only[cnT,snJ] at h;subst h;exact⟨_,by simp only[rvE,qDq,qEj,hg,Option.map_some,hsb,hb,cnT],Hold.nil a⟩
   ·cases h
  ·cases h
theorem resQ_rel{S:QS}{a:Act}:∀ {rv:List RV} {l:List SC},resQ S rv=some l->∃p,resE (qDq S a) rv=some (p,l)/\p
 | [],l,h=>by
  simp only[resQ,snJ] at h;subst h;exact⟨True,rfl,tV⟩
 | x::r,l,h=>by
  simp only[resQ] at h;split at h
  ·rename_i v m h1 h2;simp only[snJ] at h;subst h;obtain⟨p,e1,e2⟩:=rvQ_rel (a:=a) h1;obtain⟨q,e3,e4⟩:=resQ_rel (a:=a) h2;exact⟨p/\q,by simp only[resE,e1,e3],e2,e4⟩
  ·cases h
theorem mkRes_mv{Y:List Nat}{Z:Nat->Value}{l:List SC}(h:inCs Y l=true):(mkRes (mvCs Y l)).den (λi=>Z (Y.getD i 0))=(mkRes l).den Z/\(mkRes (mvCs Y l)).lt Y.length:=by
 have hi:=inCs_iff h;rcases l with _ | ⟨x,_ | ⟨y,r⟩⟩
 ·exact⟨rfl,λv hv=>by simp[mvCs] at hv⟩
 ·exact⟨SC.mv_den (hi x (by simp)),SC.mv_lt (hi x (by simp))⟩
 ·have h1:(SV.tup (x::y::r)).inB Y=true:=h;exact⟨SV.mv_den h1,SV.mv_lt h1⟩
theorem fn_soundK{P:Program}{f:Nat}{raws:List Nat}{ic:IQ}{rv:List RV}{nt:Nat}(hc:chk P f raws=some (ic.erase,rv,nt))(nv:Nat){I:Nat->SubQ}{J:Nat->Option CQ}(hJ:∀f C,J f=some C->qAg P f C)
  {args:List SV} {hp:List SB} (hso:qCr I J hp.length nv nt ic) (hal:args.length<=nt) {X:Nat->Prop} {w0 w:World} {Z:Nat->Value} (hhp:HpSat X w0 w Z hp) (hst:Stays X w0 w) (hlt:∀v∈args,v.lt hp.length) {R:Type} {k:SV->List SB->Option R} {r:R}
  (h:fnQ I J nv nt ic rv args hp k=some r) :
  Calls P f (args.map (SV.den Z)).toArray w λe w'=>∃v hp' Z',(∀i<hp.length,Z' i=Z i)/\hp.length<=hp'.length/\e=.returned (v.den Z')/\v.lt hp'.length/\HpSat X w0 w' Z' hp'/\Stays X w0 w'/\k v hp'=some r:=by
 unfold chk at hc;split at hc
 ·rename_i fn hf;split at hc
  ·rename_i c hb;split at hc
   ·rename_i ic' rv' hcc hrr;simp only[snJ,Prod.mk.injEq] at hc;obtain⟨rfl,rfl,hnt⟩:=hc;refine calls_of_wp hf hb ?_;have hs:SatQ ⟨P,nt,X,w0,hp.length,Z,[]⟩ Z ⟨argSlQ 0 args,[],hp⟩ { tmps:=(args.map (SV.den Z)).toArray++Array.replicate (fn.ntmps - (args.map (SV.den Z)).toArray.size) undef,defers:=[] } w:=by
     refine⟨rfl,?_,?_,λg hg=>by simp at hg,hhp,hst,Nat.le_refl _,λ_ _=>rfl⟩
     ·simp[hnt];omega
     ·have key:∀(l:List SV) (n:Nat) (x:Nat × GL × SV),x∈argSlQ n l->x.2.1=[]/\n<=x.1/\l[x.1 - n]?=some x.2.2:=by
       intro l;induction l with
       | nil=>intro n x hx;simp[argSlQ] at hx
       | cons v r ih =>
        intro n x hx;simp only[argSlQ,List.mem_cons] at hx;rcases hx with rfl | hx
        ·exact⟨rfl,Nat.le_refl _,by simp⟩
        ·obtain⟨h1,h2,h3⟩:=ih (n+1) x hx;refine⟨h1,by omega,?_⟩;rw[show x.1 - n=(x.1 - (n+1))+1 by omega];simpa using h3
      intro x hx;obtain⟨h1,_,h3⟩:=key args 0 x hx;simp only[Nat.sub_zero] at h3;have hlt':x.1<args.length:=(List.getElem?_eq_some_iff.1 h3).1;refine⟨λ_=>?_,λhn=>(hn (by rw[h1];exact Hold.nil _)).elim,λ_=>hlt _ (List.mem_of_getElem? h3)⟩;rw[Array.getElem?_append_left (by simpa using hlt')];simp[h3]
    have main:∀a w' S' Z',SatQ ⟨P,nt,X,w0,hp.length,Z,[]⟩ Z' S' a w'->finQ hp.length rv' S' k=some r ->
      a.defers=[]/\∃v1,(results fn a.tmps).run P w'=.ok v1 w'/\∃v hp' Z',(∀i<hp.length,Z' i=Z i)/\hp.length<=hp'.length/\Ending.returned v1=.returned (v.den Z')/\v.lt hp'.length/\HpSat X w0 w' Z' hp'/\Stays X w0 w'/\k v hp'=some r:=by
     intro a w' S' Z' hs' hfin;unfold finQ at hfin;split at hfin
     ·rename_i l hres;simp only at hfin;generalize hY:closeH S'.hp 60 0 (hsCs l (List.range hp.length))=Y at hfin
      cases hn:qDh Y with
      | false=>rw[hn] at hfin;simp at hfin
      | true =>
       rw[hn] at hfin;simp only[cnT] at hfin;cases hh:headOK hp.length 0 Y with
       | false=>rw[hh] at hfin;simp at hfin
       | true =>
        rw[hh] at hfin;simp only[cnT] at hfin;cases hin:inCs Y l with
        | false=>rw[hin] at hfin;simp at hfin
        | true =>
         rw[hin] at hfin;simp only[cnT] at hfin;split at hfin
         ·rename_i hp2 hmv;obtain⟨p,r1,r2⟩:=resQ_rel (a:=a) hres;obtain⟨e1,e2⟩:=results_run hs'.old hrr r1 r2;obtain⟨g1,g2⟩:=heap_mv hs'.hp hn hmv;obtain⟨k1,k2⟩:=headOK_spec hh;obtain⟨m1,m2⟩:=mkRes_mv (Z:=Z') hin;refine⟨hs'.nd,_,e1,_,_,λi=>Z' (Y.getD i 0),λi hi=>?_,by omega,by rw[m1],by rw[g2];exact m2,g1,hs'.fr,hfin⟩;have:=k2 i (by omega) hi;simp only[Nat.sub_zero] at this;simp only[this];exact hs'.ag i hi
         ·cases hfin
     ·cases hfin
    refine qA8 (E:=⟨P,nt,X,w0,hp.length,Z,[]⟩) (nv:=nv) hJ ic hso _ _ _ _ (bodyPost P fn _) ?_ ?_ ?_ ?_ h c hcc Z _ w hs
    ·exact λp a w' hd hst hk=>by cases hk
    ·exact λS' Z' a w' hs' hk=>main a w' S' Z' hs' hk
    ·exact λid S' Z' a w' hne hs' hk=>by cases hk
    ·exact λS' Z' a w' hs' hk=>main a w' S' Z' hs' hk
   ·cases hc
  ·cases hc
 ·cases hc
theorem fn_sound{P:Program}{f:Nat}{raws:List Nat}{ic:IQ}{rv:List RV}{nt:Nat}(hc:chk P f raws=some (ic.erase,rv,nt))(nv:Nat){I:Nat->SubQ}{J:Nat->Option CQ}(hJ:∀f C,J f=some C->qAg P f C)
  {args:List SV} {hp:List SB} (hso:qCr I J hp.length nv nt ic) (hal:args.length<=nt) {X:Nat->Prop} {w:World} {Z:Nat->Value} (hhp:HpSat X w w Z hp) (hlt:∀v∈args,v.lt hp.length) {v:SV} {hp':List SB}
  (h:fnQ I J nv nt ic rv args hp (λv hp'=>some (v,hp'))=some (v,hp')) :
  Calls P f (args.map (SV.den Z)).toArray w λe w'=>∃Z',(∀i<hp.length,Z' i=Z i)/\hp.length<=hp'.length/\e=.returned (v.den Z')/\v.lt hp'.length/\HpSat X w w' Z' hp'/\Stays X w w':=by
 refine(fn_soundK hc nv hJ hso hal hhp (Stays.refl _ _) hlt h).mono ?_;rintro e w' ⟨v2,hp2,Z',h1,h2,h3,h4,h5,h6,h7⟩
 simp only[snJ,Prod.mk.injEq] at h7;obtain⟨rfl,rfl⟩:=h7;exact⟨Z',h1,h2,h3,h4,h5,h6⟩
noncomputable def inlQ(J:Nat->Option CQ)(nv nt:Nat)(ic:IQ)(rv:List RV):CQ:=.inl λargs hp R k=>bif Nat.ble args.length nt then fnQ (λ_ _ _ _ _ _=>none) J nv nt ic rv args hp k else none
def bodyB(P:Program)(f:Nat):Bool:=match P.funcs[f]? with
 | some fn=>fn.body.isSome && fn.name != "runtime.NumGoroutine"
 | none=>false
theorem bodyB_ok{P:Program}{f:Nat}(h:bodyB P f=true):BodyOK P f:=by
 unfold bodyB at h;split at h
 ·rename_i fn hf;rw[Bool.and_eq_true] at h;exact⟨fn,hf,h.1,by simpa using h.2⟩
 ·cases h
theorem inl_intro{P:Program}{f:Nat}{C:List SV->List SB->(R:Type)->(SV->List SB->Option R)->Option R}(hb:BodyOK P f)(h:∀(args:List SV) (hp:List SB) (R:Type) (k:SV->List SB->Option R) (r:R),C args hp R k=some r->(∀v∈args,v.lt hp.length)->∀(X:Nat->Prop) (w0 w:World) (Z:Nat->Value),HpSat X w0 w Z hp->Stays X w0 w ->
   Calls P f (args.map (SV.den Z)).toArray w λe w'=>∃v hp' Z',(∀i<hp.length,Z' i=Z i)/\hp.length<=hp'.length/\e=.returned (v.den Z')/\v.lt hp'.length/\HpSat X w0 w' Z' hp'/\Stays X w0 w'/\k v hp'=some r):qAg P f (.inl C):=by
 have h1:Valid P f (oldC (.inl C)):=λargs hp p r q h=>by cases h
 have h2:anyQ P f (.inl C):=⟨hb,h⟩;exact⟨trivial,h1,h2⟩
theorem inl_valid{P:Program}{f:Nat}{raws:List Nat}{ic:IQ}{rv:List RV}{nt:Nat}(hc:chk P f raws=some (ic.erase,rv,nt))(hb:bodyB P f=true)(nv:Nat){J:Nat->Option CQ}(hJ:∀f C,J f=some C->qAg P f C)(hs:subsL ic=[]):qAg P f (inlQ J nv nt ic rv):=by
 refine inl_intro (bodyB_ok hb) λargs hp R k r h hlt X w0 w Z hhp hst=>?_
 cases hal:Nat.ble args.length nt with
 | false=>rw[hal] at h;cases h
 | true =>
  rw[hal] at h;exact fn_soundK hc nv hJ (qCs (by rw[hs];trivial)) (Nat.le_of_ble_eq_true hal) hhp hst hlt h
end Go.Eng
