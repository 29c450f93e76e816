/-
  Texts of a claim.
-/
import Derived.Test.YtbokbmjcodoccabDoorDecRel
namespace Go.Eng
set_option linter.unusedVariables false
set_option linter.unusedSimpArgs false
def prep1(i:Nat)(off:Option Nat)(w:Option (ET × Nat))(args:List SV)(hp:List SB):Option (List SV × List SB) :=
 match args[i]?,off,w with
 | some (.c (.o (.hd h 0))),some k,w=>match hp[h]? with
  | some (.cells e' l)=>match l[k]? with
   | some x=>match w with
    | some (t,e)=>bif nilK t x then some (args,hp.set h (.cells e' (l.set k (nilH t hp.length)))++[nilSB t e]) else some (args,hp)
    | none=>(selfP h x).bind λy=>some (args,hp.set h (.cells e' (l.set k y)))
   | none=>none
  | _=>none
 | some (.c (.o x)),none,some (t,e)=>bif nilK t x then some (args.set i (.c (.o (nilH t hp.length))),hp++[nilSB t e]) else some (args,hp)
 | some (.c (.agg l)),some k,some (t,e)=>match l[k]? with
  | some x=>bif nilK t x then some (args.set i (.c (.agg (l.set k (nilH t hp.length)))),hp++[nilSB t e]) else some (args,hp)
  | none=>none
 | _,_,_=>none
def prepA:List (Nat × Option Nat × Option (ET × Nat))->List SV->List SB->Option (List SV × List SB)
 | [],args,hp=>some (args,hp)
 | (i,off,w)::r,args,hp=>match prep1 i off w args hp with
  | some (args',hp')=>prepA r args' hp'
  | none=>none
def qB7(pre:List (Nat × Option Nat × Option (ET × Nat))):CQ->CQ
 | .quiet C=>.quiet λargs hp R k=>match prepA pre args hp with
  | some (args',hp')=>C args' hp' R k
  | none=>none
 | .loud C=>.loud λargs hp R k=>match prepA pre args hp with
  | some (args',hp')=>C args' hp' R k
  | none=>none
 | .any C=>.any λargs hp=>match prepA pre args hp with
  | some (args',hp')=>C args' hp'
  | none=>none
 | .pan C=>.pan λargs hp R k kp=>match prepA pre args hp with
  | some (args',hp')=>C args' hp' R k kp
  | none=>none
 | .inl C=>.inl C
def LtH(hp:List SB):Prop:=∀(h:Nat) (sb:SB),hp[h]?=some sb->sb.lt hp.length
def PrepOK(args:List SV)(hp:List SB)(args':List SV)(hp':List SB):Prop :=
 (∀v∈args',v.lt hp'.length)/\hp.length<=hp'.length/\∀(X:Nat->Prop) (w0 w:World) (Z:Nat->Value),HpSat X w0 w Z hp->∃Z',(∀i<hp.length,Z' i=Z i)/\args'.map (SV.den Z')=args.map (SV.den Z)/\HpSat X w0 w Z' hp'/\∀w1,HpSat X w0 w1 Z' hp'->HpSat X w0 w1 Z hp
theorem PrepOK.refl{args:List SV}{hp:List SB}(h:∀v∈args,v.lt hp.length):PrepOK args hp args hp :=
 ⟨h,Nat.le_refl _,λX w0 w Z hh=>⟨Z,λ_ _=>rfl,rfl,hh,λ_ h=>h⟩⟩
theorem PrepOK.trans{a b c:List SV}{hp hp' hp'':List SB}(h:PrepOK a hp b hp')(h':PrepOK b hp' c hp''):PrepOK a hp c hp'':=by
 obtain⟨_,h2,h3⟩:=h;obtain⟨h4,h5,h6⟩:=h';refine⟨h4,by omega,λX w0 w Z hh=>?_⟩;obtain⟨Z',a1,a2,a3,a4⟩:=h3 X w0 w Z hh;obtain⟨Z'',b1,b2,b3,b4⟩:=h6 X w0 w Z' a3;exact⟨Z'',λi hi=>(b1 i (by omega)).trans (a1 i hi),b2.trans a2,b3,λw1 h=>a4 w1 (b4 w1 h)⟩
theorem map_set_den{Z Z':Nat->Value}{args:List SV}{i n:Nat}{v u:SV}(hi:args[i]?=some v)(hd:u.den Z'=v.den Z)(hl:∀x∈args,x.lt n)(ha:∀j<n,Z' j=Z j):(args.set i u).map (SV.den Z')=args.map (SV.den Z):=by
 apply List.ext_getElem?;intro j;rw[List.getElem?_map,List.getElem?_map];by_cases hj:j=i
 ·subst hj;rw[List.getElem?_set_self (List.getElem?_eq_some_iff.1 hi).1,hi];simp only[Option.map_some,hd]
 ·rw[List.getElem?_set_ne (Ne.symm hj)];cases h:args[j]? with
  | none=>rfl
  | some y =>
   simp only[Option.map_some];rw[SV.den_congr ha (hl y (List.mem_of_getElem? h))]
theorem map_den_congr{Z Z':Nat->Value}{args:List SV}{n:Nat}(hl:∀x∈args,x.lt n)(ha:∀j<n,Z' j=Z j):args.map (SV.den Z')=args.map (SV.den Z) :=
 List.map_congr_left λy hy=>SV.den_congr ha (hl y hy)
theorem prep1_ok{i:Nat}{off:Option Nat}{w:Option (ET × Nat)}{args args':List SV}{hp hp':List SB}(h:prep1 i off w args hp=some (args',hp'))(hl:∀v∈args,v.lt hp.length):PrepOK args hp args' hp':=by
 have stay:∀ {x:Option (List SV × List SB)},x=some (args,hp)->x=some (args',hp')->PrepOK args hp args' hp':=λh1 h2=>by
  rw[h1] at h2;simp only[snJ,Prod.mk.injEq] at h2;obtain⟨rfl,rfl⟩:=h2;exact .refl hl
 have lt1:∀v∈args,v.lt (hp.length+1):=λv hv=>SV.lt_mono (Nat.le_succ _) (hl v hv)
 have back:∀(X:Nat->Prop) (w0 w1:World) (Z:Nat->Value) (t:ET) (e:Nat),LtH hp->HpSat X w0 w1 (nilZT t hp.length Z) (hp++[nilSB t e])->HpSat X w0 w1 Z hp:=λX w0 w1 Z t e hlt hh =>
  hh.init hlt λi hi=>qDt i hi
 unfold prep1 at h;split at h
 ·rename_i hh k hi;have hiL:=hl _ (List.mem_of_getElem? hi);split at h
  ·rename_i e' l hsb;split at h
   ·rename_i x hx;have hhl:=(List.getElem?_eq_some_iff.1 hsb).1;split at h
    ·rename_i t e;cases hn:nilK t x with
     | false=>rw[hn] at h;exact stay rfl h
     | true =>
      rw[hn] at h;simp only[cnT,snJ,Prod.mk.injEq] at h;obtain⟨rfl,rfl⟩:=h;refine⟨by simpa using lt1,by simp,λX w0 w Z hs=>?_⟩;have hlt:=hs.lt hh _ hsb;have hsb':(hp++[nilSB t e])[hh]?=some (.cells e' l):=by rw[List.getElem?_append_left hhl];exact hsb
      have fwd:∀w1,HpSat X w0 w1 (nilZT t hp.length Z) (hp++[nilSB t e])->HpSat X w0 w1 (nilZT t hp.length Z) (hp.set hh (.cells e' (l.set k (nilH t hp.length)))++[nilSB t e]):=λw1 h1=>by
       have:=qDj h1 hsb' (l':=l.set k (nilH t hp.length)) (by
        rw[qEu hx hn hlt];exact(List.map_congr_left λy hy=>S0.den_congr qDt (hlt y hy)).symm) (by
        have:=set_nilT_lt (k:=k) (t:=t) hlt;simpa using this)
       rwa [List.set_append_left _ _ hhl] at this
      refine⟨nilZT t hp.length Z,qDt,map_den_congr hl qDt,fwd w (qG9 hn hs e),λw1 h1=>?_⟩;have h2:(hp.set hh (.cells e' (l.set k (nilH t hp.length)))++[nilSB t e])[hh]?=some (.cells e' (l.set k (nilH t hp.length))):=by
       rw[List.getElem?_append_left (by simpa using hhl),List.getElem?_set_self hhl]
      have h3:=qDj h1 h2 (l':=l) (by
       rw[qEu hx hn hlt];exact List.map_congr_left λy hy=>S0.den_congr qDt (hlt y hy)) (λy hy=>S0.lt_mono (by simp) (hlt y hy))
      rw[List.set_append_left _ _ (by simpa using hhl),List.set_set,(by
       apply List.ext_getElem?;intro j;by_cases hj:j=hh
       ·subst hj;rw[List.getElem?_set_self hhl,hsb]
       ·rw[List.getElem?_set_ne (Ne.symm hj)]:hp.set hh (.cells e' l)=hp)] at h3
      exact back X w0 w1 Z t e hs.lt h3
    ·obtain⟨y,hy,h⟩:=Option.bind_eq_some_iff.1 h;simp only[snJ,Prod.mk.injEq] at h;obtain⟨rfl,rfl⟩:=h;refine⟨by simpa using hl,by simp,λX w0 w Z hs=>?_⟩;obtain⟨hd,hyl⟩:=selfP_den (Z:=Z) hy;have hlt:=hs.lt hh _ hsb;refine⟨Z,λ_ _=>rfl,rfl,qDj hs hsb (set_den hx hd) (set_lt hlt (hyl _ hhl)),λw1 h1=>?_⟩;have h2:(hp.set hh (.cells e' (l.set k y)))[hh]?=some (.cells e' (l.set k y)):=List.getElem?_set_self hhl;have h3:=qDj h1 h2 (l':=l) (set_den hx hd).symm (λy hy=>by simpa using hlt y hy);rwa [List.set_set,(by
      apply List.ext_getElem?;intro j;by_cases hj:j=hh
      ·subst hj;rw[List.getElem?_set_self hhl,hsb]
      ·rw[List.getElem?_set_ne (Ne.symm hj)]:hp.set hh (.cells e' l)=hp)] at h3
   ·cases h
  ·cases h
 ·rename_i x t e hi;cases hn:nilK t x with
  | false=>rw[hn] at h;exact stay rfl h
  | true =>
   rw[hn] at h;simp only[cnT,snJ,Prod.mk.injEq] at h;obtain⟨rfl,rfl⟩:=h;refine⟨λv hv=>?_,by simp,λX w0 w Z hs=>⟨nilZT t hp.length Z,qDt,?_,qG9 hn hs e,λw1 h1=>back X w0 w1 Z t e hs.lt h1⟩⟩
   ·rcases List.mem_or_eq_of_mem_set hv with h | rfl
    ·simpa using lt1 v h
    ·have:=nilH_lt t hp.length;simpa[SV.lt,SC.lt] using this
   ·refine map_set_den hi ?_ hl qDt;simp only[SV.den,SC.den,nilT_den hn]
 ·rename_i l k t e hi;split at h
  ·rename_i x hx;cases hn:nilK t x with
   | false=>rw[hn] at h;exact stay rfl h
   | true =>
    rw[hn] at h;simp only[cnT,snJ,Prod.mk.injEq] at h;obtain⟨rfl,rfl⟩:=h;have hlt:=hl _ (List.mem_of_getElem? hi);refine⟨λv hv=>?_,by simp,λX w0 w Z hs=>⟨nilZT t hp.length Z,qDt,?_,qG9 hn hs e,λw1 h1=>back X w0 w1 Z t e hs.lt h1⟩⟩
    ·rcases List.mem_or_eq_of_mem_set hv with h | rfl
     ·simpa using lt1 v h
     ·have:=set_nilT_lt (k:=k) (t:=t) hlt;show ∀y∈_,S0.lt _ y;simpa using this
    ·refine map_set_den hi ?_ hl qDt;simp only[SV.den,SC.den];rw[qEu hx hn hlt]
  ·cases h
 ·cases h
theorem prepA_ok:∀ {pre:List (Nat × Option Nat × Option (ET × Nat))} {args args':List SV} {hp hp':List SB},prepA pre args hp=some (args',hp')->(∀v∈args,v.lt hp.length)->PrepOK args hp args' hp'
 | [],args,args',hp,hp',h,hl=>by
  simp only[prepA,snJ,Prod.mk.injEq] at h;obtain⟨rfl,rfl⟩:=h;exact .refl hl
 | (i,off,w)::r,args,args',hp,hp',h,hl=>by
  simp only[prepA] at h;split at h
  ·rename_i a1 h1 heq;have:=prep1_ok heq hl;exact this.trans (prepA_ok h this.1)
  ·cases h
theorem prep_loudG{P:Program}{f:Nat}{deep:Bool}{pre:List (Nat × Option Nat × Option (ET × Nat))}{modes:List Bool}{C:CS}(h:qAi P f C):qAg P f (qB7 pre (liftG deep modes C)):=by
 obtain⟨hnat,hval,hany⟩:=liftG_valid (deep:=deep) (modes:=modes) h;refine⟨λargs hp R k r hr=>?_,λargs hp p r q hq hpp hl=>?_,tV⟩
 ·simp only at hr ⊢;cases h1:prepA pre args hp with
  | none=>rw[h1] at hr;cases hr
  | some x =>
   obtain⟨a',hp'⟩:=x;rw[h1] at hr;simp only at hr ⊢;exact hnat a' hp' R k r hr
 ·simp only[oldC,liftG,qB7] at hq;cases h1:prepA pre args hp with
  | none=>rw[h1] at hq;cases hq
  | some x =>
   obtain⟨a',hp'⟩:=x;rw[h1] at hq;obtain⟨g1,g2,g3⟩:=prepA_ok h1 hl;have:=hval a' hp' p r q hq hpp g1;cases q with
   | none =>
    exfalso;simp only at hq;split at hq <;> cases hq
   | some hp2 =>
    obtain⟨k1,k2,k3⟩:=this;refine⟨k1,by omega,λX w0 w Z hs hf=>?_⟩;obtain⟨Z',a1,a2,a3,a4⟩:=g3 X w0 w Z hs;have:=k3 X w0 w Z' a3 hf;rw[a2] at this;refine this.mono ?_;rintro e w' ⟨Z2,b1,b2,b3,b4⟩
    exact⟨Z2,λi hi=>(b1 i (by omega)).trans (a1 i hi),b2,b3,b4⟩
theorem qAu{P:Program}{f:Nat}{pre:List (Nat × Option Nat × Option (ET × Nat))}{modes:List Bool}{C:CS}(h:qAi P f C):qAg P f (qB7 pre (qBz modes C)):=prep_loudG h
theorem liftV_shut{deep:Bool}{modes:List Bool}{C:CS}{args:List SV}{hp:List SB}{p:Prop}{r:SV}{q:Option (List SB)}(hn:natQ (liftH deep modes C))(hs:natS C)(h:oldC (liftH deep modes C) args hp=some (p,r,q)):r.shut=true/\q=none:=by
 simp only[oldC,liftH] at h;cases ha:modes.all (λb=>bif b then false else true) with
 | false=>rw[ha] at h;simp at h
 | true =>
  rw[ha] at h;simp only[cnT] at h;cases h1:lendAll deep modes args hp with
  | none=>rw[h1] at h;simp at h
  | some x =>
   obtain⟨J,ps,args',hpv⟩:=x;rw[h1] at h;simp only at h;cases h0:gds ps (C args' hpv SV λv hpv'=>bif v.shut then some v else none) with
   | none=>rw[h0] at h;simp at h
   | some y =>
    rw[h0] at h;obtain⟨hps,h0⟩:=qBk.1 h0;rw[hs] at h0;obtain⟨⟨v,hpv'⟩,h4,h5⟩:=Option.bind_eq_some_iff.1 h0;simp only at h5;cases hs:v.shut with
    | false=>rw[hs] at h5;simp at h5
    | true =>
     rw[hs] at h5;simp only[cnT,snJ] at h5;subst h5;simp only[snJ,Prod.mk.injEq] at h;obtain⟨_,rfl,rfl⟩:=h;exact⟨hs,rfl⟩
theorem prep_quietG{P:Program}{f:Nat}{deep:Bool}{pre:List (Nat × Option Nat × Option (ET × Nat))}{modes:List Bool}{C:CS}(h:qAi P f C):qAg P f (qB7 pre (liftH deep modes C)):=by
 obtain⟨hnat,hval,hany⟩:=liftH_valid (deep:=deep) (modes:=modes) h;refine⟨λargs hp R k r hr=>?_,λargs hp p r q hq hpp hl=>?_,tV⟩
 ·simp only at hr ⊢;cases h1:prepA pre args hp with
  | none=>rw[h1] at hr;cases hr
  | some x =>
   obtain⟨a',hp'⟩:=x;rw[h1] at hr;simp only at hr ⊢;exact hnat a' hp' R k r hr
 ·cases h1:prepA pre args hp with
  | none=>simp only[oldC,liftH,qB7] at hq;rw[h1] at hq;cases hq
  | some x =>
   obtain⟨a',hp'⟩:=x;have hq':oldC (liftH deep modes C) a' hp'=some (p,r,q):=by
    simp only[oldC,liftH,qB7] at hq ⊢;rw[h1] at hq;exact hq
   obtain⟨hsh,rfl⟩:=liftV_shut hnat h.1 hq';obtain⟨g1,g2,g3⟩:=prepA_ok h1 hl;obtain⟨k1,k3⟩:=hval a' hp' p r none hq' hpp g1;refine⟨SV.shut_lt hsh _,λX w0 w Z hs hf=>?_⟩;obtain⟨Z',a1,a2,a3,a4⟩:=g3 X w0 w Z hs;have:=k3 X w0 w Z' a3 hf;rw[a2] at this;refine this.mono ?_;rintro e w' ⟨rfl,b2,b3⟩
   exact⟨by rw[SV.shut_den hsh Z' Z],a4 w' b2,b3⟩
theorem qFk{P:Program}{f:Nat}{pre:List (Nat × Option Nat × Option (ET × Nat))}{modes:List Bool}{C:CS}(h:qAi P f C):qAg P f (qB7 pre (qDx modes C)):=prep_quietG h
def Le{O:Type}(a b:Option O):Prop:=∀r,a=some r->b=some r
theorem Le.refl{O:Type}(a:Option O):Le a a:=λ_ h=>h
theorem Le.trans{O:Type}{a b c:Option O}(h:Le a b)(h':Le b c):Le a c:=λr hr=>h' r (h r hr)
theorem Le.of_eq{O:Type}{a b:Option O}(h:a=b):Le a b:=λr hr=>h ▸ hr
theorem Le.gdb{O β:Type}{p:Prop}{a:Option O}{k:O->Option β}{b:Option β}(h:Le (a.bind k) b):Le ((gd p a).bind k) (gd p b):=λr hr=>by
 rw[bind_gd] at hr;obtain⟨h1,h2⟩:=gd_some.1 hr;exact gd_some.2 ⟨h1,h r h2⟩
theorem Le.condb{O β:Type}{c:Bool}{a b:Option O}{k:O->Option β}{a' b':Option β}(h:Le (a.bind k) a')(h':Le (b.bind k) b'):Le ((bif c then a else b).bind k) (bif c then a' else b'):=by
 cases c
 ·exact h'
 ·exact h
theorem Le.bindb{O β γ:Type}{x:Option γ}{f:γ->Option O}{k:O->Option β}{g:γ->Option β}(h:∀y,Le ((f y).bind k) (g y)):Le ((x.bind f).bind k) (x.bind g):=by
 cases x with
 | none=>exact Le.refl _
 | some y=>exact h y
theorem Le.all2b{O:Type}{s a b:Option O}(h:Le s a)(h':Le s b):Le s (all2 a b):=λr hr=>all2_intro (h r hr) (h' r hr)
noncomputable def all2d{R:Type}(a:Option R):Option R:=all2 a a
theorem Le.all2d{O:Type}{s a:Option O}(h:Le s a):Le s (all2d a):=Le.all2b h h
theorem Le.elimb{O β γ δ:Type}{s:γ ⊕ δ}{f:γ->Option O}{g:δ->Option O}{k:O->Option β}{f':γ->Option β}{g':δ->Option β}(h:∀y,Le ((f y).bind k) (f' y))(h':∀y,Le ((g y).bind k) (g' y)):Le ((Sum.elim f g s).bind k) (Sum.elim f' g' s):=by
 cases s with
 | inl y=>exact h y
 | inr y=>exact h' y
theorem sub_le{O:Type}{I:Nat->SubQ}{U:Nat->Option CQ}{n0 nv nt i:Nat}{b:IQ}(D:Dec O QS)(f:O->(R:Type)->(QS->Option R)->(Nat->QS->Option R)->(QS->Option R)->Option R)
  (hl:I i=λS R kn kx kr=>(D.d S).bind λx=>f x R kn kx kr) (hb:∀(x:O) (R:Type) (kn:QS->Option R) (kx:Nat->QS->Option R) (kr:QS->Option R),Le (f x R kn kx kr) (qAy I U n0 nv nt b (D.e x) kn kx kr)):qA3 I U n0 nv nt i b:=by
 intro S R kn kx kr r h;rw[hl] at h;obtain⟨x,h1,h2⟩:=Option.bind_eq_some_iff.1 h;rw[D.ok _ _ h1];exact hb x R kn kx kr r h2
theorem val_le{O β:Type}{P:Program}{f:Nat}{raws:List Nat}{ic:IQ}{rv:List RV}{nt:Nat}(hc:chk P f raws=some (ic.erase,rv,nt))(nv:Nat){I:Nat->SubQ}{U:Nat->Option CQ}(hU:∀f C,U f=some C->qAg P f C){C:CS}
  (A:Dec O (List SV)) (B:Dec β (List SB)) (n0:Nat) (g:O->β->(R:Type)->(SV->List SB->Option R)->Option R)
  (hC:C=λargs hp R k=>(A.d args).bind λx=>(B.d hp).bind λy=>g x y R k)
  (hg:∀x y (R:Type) (k:SV->List SB->Option R),g x y R k=(g x y (SV × List SB) (λv hp'=>some (v,hp'))).bind λz=>k z.1 z.2)
  (hl:∀x,(A.e x).length<=nt) (hn:∀y,(B.e y).length=n0) (hs:qCr I U n0 nv nt ic)
  (he:∀x y,Le (g x y (SV × List SB) (λv hp'=>some (v,hp'))) (fnQ I U nv nt ic rv (A.e x) (B.e y) (λv hp'=>some (v,hp')))):qAi P f C:=by
 subst hC;refine qAi.of hc nv hU (I:=I) ?_ ?_
 ·intro args hp R k;show((A.d args).bind λx=>(B.d hp).bind λy=>g x y R k)=(((A.d args).bind λx=>(B.d hp).bind λy=>g x y (SV × List SB) λv hp'=>some (v,hp')):Option (SV × List SB)).bind λx=>k x.1 x.2
  cases A.d args with
  | none=>rfl
  | some x =>
   cases B.d hp with
   | none=>rfl
   | some y=>exact hg x y R k
 ·intro args hp v hp' h;obtain⟨x,h1,h2⟩:=Option.bind_eq_some_iff.1 h;obtain⟨y,h3,h4⟩:=Option.bind_eq_some_iff.1 h2;rw[A.ok _ _ h1,B.ok _ _ h3];exact⟨hl x,by rw[hn];exact hs,he x y _ h4⟩
theorem vl1{O β Z:Type}{P:Program}{f:Nat}(ic:IQ)(rv:List RV)(nt nv n0:Nat){I:Nat->SubQ}{U:Nat->Option CQ}{A:Dec O (List SV)}{B:Dec β (List SB)}{F:O->β->Option Z}{V:O->β->Z->SV}{H:O->β->Z->List SB}
  (hs:qAt I U n0 nv nt (subsL ic)) (hU:∀f C,U f=some C->qAg P f C) (he:∀x y,fnQ I U nv nt ic rv (A.e x) (B.e y) (λv hp'=>some (v,hp'))=(F x y).bind λr=>some (V x y r,H x y r)) (raws:List Nat:=[])
  (hc:chk P f raws=some (ic.erase,rv,nt):=by kernel_rfl) (hl:∀x,(A.e x).length<=nt:=by exact λx=>Nat.le_of_ble_eq_true rfl) (hn:∀y,(B.e y).length=n0:=by exact λy=>rfl):qAi P f (mkC A B F V H):=val_okC hc nv hU n0 hl hn (qC2 hs) he
theorem vl0{O β Z:Type}{P:Program}{f:Nat}(ic:IQ)(rv:List RV)(nt nv n0:Nat)(l:List (Nat × CQ)){A:Dec O (List SV)}{B:Dec β (List SB)}{F:O->β->Option Z}{V:O->β->Z->SV}{H:O->β->Z->List SB}
  (hv:ValidsQ P l) (he:∀x y,fnQ (tblL []) (tblQ l) nv nt ic rv (A.e x) (B.e y) (λv hp'=>some (v,hp'))=(F x y).bind λr=>some (V x y r,H x y r)) (raws:List Nat:=[])
  (hc:chk P f raws=some (ic.erase,rv,nt):=by kernel_rfl) (hl:∀x,(A.e x).length<=nt:=by exact λx=>Nat.le_of_ble_eq_true rfl) (hn:∀y,(B.e y).length=n0:=by exact λy=>rfl) (hs:qAt (tblL []) (tblQ l) n0 nv nt (subsL ic):=by exact True.intro):qAi P f (mkC A B F V H):=vl1 ic rv nt nv n0 hs (qAk hv) he raws hc hl hn
abbrev oP(d:Nat)(p:Pr):IOp:=⟨some d,p,none⟩
abbrev oE(d:Nat)(p:Pr)(g:Nat):IOp:=⟨some d,p,some (g,false)⟩
abbrev oF(d:Nat)(p:Pr)(g:Nat):IOp:=⟨some d,p,some (g,true)⟩
abbrev oN(p:Pr):IOp:=⟨none,p,none⟩
abbrev oM(d:Nat)(a:Arg):IOp:=⟨some d,.mv a,none⟩
abbrev vI(n:Int):Arg:=.v (.int .i64 n)
abbrev vC(n:Int):Arg:=.v (.int .u8 n)
abbrev vT:Arg:=.v (.bool true)
abbrev vF:Arg:=.v (.bool false)
abbrev Pr.bi(o:BinOp)(x y:Arg):Pr:=.bin false o x y
abbrev Pr.nk(x:Arg):Pr:=.ext .nilck [x]
abbrev rg(n:Nat)(l:List IOp):IQ:=.reg n none l
abbrev IQ.cn(l:List Nat)(q:IQ):IQ:=.canon [] l q
abbrev S0.vI(x:Int):S0:=.val (.int .i64 x)
abbrev S0.vS(x:ByteArray):S0:=.val (.string x)
abbrev S0.vB(x:Bool):S0:=.val (.bool x)
abbrev sL(i:Nat)(x:S0):Nat × GL × SV:=(i,[],.c (.o x))
abbrev dSO{O:Type}(i:Nat)(x:Dec O S0):=dSl i (dVC (dCO x))
abbrev dZ:=dI .i64
theorem sZ:(∀ {O β:Type} (c:Bool) (x y:Option O) (k:O->Option β),(bif c then x else y).bind k=bif c then x.bind k else y.bind k)/\(∀ {O β:Type} (p:Prop) (x:Option O) (k:O->Option β),(gd p x).bind k=gd p (x.bind k))/\(∀ {O β γ:Type} (x:Option O) (f:O->Option β) (g:β->Option γ),(x.bind f).bind g=x.bind λy=>(f y).bind g)/\(∀ {O β:Type} (a:O) (f:O->Option β),(some a).bind f=f a)/\(∀ {O β γ:Type} (f:O->γ) (g:β->γ) (x:O),Sum.elim f g (.inl x)=f x)/\(∀ {O β γ:Type} (f:O->γ) (g:β->γ) (x:β),Sum.elim f g (.inr x)=g x)/\(∀ {O β γ δ:Type} (s:O ⊕ β) (f:O->Option γ) (g:β->Option γ) (k:γ->Option δ),(Sum.elim f g s).bind k=Sum.elim (λx=>(f x).bind k) (λy=>(g y).bind k) s) :=
 ⟨bind_cond,bind_gd,obA,obS,slL,slR,bind_elim⟩
abbrev dTy{O β:Type}(_:Dec O β):Type:=O
abbrev rF(d:Nat)(a:Arg)(k:Nat):List IOp:=[oM d a,oP (d+1) (.nk (.t d)),oP (d+2) (.faddr k (.t (d+1))),oP (d+3) (.load none (.t (d+2)))]
abbrev rG(d:Nat)(a:Arg)(k:Nat):List IOp:=[oP d (.nk a),oP (d+1) (.faddr k (.t d)),oP (d+2) (.load none (.t (d+1)))]
abbrev rS(d:Nat)(a:Arg)(k:Nat)(v:Arg):List IOp:=[oP d (.nk a),oP (d+1) (.faddr k (.t d)),oN (.store 1 (.t (d+1)) v)]
abbrev rH(o:Nat->Pr->Nat->IOp)(d:Nat)(a:Arg)(k g:Nat):List IOp:=[o d (.mv a) g,o (d+1) (.nk (.t d)) g,o (d+2) (.faddr k (.t (d+1))) g,o (d+3) (.load none (.t (d+2))) g]
abbrev t0:Arg:=.t 0
abbrev t1:Arg:=.t 1
abbrev t2:Arg:=.t 2
abbrev t3:Arg:=.t 3
abbrev t4:Arg:=.t 4
abbrev t5:Arg:=.t 5
abbrev t6:Arg:=.t 6
abbrev t7:Arg:=.t 7
abbrev t8:Arg:=.t 8
abbrev t9:Arg:=.t 9
abbrev t10:Arg:=.t 10
abbrev t11:Arg:=.t 11
abbrev t12:Arg:=.t 12
abbrev t13:Arg:=.t 13
abbrev t14:Arg:=.t 14
abbrev t15:Arg:=.t 15
abbrev t16:Arg:=.t 16
abbrev t17:Arg:=.t 17
abbrev t18:Arg:=.t 18
abbrev t19:Arg:=.t 19
abbrev t20:Arg:=.t 20
abbrev t21:Arg:=.t 21
abbrev t22:Arg:=.t 22
abbrev t23:Arg:=.t 23
abbrev t24:Arg:=.t 24
abbrev t25:Arg:=.t 25
abbrev t26:Arg:=.t 26
abbrev t27:Arg:=.t 27
abbrev t28:Arg:=.t 28
abbrev t29:Arg:=.t 29
abbrev t30:Arg:=.t 30
abbrev t31:Arg:=.t 31
abbrev t32:Arg:=.t 32
abbrev t33:Arg:=.t 33
abbrev t34:Arg:=.t 34
abbrev t35:Arg:=.t 35
abbrev t36:Arg:=.t 36
abbrev t37:Arg:=.t 37
abbrev t38:Arg:=.t 38
abbrev t39:Arg:=.t 39
abbrev t40:Arg:=.t 40
abbrev t41:Arg:=.t 41
abbrev t42:Arg:=.t 42
abbrev t43:Arg:=.t 43
abbrev t44:Arg:=.t 44
abbrev t45:Arg:=.t 45
abbrev t46:Arg:=.t 46
abbrev t47:Arg:=.t 47
abbrev t48:Arg:=.t 48
abbrev t49:Arg:=.t 49
abbrev t50:Arg:=.t 50
abbrev t51:Arg:=.t 51
abbrev t52:Arg:=.t 52
abbrev t53:Arg:=.t 53
abbrev t54:Arg:=.t 54
abbrev t55:Arg:=.t 55
abbrev t56:Arg:=.t 56
abbrev t57:Arg:=.t 57
abbrev t58:Arg:=.t 58
abbrev t59:Arg:=.t 59
abbrev t60:Arg:=.t 60
abbrev t61:Arg:=.t 61
abbrev t62:Arg:=.t 62
abbrev t63:Arg:=.t 63
abbrev t64:Arg:=.t 64
abbrev t65:Arg:=.t 65
abbrev t66:Arg:=.t 66
abbrev t67:Arg:=.t 67
abbrev t68:Arg:=.t 68
abbrev t69:Arg:=.t 69
abbrev t70:Arg:=.t 70
abbrev t71:Arg:=.t 71
abbrev t72:Arg:=.t 72
abbrev t73:Arg:=.t 73
abbrev t74:Arg:=.t 74
abbrev t75:Arg:=.t 75
abbrev t76:Arg:=.t 76
abbrev t77:Arg:=.t 77
abbrev t78:Arg:=.t 78
abbrev t79:Arg:=.t 79
abbrev t80:Arg:=.t 80
abbrev t81:Arg:=.t 81
abbrev t82:Arg:=.t 82
abbrev t83:Arg:=.t 83
abbrev t84:Arg:=.t 84
abbrev t85:Arg:=.t 85
abbrev t86:Arg:=.t 86
abbrev t87:Arg:=.t 87
abbrev t88:Arg:=.t 88
abbrev t89:Arg:=.t 89
abbrev t90:Arg:=.t 90
abbrev t91:Arg:=.t 91
abbrev t92:Arg:=.t 92
abbrev t93:Arg:=.t 93
abbrev t94:Arg:=.t 94
abbrev t95:Arg:=.t 95
abbrev t96:Arg:=.t 96
abbrev t97:Arg:=.t 97
abbrev t98:Arg:=.t 98
abbrev t99:Arg:=.t 99
abbrev t100:Arg:=.t 100
abbrev t101:Arg:=.t 101
abbrev t102:Arg:=.t 102
abbrev t103:Arg:=.t 103
abbrev t104:Arg:=.t 104
abbrev t105:Arg:=.t 105
abbrev t106:Arg:=.t 106
abbrev t107:Arg:=.t 107
abbrev t108:Arg:=.t 108
abbrev t109:Arg:=.t 109
abbrev t110:Arg:=.t 110
abbrev t111:Arg:=.t 111
abbrev t112:Arg:=.t 112
abbrev t113:Arg:=.t 113
abbrev t114:Arg:=.t 114
abbrev t115:Arg:=.t 115
abbrev t116:Arg:=.t 116
abbrev t117:Arg:=.t 117
abbrev t118:Arg:=.t 118
abbrev t119:Arg:=.t 119
abbrev t120:Arg:=.t 120
abbrev t121:Arg:=.t 121
abbrev t122:Arg:=.t 122
abbrev t123:Arg:=.t 123
abbrev t124:Arg:=.t 124
abbrev t125:Arg:=.t 125
abbrev t126:Arg:=.t 126
abbrev t127:Arg:=.t 127
abbrev t128:Arg:=.t 128
abbrev t129:Arg:=.t 129
abbrev t130:Arg:=.t 130
abbrev t131:Arg:=.t 131
abbrev t132:Arg:=.t 132
abbrev t133:Arg:=.t 133
abbrev t134:Arg:=.t 134
abbrev t135:Arg:=.t 135
abbrev t136:Arg:=.t 136
abbrev t137:Arg:=.t 137
abbrev t138:Arg:=.t 138
abbrev t139:Arg:=.t 139
abbrev t140:Arg:=.t 140
abbrev t141:Arg:=.t 141
abbrev t142:Arg:=.t 142
abbrev t143:Arg:=.t 143
abbrev t144:Arg:=.t 144
abbrev t145:Arg:=.t 145
abbrev t146:Arg:=.t 146
abbrev t147:Arg:=.t 147
abbrev t148:Arg:=.t 148
abbrev t149:Arg:=.t 149
abbrev t150:Arg:=.t 150
abbrev t151:Arg:=.t 151
abbrev t152:Arg:=.t 152
abbrev t153:Arg:=.t 153
abbrev t154:Arg:=.t 154
abbrev t155:Arg:=.t 155
abbrev t156:Arg:=.t 156
abbrev t157:Arg:=.t 157
abbrev t158:Arg:=.t 158
abbrev t159:Arg:=.t 159
abbrev t160:Arg:=.t 160
abbrev t161:Arg:=.t 161
abbrev t162:Arg:=.t 162
abbrev t163:Arg:=.t 163
abbrev t164:Arg:=.t 164
abbrev t165:Arg:=.t 165
abbrev t166:Arg:=.t 166
abbrev t167:Arg:=.t 167
abbrev t168:Arg:=.t 168
abbrev t169:Arg:=.t 169
abbrev t170:Arg:=.t 170
abbrev t171:Arg:=.t 171
abbrev t172:Arg:=.t 172
abbrev t173:Arg:=.t 173
abbrev t174:Arg:=.t 174
abbrev t175:Arg:=.t 175
abbrev t176:Arg:=.t 176
abbrev t177:Arg:=.t 177
abbrev t178:Arg:=.t 178
abbrev t179:Arg:=.t 179
abbrev t180:Arg:=.t 180
abbrev t181:Arg:=.t 181
abbrev t182:Arg:=.t 182
abbrev t183:Arg:=.t 183
abbrev t184:Arg:=.t 184
abbrev t185:Arg:=.t 185
abbrev t186:Arg:=.t 186
abbrev t187:Arg:=.t 187
abbrev t188:Arg:=.t 188
abbrev t189:Arg:=.t 189
abbrev t190:Arg:=.t 190
abbrev t191:Arg:=.t 191
abbrev t192:Arg:=.t 192
abbrev t193:Arg:=.t 193
abbrev t194:Arg:=.t 194
abbrev t195:Arg:=.t 195
abbrev t196:Arg:=.t 196
abbrev t197:Arg:=.t 197
abbrev t198:Arg:=.t 198
abbrev t199:Arg:=.t 199
abbrev t200:Arg:=.t 200
abbrev t201:Arg:=.t 201
abbrev t202:Arg:=.t 202
abbrev t203:Arg:=.t 203
abbrev t204:Arg:=.t 204
abbrev t205:Arg:=.t 205
abbrev t206:Arg:=.t 206
abbrev t207:Arg:=.t 207
abbrev t208:Arg:=.t 208
abbrev t209:Arg:=.t 209
abbrev t210:Arg:=.t 210
abbrev t211:Arg:=.t 211
abbrev t212:Arg:=.t 212
abbrev t213:Arg:=.t 213
abbrev t214:Arg:=.t 214
abbrev t215:Arg:=.t 215
abbrev t216:Arg:=.t 216
abbrev t217:Arg:=.t 217
abbrev t218:Arg:=.t 218
abbrev t219:Arg:=.t 219
abbrev t220:Arg:=.t 220
abbrev t221:Arg:=.t 221
end Go.Eng
