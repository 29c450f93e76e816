/-
  Functions as the engine reads them (printed by gen.py).
-/
import Derived.Test.YtbokbmjcodoccacDoorDecRel
import Derived.Test.YtbokbmjcodoccacDoorProg
set_option linter.unusedSimpArgs false
set_option linter.unusedVariables false
namespace Go.Eng
def prep1(i:Nat)(off:Option Nat)(w:Option (ET × Nat))(args:List SV)(hp:List SB):Option (List SV × List SB) :=
 match args[i]?,off,w with
 | some (.c (.o (.hd h 0))),some k,w=>match hp[h]? with
  | some (.cells e' l)=>match l[k]? with
   | some x=>match w with
    | some (t,e)=>bif nilK t x then some (args,hp.set h (.cells e' (l.set k (nilH t hp.length)))++[nilSB t e]) else some (args,hp)
    | none=>(selfP h x).bind λy=>some (args,hp.set h (.cells e' (l.set k y)))
   | none=>none
  | _=>none
 | some (.c (.o x)),none,some (t,e)=>bif nilK t x then some (args.set i (.c (.o (nilH t hp.length))),hp++[nilSB t e]) else some (args,hp)
 | some (.c (.agg l)),some k,some (t,e)=>match l[k]? with
  | some x=>bif nilK t x then some (args.set i (.c (.agg (l.set k (nilH t hp.length)))),hp++[nilSB t e]) else some (args,hp)
  | none=>none
 | _,_,_=>none
def prepA:List (Nat × Option Nat × Option (ET × Nat))->List SV->List SB->Option (List SV × List SB)
 | [],args,hp=>some (args,hp)
 | (i,off,w)::r,args,hp=>match prep1 i off w args hp with
  | some (args',hp')=>prepA r args' hp'
  | none=>none
def qBy(pre:List (Nat × Option Nat × Option (ET × Nat))):CQ->CQ
 | .quiet C=>.quiet λargs hp R k=>match prepA pre args hp with
  | some (args',hp')=>C args' hp' R k
  | none=>none
 | .loud C=>.loud λargs hp R k=>match prepA pre args hp with
  | some (args',hp')=>C args' hp' R k
  | none=>none
 | .any C=>.any λargs hp=>match prepA pre args hp with
  | some (args',hp')=>C args' hp'
  | none=>none
 | .pan C=>.pan λargs hp R k kp=>match prepA pre args hp with
  | some (args',hp')=>C args' hp' R k kp
  | none=>none
 | .inl C=>.inl C
def LtH(hp:List SB):Prop:=∀(h:Nat) (sb:SB),hp[h]?=some sb->sb.lt hp.length
def PrepOK(args:List SV)(hp:List SB)(args':List SV)(hp':List SB):Prop :=
 (∀v∈args',v.lt hp'.length)/\hp.length<=hp'.length/\∀(X:Nat->Prop) (w0 w:World) (Z:Nat->Value),HpSat X w0 w Z hp->∃Z',(∀i<hp.length,Z' i=Z i)/\args'.map (SV.den Z')=args.map (SV.den Z)/\HpSat X w0 w Z' hp'/\∀w1,HpSat X w0 w1 Z' hp'->HpSat X w0 w1 Z hp
theorem PrepOK.refl{args:List SV}{hp:List SB}(h:∀v∈args,v.lt hp.length):PrepOK args hp args hp :=
 ⟨h,Nat.le_refl _,λX w0 w Z hh=>⟨Z,λ_ _=>rfl,rfl,hh,λ_ h=>h⟩⟩
theorem PrepOK.trans{a b c:List SV}{hp hp' hp'':List SB}(h:PrepOK a hp b hp')(h':PrepOK b hp' c hp''):PrepOK a hp c hp'':=by
 obtain⟨_,h2,h3⟩:=h;obtain⟨h4,h5,h6⟩:=h';refine⟨h4,by omega,λX w0 w Z hh=>?_⟩;obtain⟨Z',a1,a2,a3,a4⟩:=h3 X w0 w Z hh;obtain⟨Z'',b1,b2,b3,b4⟩:=h6 X w0 w Z' a3;exact⟨Z'',λi hi=>(b1 i (by omega)).trans (a1 i hi),b2.trans a2,b3,λw1 h=>a4 w1 (b4 w1 h)⟩
theorem map_set_den{Z Z':Nat->Value}{args:List SV}{i n:Nat}{v u:SV}(hi:args[i]?=some v)(hd:u.den Z'=v.den Z)(hl:∀x∈args,x.lt n)(ha:∀j<n,Z' j=Z j):(args.set i u).map (SV.den Z')=args.map (SV.den Z):=by
 apply List.ext_getElem?;intro j;rw[List.getElem?_map,List.getElem?_map];by_cases hj:j=i
 ·subst hj;rw[List.getElem?_set_self (List.getElem?_eq_some_iff.1 hi).1,hi];simp only[Option.map_some,hd]
 ·rw[List.getElem?_set_ne (Ne.symm hj)];cases h:args[j]? with
  | none=>rfl
  | some y =>
   simp only[Option.map_some];rw[SV.den_congr ha (hl y (List.mem_of_getElem? h))]
theorem map_den_congr{Z Z':Nat->Value}{args:List SV}{n:Nat}(hl:∀x∈args,x.lt n)(ha:∀j<n,Z' j=Z j):args.map (SV.den Z')=args.map (SV.den Z) :=
 List.map_congr_left λy hy=>SV.den_congr ha (hl y hy)
theorem prep1_ok{i:Nat}{off:Option Nat}{w:Option (ET × Nat)}{args args':List SV}{hp hp':List SB}(h:prep1 i off w args hp=some (args',hp'))(hl:∀v∈args,v.lt hp.length):PrepOK args hp args' hp':=by
 have stay:∀ {x:Option (List SV × List SB)},x=some (args,hp)->x=some (args',hp')->PrepOK args hp args' hp':=λh1 h2=>by
  rw[h1] at h2;simp only[snJ,Prod.mk.injEq] at h2;obtain⟨rfl,rfl⟩:=h2;exact .refl hl
 have lt1:∀v∈args,v.lt (hp.length+1):=λv hv=>SV.lt_mono (Nat.le_succ _) (hl v hv)
 have back:∀(X:Nat->Prop) (w0 w1:World) (Z:Nat->Value) (t:ET) (e:Nat),LtH hp->HpSat X w0 w1 (nilZT t hp.length Z) (hp++[nilSB t e])->HpSat X w0 w1 Z hp:=λX w0 w1 Z t e hlt hh =>
  hh.init hlt λi hi=>qDf i hi
 unfold prep1 at h;split at h
 ·rename_i hh k hi;have hiL:=hl _ (List.mem_of_getElem? hi);split at h
  ·rename_i e' l hsb;split at h
   ·rename_i x hx;have hhl:=(List.getElem?_eq_some_iff.1 hsb).1;split at h
    ·rename_i t e;cases hn:nilK t x with
     | false=>rw[hn] at h;exact stay rfl h
     | true =>
      rw[hn] at h;simp only[cnT,snJ,Prod.mk.injEq] at h;obtain⟨rfl,rfl⟩:=h;refine⟨by simpa using lt1,by simp,λX w0 w Z hs=>?_⟩;have hlt:=hs.lt hh _ hsb;have hsb':(hp++[nilSB t e])[hh]?=some (.cells e' l):=by rw[List.getElem?_append_left hhl];exact hsb
      have fwd:∀w1,HpSat X w0 w1 (nilZT t hp.length Z) (hp++[nilSB t e])->HpSat X w0 w1 (nilZT t hp.length Z) (hp.set hh (.cells e' (l.set k (nilH t hp.length)))++[nilSB t e]):=λw1 h1=>by
       have:=qC8 h1 hsb' (l':=l.set k (nilH t hp.length)) (by
        rw[qEc hx hn hlt];exact(List.map_congr_left λy hy=>S0.den_congr qDf (hlt y hy)).symm) (by
        have:=set_nilT_lt (k:=k) (t:=t) hlt;simpa using this)
       rwa [List.set_append_left _ _ hhl] at this
      refine⟨nilZT t hp.length Z,qDf,map_den_congr hl qDf,fwd w (qGf hn hs e),λw1 h1=>?_⟩;have h2:(hp.set hh (.cells e' (l.set k (nilH t hp.length)))++[nilSB t e])[hh]?=some (.cells e' (l.set k (nilH t hp.length))):=by
       rw[List.getElem?_append_left (by simpa using hhl),List.getElem?_set_self hhl]
      have h3:=qC8 h1 h2 (l':=l) (by
       rw[qEc hx hn hlt];exact List.map_congr_left λy hy=>S0.den_congr qDf (hlt y hy)) (λy hy=>S0.lt_mono (by simp) (hlt y hy))
      rw[List.set_append_left _ _ (by simpa using hhl),List.set_set,(by
       apply List.ext_getElem?;intro j;by_cases hj:j=hh
       ·subst hj;rw[List.getElem?_set_self hhl,hsb]
       ·rw[List.getElem?_set_ne (Ne.symm hj)]:hp.set hh (.cells e' l)=hp)] at h3
      exact back X w0 w1 Z t e hs.lt h3
    ·obtain⟨y,hy,h⟩:=Option.bind_eq_some_iff.1 h;simp only[snJ,Prod.mk.injEq] at h;obtain⟨rfl,rfl⟩:=h;refine⟨by simpa using hl,by simp,λX w0 w Z hs=>?_⟩;obtain⟨hd,hyl⟩:=selfP_den (Z:=Z) hy;have hlt:=hs.lt hh _ hsb;refine⟨Z,λ_ _=>rfl,rfl,qC8 hs hsb (set_den hx hd) (set_lt hlt (hyl _ hhl)),λw1 h1=>?_⟩;have h2:(hp.set hh (.cells e' (l.set k y)))[hh]?=some (.cells e' (l.set k y)):=List.getElem?_set_self hhl;have h3:=qC8 h1 h2 (l':=l) (set_den hx hd).symm (λy hy=>by simpa using hlt y hy);rwa [List.set_set,(by
      apply List.ext_getElem?;intro j;by_cases hj:j=hh
      ·subst hj;rw[List.getElem?_set_self hhl,hsb]
      ·rw[List.getElem?_set_ne (Ne.symm hj)]:hp.set hh (.cells e' l)=hp)] at h3
   ·cases h
  ·cases h
 ·rename_i x t e hi;cases hn:nilK t x with
  | false=>rw[hn] at h;exact stay rfl h
  | true =>
   rw[hn] at h;simp only[cnT,snJ,Prod.mk.injEq] at h;obtain⟨rfl,rfl⟩:=h;refine⟨λv hv=>?_,by simp,λX w0 w Z hs=>⟨nilZT t hp.length Z,qDf,?_,qGf hn hs e,λw1 h1=>back X w0 w1 Z t e hs.lt h1⟩⟩
   ·rcases List.mem_or_eq_of_mem_set hv with h | rfl
    ·simpa using lt1 v h
    ·have:=nilH_lt t hp.length;simpa[SV.lt,SC.lt] using this
   ·refine map_set_den hi ?_ hl qDf;simp only[SV.den,SC.den,nilT_den hn]
 ·rename_i l k t e hi;split at h
  ·rename_i x hx;cases hn:nilK t x with
   | false=>rw[hn] at h;exact stay rfl h
   | true =>
    rw[hn] at h;simp only[cnT,snJ,Prod.mk.injEq] at h;obtain⟨rfl,rfl⟩:=h;have hlt:=hl _ (List.mem_of_getElem? hi);refine⟨λv hv=>?_,by simp,λX w0 w Z hs=>⟨nilZT t hp.length Z,qDf,?_,qGf hn hs e,λw1 h1=>back X w0 w1 Z t e hs.lt h1⟩⟩
    ·rcases List.mem_or_eq_of_mem_set hv with h | rfl
     ·simpa using lt1 v h
     ·have:=set_nilT_lt (k:=k) (t:=t) hlt;show ∀y∈_,S0.lt _ y;simpa using this
    ·refine map_set_den hi ?_ hl qDf;simp only[SV.den,SC.den];rw[qEc hx hn hlt]
  ·cases h
 ·cases h
theorem prepA_ok:∀ {pre:List (Nat × Option Nat × Option (ET × Nat))} {args args':List SV} {hp hp':List SB},prepA pre args hp=some (args',hp')->(∀v∈args,v.lt hp.length)->PrepOK args hp args' hp'
 | [],args,args',hp,hp',h,hl=>by
  simp only[prepA,snJ,Prod.mk.injEq] at h;obtain⟨rfl,rfl⟩:=h;exact .refl hl
 | (i,off,w)::r,args,args',hp,hp',h,hl=>by
  simp only[prepA] at h;split at h
  ·rename_i a1 h1 heq;have:=prep1_ok heq hl;exact this.trans (prepA_ok h this.1)
  ·cases h
theorem prep_loudG{P:Program}{f:Nat}{deep:Bool}{pre:List (Nat × Option Nat × Option (ET × Nat))}{modes:List Bool}{C:CS}(h:qAj P f C):qAh P f (qBy pre (liftG deep modes C)):=by
 obtain⟨hnat,hval,hany⟩:=liftG_valid (deep:=deep) (modes:=modes) h;refine⟨λargs hp R k r hr=>?_,λargs hp p r q hq hpp hl=>?_,tV⟩
 ·simp only at hr ⊢;cases h1:prepA pre args hp with
  | none=>rw[h1] at hr;cases hr
  | some x =>
   obtain⟨a',hp'⟩:=x;rw[h1] at hr;simp only at hr ⊢;exact hnat a' hp' R k r hr
 ·simp only[oldC,liftG,qBy] at hq;cases h1:prepA pre args hp with
  | none=>rw[h1] at hq;cases hq
  | some x =>
   obtain⟨a',hp'⟩:=x;rw[h1] at hq;obtain⟨g1,g2,g3⟩:=prepA_ok h1 hl;have:=hval a' hp' p r q hq hpp g1;cases q with
   | none =>
    exfalso;simp only at hq;split at hq <;> cases hq
   | some hp2 =>
    obtain⟨k1,k2,k3⟩:=this;refine⟨k1,by omega,λX w0 w Z hs hf=>?_⟩;obtain⟨Z',a1,a2,a3,a4⟩:=g3 X w0 w Z hs;have:=k3 X w0 w Z' a3 hf;rw[a2] at this;refine this.mono ?_;rintro e w' ⟨Z2,b1,b2,b3,b4⟩
    exact⟨Z2,λi hi=>(b1 i (by omega)).trans (a1 i hi),b2,b3,b4⟩
theorem qAo{P:Program}{f:Nat}{pre:List (Nat × Option Nat × Option (ET × Nat))}{modes:List Bool}{C:CS}(h:qAj P f C):qAh P f (qBy pre (qDc modes C)):=prep_loudG h
theorem liftV_shut{deep:Bool}{modes:List Bool}{C:CS}{args:List SV}{hp:List SB}{p:Prop}{r:SV}{q:Option (List SB)}(hn:natQ (liftH deep modes C))(hs:natS C)(h:oldC (liftH deep modes C) args hp=some (p,r,q)):r.shut=true/\q=none:=by
 simp only[oldC,liftH] at h;cases ha:modes.all (λb=>bif b then false else true) with
 | false=>rw[ha] at h;simp at h
 | true =>
  rw[ha] at h;simp only[cnT] at h;cases h1:lendAll deep modes args hp with
  | none=>rw[h1] at h;simp at h
  | some x =>
   obtain⟨Y,ps,args',hpv⟩:=x;rw[h1] at h;simp only at h;cases h0:gds ps (C args' hpv SV λv hpv'=>bif v.shut then some v else none) with
   | none=>rw[h0] at h;simp at h
   | some y =>
    rw[h0] at h;obtain⟨hps,h0⟩:=qBd.1 h0;rw[hs] at h0;obtain⟨⟨v,hpv'⟩,h4,h5⟩:=Option.bind_eq_some_iff.1 h0;simp only at h5;cases hs:v.shut with
    | false=>rw[hs] at h5;simp at h5
    | true =>
     rw[hs] at h5;simp only[cnT,snJ] at h5;subst h5;simp only[snJ,Prod.mk.injEq] at h;obtain⟨_,rfl,rfl⟩:=h;exact⟨hs,rfl⟩
theorem prep_quietG{P:Program}{f:Nat}{deep:Bool}{pre:List (Nat × Option Nat × Option (ET × Nat))}{modes:List Bool}{C:CS}(h:qAj P f C):qAh P f (qBy pre (liftH deep modes C)):=by
 obtain⟨hnat,hval,hany⟩:=liftH_valid (deep:=deep) (modes:=modes) h;refine⟨λargs hp R k r hr=>?_,λargs hp p r q hq hpp hl=>?_,tV⟩
 ·simp only at hr ⊢;cases h1:prepA pre args hp with
  | none=>rw[h1] at hr;cases hr
  | some x =>
   obtain⟨a',hp'⟩:=x;rw[h1] at hr;simp only at hr ⊢;exact hnat a' hp' R k r hr
 ·cases h1:prepA pre args hp with
  | none=>simp only[oldC,liftH,qBy] at hq;rw[h1] at hq;cases hq
  | some x =>
   obtain⟨a',hp'⟩:=x;have hq':oldC (liftH deep modes C) a' hp'=some (p,r,q):=by
    simp only[oldC,liftH,qBy] at hq ⊢;rw[h1] at hq;exact hq
   obtain⟨hsh,rfl⟩:=liftV_shut hnat h.1 hq';obtain⟨g1,g2,g3⟩:=prepA_ok h1 hl;obtain⟨k1,k3⟩:=hval a' hp' p r none hq' hpp g1;refine⟨SV.shut_lt hsh _,λX w0 w Z hs hf=>?_⟩;obtain⟨Z',a1,a2,a3,a4⟩:=g3 X w0 w Z hs;have:=k3 X w0 w Z' a3 hf;rw[a2] at this;refine this.mono ?_;rintro e w' ⟨rfl,b2,b3⟩
   exact⟨by rw[SV.shut_den hsh Z' Z],a4 w' b2,b3⟩
theorem qCc{P:Program}{f:Nat}{pre:List (Nat × Option Nat × Option (ET × Nat))}{modes:List Bool}{C:CS}(h:qAj P f C):qAh P f (qBy pre (qDp modes C)):=prep_quietG h
def Le{O:Type}(a b:Option O):Prop:=∀r,a=some r->b=some r
theorem Le.refl{O:Type}(a:Option O):Le a a:=λ_ h=>h
theorem Le.trans{O:Type}{a b c:Option O}(h:Le a b)(h':Le b c):Le a c:=λr hr=>h' r (h r hr)
theorem Le.of_eq{O:Type}{a b:Option O}(h:a=b):Le a b:=λr hr=>h ▸ hr
theorem Le.gdb{O β:Type}{p:Prop}{a:Option O}{k:O->Option β}{b:Option β}(h:Le (a.bind k) b):Le ((gd p a).bind k) (gd p b):=λr hr=>by
 rw[bind_gd] at hr;obtain⟨h1,h2⟩:=gd_some.1 hr;exact gd_some.2 ⟨h1,h r h2⟩
theorem Le.condb{O β:Type}{c:Bool}{a b:Option O}{k:O->Option β}{a' b':Option β}(h:Le (a.bind k) a')(h':Le (b.bind k) b'):Le ((bif c then a else b).bind k) (bif c then a' else b'):=by
 cases c
 ·exact h'
 ·exact h
theorem Le.bindb{O β γ:Type}{x:Option γ}{f:γ->Option O}{k:O->Option β}{g:γ->Option β}(h:∀y,Le ((f y).bind k) (g y)):Le ((x.bind f).bind k) (x.bind g):=by
 cases x with
 | none=>exact Le.refl _
 | some y=>exact h y
theorem Le.all2b{O:Type}{s a b:Option O}(h:Le s a)(h':Le s b):Le s (all2 a b):=λr hr=>all2_intro (h r hr) (h' r hr)
noncomputable def all2d{R:Type}(a:Option R):Option R:=all2 a a
theorem Le.all2d{O:Type}{s a:Option O}(h:Le s a):Le s (all2d a):=Le.all2b h h
theorem Le.elimb{O β γ δ:Type}{s:γ ⊕ δ}{f:γ->Option O}{g:δ->Option O}{k:O->Option β}{f':γ->Option β}{g':δ->Option β}(h:∀y,Le ((f y).bind k) (f' y))(h':∀y,Le ((g y).bind k) (g' y)):Le ((Sum.elim f g s).bind k) (Sum.elim f' g' s):=by
 cases s with
 | inl y=>exact h y
 | inr y=>exact h' y
theorem sub_le{O:Type}{I:Nat->SubQ}{J:Nat->Option CQ}{n0 nv nt i:Nat}{b:IQ}(D:Dec O QS)(f:O->(R:Type)->(QS->Option R)->(Nat->QS->Option R)->(QS->Option R)->Option R)
  (hl:I i=λS R kn kx kr=>(D.d S).bind λx=>f x R kn kx kr) (hb:∀(x:O) (R:Type) (kn:QS->Option R) (kx:Nat->QS->Option R) (kr:QS->Option R),Le (f x R kn kx kr) (qAs I J n0 nv nt b (D.e x) kn kx kr)):qBl I J n0 nv nt i b:=by
 intro S R kn kx kr r h;rw[hl] at h;obtain⟨x,h1,h2⟩:=Option.bind_eq_some_iff.1 h;rw[D.ok _ _ h1];exact hb x R kn kx kr r h2
theorem vl1{O β Z:Type}{P:Program}{f:Nat}(ic:IQ)(rv:List RV)(nt nv n0:Nat){I:Nat->SubQ}{J:Nat->Option CQ}{A:Dec O (List SV)}{B:Dec β (List SB)}{F:O->β->Option Z}{V:O->β->Z->SV}{H:O->β->Z->List SB}
  (hs:qA8 I J n0 nv nt (subsL ic)) (hJ:∀f C,J f=some C->qAh P f C) (he:∀x y,fnQ I J nv nt ic rv (A.e x) (B.e y) (λv hp'=>some (v,hp'))=(F x y).bind λr=>some (V x y r,H x y r)) (raws:List Nat:=[])
  (hc:chk P f raws=some (ic.erase,rv,nt):=by kernel_rfl) (hl:∀x,(A.e x).length<=nt:=by exact λx=>Nat.le_of_ble_eq_true rfl) (hn:∀y,(B.e y).length=n0:=by exact λy=>rfl):qAj P f (mkC A B F V H):=val_okC hc nv hJ n0 hl hn (qE8 hs) he
theorem vl0{O β Z:Type}{P:Program}{f:Nat}(ic:IQ)(rv:List RV)(nt nv n0:Nat)(l:List (Nat × CQ)){A:Dec O (List SV)}{B:Dec β (List SB)}{F:O->β->Option Z}{V:O->β->Z->SV}{H:O->β->Z->List SB}
  (hv:ValidsQ P l) (he:∀x y,fnQ (tblL []) (tblQ l) nv nt ic rv (A.e x) (B.e y) (λv hp'=>some (v,hp'))=(F x y).bind λr=>some (V x y r,H x y r)) (raws:List Nat:=[])
  (hc:chk P f raws=some (ic.erase,rv,nt):=by kernel_rfl) (hl:∀x,(A.e x).length<=nt:=by exact λx=>Nat.le_of_ble_eq_true rfl) (hn:∀y,(B.e y).length=n0:=by exact λy=>rfl) (hs:qA8 (tblL []) (tblQ l) n0 nv nt (subsL ic):=by exact True.intro):qAj P f (mkC A B F V H):=vl1 ic rv nt nv n0 hs (qAt hv) he raws hc hl hn
abbrev oP(d:Nat)(p:Pr):IOp:=⟨some d,p,none⟩
abbrev oE(d:Nat)(p:Pr)(g:Nat):IOp:=⟨some d,p,some (g,false)⟩
abbrev oF(d:Nat)(p:Pr)(g:Nat):IOp:=⟨some d,p,some (g,true)⟩
abbrev oN(p:Pr):IOp:=⟨none,p,none⟩
abbrev oM(d:Nat)(a:Arg):IOp:=⟨some d,.mv a,none⟩
abbrev vI(n:Int):Arg:=.v (.int .i64 n)
abbrev vC(n:Int):Arg:=.v (.int .u8 n)
abbrev vT:Arg:=.v (.bool true)
abbrev vF:Arg:=.v (.bool false)
abbrev Pr.bi(o:BinOp)(x y:Arg):Pr:=.bin false o x y
abbrev Pr.nk(x:Arg):Pr:=.ext .nilck [x]
abbrev rg(n:Nat)(l:List IOp):IQ:=.reg n none l
abbrev IQ.cn(l:List Nat)(q:IQ):IQ:=.canon [] l q
abbrev S0.vI(x:Int):S0:=.val (.int .i64 x)
abbrev S0.vS(x:ByteArray):S0:=.val (.string x)
abbrev S0.vB(x:Bool):S0:=.val (.bool x)
abbrev sL(i:Nat)(x:S0):Nat × GL × SV:=(i,[],.c (.o x))
abbrev dSO{O:Type}(i:Nat)(x:Dec O S0):=dSl i (dVC (dCO x))
abbrev dZ:=dI .i64
theorem sZ:(∀ {O β:Type} (c:Bool) (x y:Option O) (k:O->Option β),(bif c then x else y).bind k=bif c then x.bind k else y.bind k)/\(∀ {O β:Type} (p:Prop) (x:Option O) (k:O->Option β),(gd p x).bind k=gd p (x.bind k))/\(∀ {O β γ:Type} (x:Option O) (f:O->Option β) (g:β->Option γ),(x.bind f).bind g=x.bind λy=>(f y).bind g)/\(∀ {O β:Type} (a:O) (f:O->Option β),(some a).bind f=f a)/\(∀ {O β γ:Type} (f:O->γ) (g:β->γ) (x:O),Sum.elim f g (.inl x)=f x)/\(∀ {O β γ:Type} (f:O->γ) (g:β->γ) (x:β),Sum.elim f g (.inr x)=g x)/\(∀ {O β γ δ:Type} (s:O ⊕ β) (f:O->Option γ) (g:β->Option γ) (k:γ->Option δ),(Sum.elim f g s).bind k=Sum.elim (λx=>(f x).bind k) (λy=>(g y).bind k) s) :=
 ⟨bind_cond,bind_gd,obA,obS,slL,slR,bind_elim⟩
abbrev dTy{O β:Type}(_:Dec O β):Type:=O
abbrev rF(d:Nat)(a:Arg)(k:Nat):List IOp:=[oM d a,oP (d+1) (.nk (.t d)),oP (d+2) (.faddr k (.t (d+1))),oP (d+3) (.load none (.t (d+2)))]
abbrev rG(d:Nat)(a:Arg)(k:Nat):List IOp:=[oP d (.nk a),oP (d+1) (.faddr k (.t d)),oP (d+2) (.load none (.t (d+1)))]
abbrev rS(d:Nat)(a:Arg)(k:Nat)(v:Arg):List IOp:=[oP d (.nk a),oP (d+1) (.faddr k (.t d)),oN (.store 1 (.t (d+1)) v)]
abbrev rH(o:Nat->Pr->Nat->IOp)(d:Nat)(a:Arg)(k g:Nat):List IOp:=[o d (.mv a) g,o (d+1) (.nk (.t d)) g,o (d+2) (.faddr k (.t (d+1))) g,o (d+3) (.load none (.t (d+2))) g]
abbrev t0:Arg:=.t 0
abbrev t1:Arg:=.t 1
abbrev t2:Arg:=.t 2
abbrev t3:Arg:=.t 3
abbrev t4:Arg:=.t 4
abbrev t5:Arg:=.t 5
abbrev t6:Arg:=.t 6
abbrev t7:Arg:=.t 7
abbrev t8:Arg:=.t 8
abbrev t9:Arg:=.t 9
abbrev t10:Arg:=.t 10
abbrev t11:Arg:=.t 11
abbrev t12:Arg:=.t 12
abbrev t13:Arg:=.t 13
abbrev t14:Arg:=.t 14
abbrev t15:Arg:=.t 15
abbrev t16:Arg:=.t 16
abbrev t17:Arg:=.t 17
abbrev t18:Arg:=.t 18
abbrev t19:Arg:=.t 19
abbrev t20:Arg:=.t 20
abbrev t21:Arg:=.t 21
abbrev t22:Arg:=.t 22
abbrev t23:Arg:=.t 23
abbrev t24:Arg:=.t 24
abbrev t25:Arg:=.t 25
abbrev t26:Arg:=.t 26
abbrev t27:Arg:=.t 27
abbrev t28:Arg:=.t 28
abbrev t29:Arg:=.t 29
abbrev t30:Arg:=.t 30
abbrev t31:Arg:=.t 31
abbrev t32:Arg:=.t 32
abbrev t33:Arg:=.t 33
abbrev t34:Arg:=.t 34
abbrev t35:Arg:=.t 35
abbrev t36:Arg:=.t 36
abbrev t37:Arg:=.t 37
abbrev t38:Arg:=.t 38
abbrev t39:Arg:=.t 39
abbrev t40:Arg:=.t 40
abbrev t41:Arg:=.t 41
abbrev t42:Arg:=.t 42
abbrev t43:Arg:=.t 43
abbrev t44:Arg:=.t 44
abbrev t45:Arg:=.t 45
abbrev t46:Arg:=.t 46
abbrev t47:Arg:=.t 47
abbrev t48:Arg:=.t 48
abbrev t49:Arg:=.t 49
abbrev t50:Arg:=.t 50
abbrev t51:Arg:=.t 51
abbrev t52:Arg:=.t 52
abbrev t53:Arg:=.t 53
abbrev t54:Arg:=.t 54
abbrev t55:Arg:=.t 55
abbrev t56:Arg:=.t 56
abbrev t57:Arg:=.t 57
abbrev t58:Arg:=.t 58
abbrev t59:Arg:=.t 59
abbrev t60:Arg:=.t 60
abbrev t61:Arg:=.t 61
abbrev t62:Arg:=.t 62
abbrev t63:Arg:=.t 63
abbrev t64:Arg:=.t 64
abbrev t65:Arg:=.t 65
abbrev t66:Arg:=.t 66
abbrev t67:Arg:=.t 67
abbrev t68:Arg:=.t 68
abbrev t69:Arg:=.t 69
abbrev t70:Arg:=.t 70
abbrev t71:Arg:=.t 71
abbrev t72:Arg:=.t 72
abbrev t73:Arg:=.t 73
abbrev t74:Arg:=.t 74
abbrev t75:Arg:=.t 75
abbrev t76:Arg:=.t 76
abbrev t77:Arg:=.t 77
abbrev t78:Arg:=.t 78
abbrev t79:Arg:=.t 79
abbrev t80:Arg:=.t 80
abbrev t81:Arg:=.t 81
abbrev t82:Arg:=.t 82
abbrev t83:Arg:=.t 83
abbrev t84:Arg:=.t 84
abbrev t85:Arg:=.t 85
abbrev t86:Arg:=.t 86
abbrev t87:Arg:=.t 87
abbrev t88:Arg:=.t 88
abbrev t89:Arg:=.t 89
abbrev t90:Arg:=.t 90
abbrev t91:Arg:=.t 91
abbrev t92:Arg:=.t 92
abbrev t93:Arg:=.t 93
abbrev t94:Arg:=.t 94
abbrev t95:Arg:=.t 95
abbrev t96:Arg:=.t 96
abbrev t97:Arg:=.t 97
abbrev t98:Arg:=.t 98
abbrev t99:Arg:=.t 99
abbrev t100:Arg:=.t 100
abbrev t101:Arg:=.t 101
abbrev t102:Arg:=.t 102
abbrev t103:Arg:=.t 103
abbrev t104:Arg:=.t 104
abbrev t105:Arg:=.t 105
abbrev t106:Arg:=.t 106
abbrev t107:Arg:=.t 107
abbrev t108:Arg:=.t 108
abbrev t109:Arg:=.t 109
abbrev t110:Arg:=.t 110
abbrev t111:Arg:=.t 111
abbrev t112:Arg:=.t 112
abbrev t113:Arg:=.t 113
abbrev t114:Arg:=.t 114
abbrev t115:Arg:=.t 115
abbrev t116:Arg:=.t 116
abbrev t117:Arg:=.t 117
abbrev t118:Arg:=.t 118
abbrev t119:Arg:=.t 119
abbrev t120:Arg:=.t 120
abbrev t121:Arg:=.t 121
abbrev t122:Arg:=.t 122
abbrev t123:Arg:=.t 123
abbrev t124:Arg:=.t 124
abbrev t125:Arg:=.t 125
abbrev t126:Arg:=.t 126
abbrev t127:Arg:=.t 127
abbrev t128:Arg:=.t 128
abbrev t129:Arg:=.t 129
abbrev t130:Arg:=.t 130
abbrev t131:Arg:=.t 131
abbrev t132:Arg:=.t 132
abbrev t133:Arg:=.t 133
abbrev t134:Arg:=.t 134
abbrev t135:Arg:=.t 135
abbrev t136:Arg:=.t 136
abbrev t137:Arg:=.t 137
abbrev t138:Arg:=.t 138
abbrev t139:Arg:=.t 139
abbrev t140:Arg:=.t 140
abbrev t141:Arg:=.t 141
abbrev t142:Arg:=.t 142
abbrev t143:Arg:=.t 143
abbrev t144:Arg:=.t 144
abbrev t145:Arg:=.t 145
abbrev t146:Arg:=.t 146
abbrev t147:Arg:=.t 147
abbrev t148:Arg:=.t 148
abbrev t149:Arg:=.t 149
abbrev t150:Arg:=.t 150
abbrev t151:Arg:=.t 151
abbrev t152:Arg:=.t 152
abbrev t153:Arg:=.t 153
abbrev t154:Arg:=.t 154
abbrev t155:Arg:=.t 155
abbrev t156:Arg:=.t 156
abbrev t157:Arg:=.t 157
abbrev t158:Arg:=.t 158
abbrev t159:Arg:=.t 159
abbrev t160:Arg:=.t 160
abbrev t161:Arg:=.t 161
abbrev t162:Arg:=.t 162
abbrev t163:Arg:=.t 163
abbrev t164:Arg:=.t 164
abbrev t165:Arg:=.t 165
abbrev t166:Arg:=.t 166
abbrev t167:Arg:=.t 167
abbrev t168:Arg:=.t 168
abbrev t169:Arg:=.t 169
abbrev t170:Arg:=.t 170
abbrev t171:Arg:=.t 171
abbrev t172:Arg:=.t 172
abbrev t173:Arg:=.t 173
abbrev t174:Arg:=.t 174
abbrev t175:Arg:=.t 175
abbrev t176:Arg:=.t 176
abbrev t177:Arg:=.t 177
abbrev t178:Arg:=.t 178
abbrev t179:Arg:=.t 179
abbrev t180:Arg:=.t 180
abbrev t181:Arg:=.t 181
abbrev t182:Arg:=.t 182
abbrev t183:Arg:=.t 183
abbrev t184:Arg:=.t 184
abbrev t185:Arg:=.t 185
abbrev t186:Arg:=.t 186
abbrev t187:Arg:=.t 187
abbrev t188:Arg:=.t 188
abbrev t189:Arg:=.t 189
abbrev t190:Arg:=.t 190
abbrev t191:Arg:=.t 191
abbrev t192:Arg:=.t 192
abbrev t193:Arg:=.t 193
abbrev t194:Arg:=.t 194
abbrev t195:Arg:=.t 195
abbrev t196:Arg:=.t 196
abbrev t197:Arg:=.t 197
abbrev t198:Arg:=.t 198
abbrev t199:Arg:=.t 199
abbrev t200:Arg:=.t 200
abbrev t201:Arg:=.t 201
abbrev t202:Arg:=.t 202
abbrev t203:Arg:=.t 203
abbrev t204:Arg:=.t 204
abbrev t205:Arg:=.t 205
abbrev t206:Arg:=.t 206
abbrev t207:Arg:=.t 207
abbrev t208:Arg:=.t 208
abbrev t209:Arg:=.t 209
abbrev t210:Arg:=.t 210
abbrev t211:Arg:=.t 211
abbrev t212:Arg:=.t 212
abbrev t213:Arg:=.t 213
abbrev t214:Arg:=.t 214
abbrev t215:Arg:=.t 215
abbrev t216:Arg:=.t 216
abbrev t217:Arg:=.t 217
abbrev t218:Arg:=.t 218
abbrev t219:Arg:=.t 219
abbrev t220:Arg:=.t 220
abbrev t221:Arg:=.t 221
abbrev t222:Arg:=.t 222
abbrev t223:Arg:=.t 223
abbrev t224:Arg:=.t 224
abbrev t225:Arg:=.t 225
abbrev t226:Arg:=.t 226
abbrev t227:Arg:=.t 227
abbrev t228:Arg:=.t 228
abbrev t229:Arg:=.t 229
abbrev t230:Arg:=.t 230
abbrev t231:Arg:=.t 231
abbrev t232:Arg:=.t 232
abbrev t233:Arg:=.t 233
abbrev t234:Arg:=.t 234
abbrev t235:Arg:=.t 235
abbrev t236:Arg:=.t 236
abbrev t237:Arg:=.t 237
abbrev t238:Arg:=.t 238
abbrev t239:Arg:=.t 239
abbrev t240:Arg:=.t 240
abbrev t241:Arg:=.t 241
abbrev t242:Arg:=.t 242
abbrev t243:Arg:=.t 243
abbrev t244:Arg:=.t 244
abbrev t245:Arg:=.t 245
abbrev t246:Arg:=.t 246
abbrev t247:Arg:=.t 247
abbrev t248:Arg:=.t 248
abbrev t249:Arg:=.t 249
abbrev t250:Arg:=.t 250
abbrev t251:Arg:=.t 251
abbrev t252:Arg:=.t 252
abbrev t253:Arg:=.t 253
abbrev t254:Arg:=.t 254
abbrev t255:Arg:=.t 255
abbrev t256:Arg:=.t 256
abbrev t257:Arg:=.t 257
abbrev t258:Arg:=.t 258
abbrev t259:Arg:=.t 259
abbrev t260:Arg:=.t 260
abbrev t261:Arg:=.t 261
abbrev t262:Arg:=.t 262
abbrev t263:Arg:=.t 263
abbrev t264:Arg:=.t 264
abbrev t265:Arg:=.t 265
abbrev t266:Arg:=.t 266
abbrev t267:Arg:=.t 267
abbrev t268:Arg:=.t 268
abbrev t269:Arg:=.t 269
abbrev t270:Arg:=.t 270
abbrev t271:Arg:=.t 271
abbrev t272:Arg:=.t 272
abbrev t273:Arg:=.t 273
abbrev t274:Arg:=.t 274
abbrev t275:Arg:=.t 275
abbrev t276:Arg:=.t 276
abbrev t277:Arg:=.t 277
abbrev t278:Arg:=.t 278
abbrev t279:Arg:=.t 279
abbrev t280:Arg:=.t 280
abbrev t281:Arg:=.t 281
abbrev t282:Arg:=.t 282
abbrev t283:Arg:=.t 283
abbrev t284:Arg:=.t 284
abbrev t285:Arg:=.t 285
abbrev t286:Arg:=.t 286
abbrev t287:Arg:=.t 287
abbrev t288:Arg:=.t 288
abbrev t289:Arg:=.t 289
abbrev t290:Arg:=.t 290
abbrev t291:Arg:=.t 291
abbrev t292:Arg:=.t 292
abbrev t293:Arg:=.t 293
abbrev t294:Arg:=.t 294
abbrev t295:Arg:=.t 295
abbrev t296:Arg:=.t 296
end Go.Eng
namespace Go.Proofs.YtbokbmjcodoccacDoor
open Go.Eng
set_option maxRecDepth 100000
noncomputable section
structure decimal_number where
 minus:Bool
 whole:BA
 digits:BA
 point:Int
 plain:Bool
 down:Bool
 exp_:BA
def zal_q:IQ:=(.seq (rg 4 [oP 4 (.mv vF)]) (.seq (rg 4 [oM 5 t0,oP 6 (.lenS t5),oM 7 t1,oP 8 (.lenS t7),oP 9 (.bi .geq t6 t8),oM 10 t9,oF 11 (.mv t0) 10,oF 12 (.mv t1) 10,oF 13 (.lenS t12) 10,oF 14 (.sub none t11 none (some t13)) 10,oF 15 (.mv t1) 10,oF 16 (.bi .eql t14 t15) 10,oP 17 (.pick t10 t16 vF),oM 4 t17]) (.cn [4] .ret)))
def zal_s(s prefix_:BA):Option Bool :=
 gd ((decide ((prefix_.size:Int)<=(s.size:Int)))=true->0<=(0:Int)/\(0:Int)<=(prefix_.size:Int)/\(prefix_.size:Int)<=s.size)<|some ((decide ((prefix_.size:Int)<=(s.size:Int))) && (decide ((s.extract 0 (Int.toNat (prefix_.size:Int)))=prefix_)))
def zal_c:CS:=mkC (qAa (dVC (dCO dS)) (qAa (dVC (dCO dS)) dNil)) dNil (λx y=>zal_s x.1 x.2.1) (λx y r=>.c (.o (.vB r))) λx y r=>[]
theorem zal_val:qAj Tryd.prog 62 zal_c:=vl0 zal_q [.tmp 4] 18 5 0 [] trivial λx y=>by
 simp only[zal_s,-eq_self,sZ];kernel_rfl
def zal_w:CQ:=qDp [] zal_c
theorem zal_ok:qAh Tryd.prog 62 zal_w:=qA9 zal_val
def zak_q:IQ:=(.seq (rg 5 [oP 4 (.mv (.v (.string ⟨#[]⟩))),oP 5 (.mv vF)]) (.seq (.seq (rg 9 [oM 6 t0,oM 7 t1,oP 8 (.call 62 [t6,t7]),oP 9 (.un .not t8)]) (.cond t9 (.seq (rg 5 [oM 10 t0,oM 4 t10,oP 5 (.mv vF)]) (.cn [4,5] .ret)) .skip)) (.seq (rg 5 [oM 11 t0,oM 12 t1,oP 13 (.lenS t12),oP 14 (.sub none t11 (some t13) none),oM 4 t14,oP 5 (.mv vT)]) (.cn [4,5] .ret))))
def zak_s(s prefix_:BA):Option (BA × Bool) :=
 (zal_s s prefix_).bind λr1 =>bif(!r1) then(some (s,false)) else(gd (0<=(prefix_.size:Int)/\(prefix_.size:Int)<=(s.size:Int)/\(s.size:Int)<=s.size)<|some ((s.extract (Int.toNat (prefix_.size:Int)) s.size),true))
def zak_c:CS:=mkC (qAa (dVC (dCO dS)) (qAa (dVC (dCO dS)) dNil)) dNil (λx y=>zak_s x.1 x.2.1) (λx y r=>.tup [.o (.vS r.1),.o (.vB r.2)]) λx y r=>[]
theorem zak_val:qAj Tryd.prog 54 zak_c:=vl0 zak_q [.tmp 4,.tmp 5] 15 6 0 [(62,zal_w)] ⟨zal_ok,tV⟩ λx y=>by
 simp only[zak_s,-eq_self,sZ];kernel_rfl
def zak_w:CQ:=qDp [] zak_c
theorem zak_ok:qAh Tryd.prog 54 zak_w:=qA9 zak_val
def zbt_q:IQ:=(.seq (rg 5 [oP 4 (.mv (.v (.string ⟨#[]⟩))),oP 5 (.mv vF)]) (.seq (rg 5 [oM 6 t0,oM 7 t1,oP 8 (.call 54 [t6,t7]),oP 9 (.extract t8 0),oP 10 (.extract t8 1),oM 4 t9,oM 5 t10]) (.cn [4,5] .ret)))
def zbt_s(s prefix_:BA):Option (BA × Bool) :=
 (zak_s s prefix_).bind λr1 =>some (r1.1,r1.2)
def zbt_c:CS:=mkC (qAa (dVC (dCO dS)) (qAa (dVC (dCO dS)) dNil)) dNil (λx y=>zbt_s x.1 x.2.1) (λx y r=>.tup [.o (.vS r.1),.o (.vB r.2)]) λx y r=>[]
theorem zbt_val:qAj Tryd.prog 49 zbt_c:=vl0 zbt_q [.tmp 4,.tmp 5] 11 6 0 [(54,zak_w)] ⟨zak_ok,tV⟩ λx y=>by
 simp only[zbt_s,-eq_self,sZ];kernel_rfl
def zbt_w:CQ:=qDp [] zbt_c
theorem zbt_ok:qAh Tryd.prog 49 zbt_w:=qA9 zbt_val
def zaj_b0:IQ:=(.loop [0,3] (.seq (.seq (rg 19 [oM 4 t3,oM 5 t0,oP 6 (.lenS t5),oP 7 (.bi .lss t4 t6),oM 8 t7,oF 9 (.mv t0) 8,oF 10 (.mv t3) 8,oF 11 (.index t9 t10) 8,oF 12 (.bi .geq t11 (vC 48)) 8,oP 13 (.pick t8 t12 vF),oM 14 t13,oF 15 (.mv t0) 14,oF 16 (.mv t3) 14,oF 17 (.index t15 t16) 14,oF 18 (.bi .leq t17 (vC 57)) 14,oP 19 (.pick t14 t18 vF)]) (.cond t19 .skip (.cn [3] (.exit 0)))) (.block 1 (rg 3 [oM 20 t3,oP 21 (.bi .add t20 (vI 1)),oM 3 t21]))))
def zaj_q:IQ:=(.seq (rg 2 [oP 2 (.mv (vI 0))]) (.seq (rg 3 [oP 3 (.mv (vI 0))]) (.seq (.block 0 (.cn [0,3] (.sub 0 zaj_b0))) (.seq (rg 2 [oM 22 t3,oM 2 t22]) (.cn [2] .ret)))))
def zaj_p0_step(s:BA)(n:Int):Option (Int ⊕ Int) :=
 gd ((decide (n<(s.size:Int)))=true->0<=n/\n<s.size)<|gd (((decide (n<(s.size:Int))) && (decide ((48:Int)<=(bAt s n))))=true->0<=n/\n<s.size)<|bif(((decide (n<(s.size:Int))) && (decide ((48:Int)<=(bAt s n)))) && (decide ((bAt s n)<=(57:Int)))) then(gd (qAc (n+(1:Int)))<|some (.inl (n+(1:Int)))) else(some (.inr n))
def zaj_p0(s:BA)(n:Int):Option Int :=
 qA0 (λx:Int=>zaj_p0_step s x) n
def zaj_s(s:BA):Option Int :=
 (zaj_p0 s (0:Int)).bind λo1 =>some o1
def zaj_G:Nat->Option CQ:=tblQ []
def zaj_d0:=(dQS (qAa (dSO 0 dS) (qAa (dSO 3 dZ) dNil)) dNil)
def zaj_l0:SubQ:=mkL zaj_d0 (λx=>zaj_p0 x.1.1 x.1.2.1) λx r R kn kx kr=>kx 0 ⟨[sL 3 (.vI r)],[],[]⟩
def zaj_L:Nat->SubQ:=tblL [(0,zaj_l0)]
theorem zaj_sub0:qBl zaj_L zaj_G 0 4 23 0 zaj_b0:=qAw (show zaj_L 0=zaj_l0 from by kernel_rfl) λx R kn kx kr=>qAi (step:=λy=>zaj_p0_step x.1.1 y) (enc:=λ(y:Int)=>zaj_d0.e ((x.1.1,y,x.1.2.2),x.2)) (λy=>by kernel_rfl) (λy ki=>by simp only[zaj_p0_step,-eq_self,sZ];kernel_rfl) x.1.2.1
def zaj_c:CS:=mkC (qAa (dVC (dCO dS)) dNil) dNil (λx y=>zaj_s x.1) (λx y r=>.c (.o (.vI r))) λx y r=>[]
theorem zaj_val:qAj Tryd.prog 50 zaj_c:=vl1 zaj_q [.tmp 2] 23 4 0 (show qA8 zaj_L zaj_G 0 4 23 [(0,zaj_b0)] from⟨zaj_sub0,tV⟩) (λf C h=>by cases h) λx y=>by
 simp only[zaj_s,-eq_self,sZ];kernel_rfl
def zaj_w:CQ:=qDp [] zaj_c
theorem zaj_ok:qAh Tryd.prog 50 zaj_w:=qA9 zaj_val
def zbw_b0:IQ:=(.loop [0,1] (.seq (.seq (rg 13 [oM 5 t0,oP 6 (.lenS t5),oP 7 (.bi .gtr t6 (vI 0)),oM 8 t7,oF 9 (.mv t0) 8,oF 10 (.index t9 (vI 0)) 8,oF 11 (.mv t1) 8,oF 12 (.bi .eql t10 t11) 8,oP 13 (.pick t8 t12 vF)]) (.cond t13 .skip (.cn [0] (.exit 0)))) (.block 1 (rg 0 [oM 14 t0,oP 15 (.sub none t14 (some (vI 1)) none),oM 0 t15]))))
def zbw_q:IQ:=(.seq (rg 4 [oP 4 (.mv (.v (.string ⟨#[]⟩)))]) (.seq (.block 0 (.cn [0,1] (.sub 0 zbw_b0))) (.seq (rg 4 [oM 16 t0,oM 4 t16]) (.cn [4] .ret))))
def zbw_p0_step(s:BA)(c:Int):Option (BA ⊕ BA) :=
 gd ((decide ((0:Int)<(s.size:Int)))=true->0<=(0:Int)/\(0:Int)<s.size)<|bif((decide ((0:Int)<(s.size:Int))) && (decide ((bAt s (0:Int))=c))) then(gd (0<=(1:Int)/\(1:Int)<=(s.size:Int)/\(s.size:Int)<=s.size)<|some (.inl (s.extract 1 s.size))) else(some (.inr s))
def zbw_p0(s:BA)(c:Int):Option BA :=
 qA0 (λx:BA=>zbw_p0_step x c) s
def zbw_s(s:BA)(c:Int):Option BA :=
 (zbw_p0 s c).bind λo1 =>some o1
def zbw_G:Nat->Option CQ:=tblQ []
def zbw_d0:=(dQS (qAa (dSO 0 dS) (qAa (dSO 1 (dI .u8)) dNil)) dNil)
def zbw_l0:SubQ:=mkL zbw_d0 (λx=>zbw_p0 x.1.1 x.1.2.1) λx r R kn kx kr=>kx 0 ⟨[sL 0 (.vS r)],[],[]⟩
def zbw_L:Nat->SubQ:=tblL [(0,zbw_l0)]
theorem zbw_sub0:qBl zbw_L zbw_G 0 5 17 0 zbw_b0:=qAw (show zbw_L 0=zbw_l0 from by kernel_rfl) λx R kn kx kr=>qAi (step:=λy=>zbw_p0_step y x.1.2.1) (enc:=λ(y:BA)=>zbw_d0.e ((y,x.1.2),x.2)) (λy=>by kernel_rfl) (λy ki=>by simp only[zbw_p0_step,-eq_self,sZ];kernel_rfl) x.1.1
def zbw_c:CS:=mkC (qAa (dVC (dCO dS)) (qAa (dVC (dCO (dI .u8))) dNil)) dNil (λx y=>zbw_s x.1 x.2.1) (λx y r=>.c (.o (.vS r))) λx y r=>[]
theorem zbw_val:qAj Tryd.prog 55 zbw_c:=vl1 zbw_q [.tmp 4] 17 5 0 (show qA8 zbw_L zbw_G 0 5 17 [(0,zbw_b0)] from⟨zbw_sub0,tV⟩) (λf C h=>by cases h) λx y=>by
 simp only[zbw_s,-eq_self,sZ];kernel_rfl
def zbw_w:CQ:=qDp [] zbw_c
theorem zbw_ok:qAh Tryd.prog 55 zbw_w:=qA9 zbw_val
def zbu_q:IQ:=(.seq (rg 4 [oP 4 (.mv (.v (.string ⟨#[]⟩)))]) (.seq (.seq (rg 12 [oM 7 t0,oP 8 (.bi .eql t7 (.v (.string ⟨#[]⟩))),oM 9 t8,oE 10 (.mv t1) 9,oE 11 (.bi .eql t10 (.v (.string ⟨#[]⟩))) 9,oP 12 (.pick t9 vT t11)]) (.cond t12 (.seq (rg 4 [oM 13 t0,oM 4 t13]) (.cn [4] .ret)) .skip)) (.seq (.seq (rg 21 [oM 14 t1,oP 15 (.lenS t14),oP 16 (.bi .eql t15 (vI 1)),oM 17 t16,oF 18 (.mv t1) 17,oF 19 (.index t18 (vI 0)) 17,oF 20 (.bi .lss t19 (vC 128)) 17,oP 21 (.pick t17 t20 vF)]) (.cond t21 (.seq (rg 4 [oM 22 t0,oM 23 t1,oP 24 (.index t23 (vI 0)),oP 25 (.call 55 [t22,t24]),oM 4 t25]) (.cn [4] .ret)) .skip)) (.seq (.seq (rg 6 [oM 27 t1,oP 28 (.call 56 [t27]),oM 26 t28,oP 29 (.extract t26 0),oP 30 (.extract t26 1),oP 5 (.alloc 109 [.bool false,.bool false,.bool false,.bool false,.bool false,.bool false,.bool false,.bool false,.bool false,.bool false,.bool false,.bool false,.bool false,.bool false,.bool false,.bool false,.bool false,.bool false,.bool false,.bool false,.bool false,.bool false,.bool false,.bool false,.bool false,.bool false,.bool false,.bool false,.bool false,.bool false,.bool false,.bool false,.bool false,.bool false,.bool false,.bool false,.bool false,.bool false,.bool false,.bool false,.bool false,.bool false,.bool false,.bool false,.bool false,.bool false,.bool false,.bool false,.bool false,.bool false,.bool false,.bool false,.bool false,.bool false,.bool false,.bool false,.bool false,.bool false,.bool false,.bool false,.bool false,.bool false,.bool false,.bool false,.bool false,.bool false,.bool false,.bool false,.bool false,.bool false,.bool false,.bool false,.bool false,.bool false,.bool false,.bool false,.bool false,.bool false,.bool false,.bool false,.bool false,.bool false,.bool false,.bool false,.bool false,.bool false,.bool false,.bool false,.bool false,.bool false,.bool false,.bool false,.bool false,.bool false,.bool false,.bool false,.bool false,.bool false,.bool false,.bool false,.bool false,.bool false,.bool false,.bool false,.bool false,.bool false,.bool false,.bool false,.bool false,.bool false,.bool false,.bool false,.bool false,.bool false,.bool false,.bool false,.bool false,.bool false,.bool false,.bool false,.bool false,.bool false,.bool false,.bool false,.bool false,.bool false,.bool false,.bool false,.bool false,.bool false,.bool false,.bool false,.bool false,.bool false,.bool false,.bool false,.bool false,.bool false,.bool false,.bool false,.bool false,.bool false,.bool false,.bool false,.bool false,.bool false,.bool false,.bool false,.bool false,.bool false,.bool false,.bool false,.bool false,.bool false,.bool false,.bool false,.bool false,.bool false,.bool false,.bool false,.bool false,.bool false,.bool false,.bool false,.bool false,.bool false,.bool false,.bool false,.bool false,.bool false,.bool false,.bool false,.bool false,.bool false,.bool false,.bool false,.bool false,.bool false,.bool false,.bool false,.bool false,.bool false,.bool false,.bool false,.bool false,.bool false,.bool false,.bool false,.bool false,.bool false,.bool false,.bool false,.bool false,.bool false,.bool false,.bool false,.bool false,.bool false,.bool false,.bool false,.bool false,.bool false,.bool false,.bool false,.bool false,.bool false,.bool false,.bool false,.bool false,.bool false,.bool false,.bool false,.bool false,.bool false,.bool false,.bool false,.bool false,.bool false,.bool false,.bool false,.bool false,.bool false,.bool false,.bool false,.bool false,.bool false,.bool false,.bool false,.bool false,.bool false,.bool false,.bool false,.bool false,.bool false,.bool false,.bool false,.bool false,.bool false,.bool false,.bool false,.bool false,.bool false,.bool false,.bool false,.bool false,.bool false,.bool false,.bool false,.bool false,.bool false,.bool false,.bool false,.bool false,.bool false,.bool false,.bool false]),oN (.store 256 t5 t29),oM 6 t30]) (.seq (rg 31 [oM 31 t6]) (.cond t31 (.seq (rg 4 [oM 32 t0,oP 33 (.call 57 [t32,t5]),oM 4 t33]) (.cn [4] .ret)) .skip))) (.seq (rg 4 [oM 34 t0,oM 35 t1,oP 36 (.call 58 [t34,t35]),oM 4 t36]) (.cn [4] .ret))))))
def zbu_s(s cutset:BA):Option BA :=
 bif((decide (s=(⟨#[]⟩:BA))) || (decide (cutset=(⟨#[]⟩:BA)))) then(some s) else(gd ((decide ((cutset.size:Int)=(1:Int)))=true->0<=(0:Int)/\(0:Int)<cutset.size)<|bif((decide ((cutset.size:Int)=(1:Int))) && (decide ((bAt cutset (0:Int))<(128:Int)))) then(gd (0<=(0:Int)/\(0:Int)<cutset.size)<|(zbw_s s (bAt cutset (0:Int))).bind λr1 =>some r1) else(none))
def zbu_c:CS:=mkC (qAa (dVC (dCO dS)) (qAa (dVC (dCO dS)) dNil)) dNil (λx y=>zbu_s x.1 x.2.1) (λx y r=>.c (.o (.vS r))) λx y r=>[]
theorem zbu_val:qAj Tryd.prog 51 zbu_c:=vl0 zbu_q [.tmp 4] 37 7 0 [(55,zbw_w)] ⟨zbw_ok,tV⟩ λx y=>by
 simp only[zbu_s,-eq_self,sZ];kernel_rfl
def zbu_w:CQ:=qDp [] zbu_c
theorem zbu_ok:qAh Tryd.prog 51 zbu_w:=qA9 zbu_val
def zbx_b0:IQ:=(.loop [0,1] (.seq (.seq (rg 16 [oM 5 t0,oP 6 (.lenS t5),oP 7 (.bi .gtr t6 (vI 0)),oM 8 t7,oF 9 (.mv t0) 8,oF 10 (.mv t0) 8,oF 11 (.lenS t10) 8,oF 12 (.bi .sub t11 (vI 1)) 8,oF 13 (.index t9 t12) 8,oF 14 (.mv t1) 8,oF 15 (.bi .eql t13 t14) 8,oP 16 (.pick t8 t15 vF)]) (.cond t16 .skip (.cn [0] (.exit 0)))) (.block 1 (rg 0 [oM 17 t0,oM 18 t0,oP 19 (.lenS t18),oP 20 (.bi .sub t19 (vI 1)),oP 21 (.sub none t17 none (some t20)),oM 0 t21]))))
def zbx_q:IQ:=(.seq (rg 4 [oP 4 (.mv (.v (.string ⟨#[]⟩)))]) (.seq (.block 0 (.cn [0,1] (.sub 0 zbx_b0))) (.seq (rg 4 [oM 22 t0,oM 4 t22]) (.cn [4] .ret))))
def zbx_p0_step(s:BA)(c:Int):Option (BA ⊕ BA) :=
 gd ((decide ((0:Int)<(s.size:Int)))=true->qAc ((s.size:Int) - (1:Int)))<|gd ((decide ((0:Int)<(s.size:Int)))=true->0<=((s.size:Int) - (1:Int))/\((s.size:Int) - (1:Int))<s.size)<|bif((decide ((0:Int)<(s.size:Int))) && (decide ((bAt s ((s.size:Int) - (1:Int)))=c))) then(gd (qAc ((s.size:Int) - (1:Int)))<|gd (0<=(0:Int)/\(0:Int)<=((s.size:Int) - (1:Int))/\((s.size:Int) - (1:Int))<=s.size)<|some (.inl (s.extract 0 (Int.toNat ((s.size:Int) - (1:Int)))))) else(some (.inr s))
def zbx_p0(s:BA)(c:Int):Option BA :=
 qA0 (λx:BA=>zbx_p0_step x c) s
def zbx_s(s:BA)(c:Int):Option BA :=
 (zbx_p0 s c).bind λo1 =>some o1
def zbx_G:Nat->Option CQ:=tblQ []
def zbx_d0:=(dQS (qAa (dSO 0 dS) (qAa (dSO 1 (dI .u8)) dNil)) dNil)
def zbx_l0:SubQ:=mkL zbx_d0 (λx=>zbx_p0 x.1.1 x.1.2.1) λx r R kn kx kr=>kx 0 ⟨[sL 0 (.vS r)],[],[]⟩
def zbx_L:Nat->SubQ:=tblL [(0,zbx_l0)]
theorem zbx_sub0:qBl zbx_L zbx_G 0 5 23 0 zbx_b0:=qAw (show zbx_L 0=zbx_l0 from by kernel_rfl) λx R kn kx kr=>qAi (step:=λy=>zbx_p0_step y x.1.2.1) (enc:=λ(y:BA)=>zbx_d0.e ((y,x.1.2),x.2)) (λy=>by kernel_rfl) (λy ki=>by simp only[zbx_p0_step,-eq_self,sZ];kernel_rfl) x.1.1
def zbx_c:CS:=mkC (qAa (dVC (dCO dS)) (qAa (dVC (dCO (dI .u8))) dNil)) dNil (λx y=>zbx_s x.1 x.2.1) (λx y r=>.c (.o (.vS r))) λx y r=>[]
theorem zbx_val:qAj Tryd.prog 59 zbx_c:=vl1 zbx_q [.tmp 4] 23 5 0 (show qA8 zbx_L zbx_G 0 5 23 [(0,zbx_b0)] from⟨zbx_sub0,tV⟩) (λf C h=>by cases h) λx y=>by
 simp only[zbx_s,-eq_self,sZ];kernel_rfl
def zbx_w:CQ:=qDp [] zbx_c
theorem zbx_ok:qAh Tryd.prog 59 zbx_w:=qA9 zbx_val
def zbv_q:IQ:=(.seq (rg 4 [oP 4 (.mv (.v (.string ⟨#[]⟩)))]) (.seq (.seq (rg 12 [oM 7 t0,oP 8 (.bi .eql t7 (.v (.string ⟨#[]⟩))),oM 9 t8,oE 10 (.mv t1) 9,oE 11 (.bi .eql t10 (.v (.string ⟨#[]⟩))) 9,oP 12 (.pick t9 vT t11)]) (.cond t12 (.seq (rg 4 [oM 13 t0,oM 4 t13]) (.cn [4] .ret)) .skip)) (.seq (.seq (rg 21 [oM 14 t1,oP 15 (.lenS t14),oP 16 (.bi .eql t15 (vI 1)),oM 17 t16,oF 18 (.mv t1) 17,oF 19 (.index t18 (vI 0)) 17,oF 20 (.bi .lss t19 (vC 128)) 17,oP 21 (.pick t17 t20 vF)]) (.cond t21 (.seq (rg 4 [oM 22 t0,oM 23 t1,oP 24 (.index t23 (vI 0)),oP 25 (.call 59 [t22,t24]),oM 4 t25]) (.cn [4] .ret)) .skip)) (.seq (.seq (rg 6 [oM 27 t1,oP 28 (.call 56 [t27]),oM 26 t28,oP 29 (.extract t26 0),oP 30 (.extract t26 1),oP 5 (.alloc 109 [.bool false,.bool false,.bool false,.bool false,.bool false,.bool false,.bool false,.bool false,.bool false,.bool false,.bool false,.bool false,.bool false,.bool false,.bool false,.bool false,.bool false,.bool false,.bool false,.bool false,.bool false,.bool false,.bool false,.bool false,.bool false,.bool false,.bool false,.bool false,.bool false,.bool false,.bool false,.bool false,.bool false,.bool false,.bool false,.bool false,.bool false,.bool false,.bool false,.bool false,.bool false,.bool false,.bool false,.bool false,.bool false,.bool false,.bool false,.bool false,.bool false,.bool false,.bool false,.bool false,.bool false,.bool false,.bool false,.bool false,.bool false,.bool false,.bool false,.bool false,.bool false,.bool false,.bool false,.bool false,.bool false,.bool false,.bool false,.bool false,.bool false,.bool false,.bool false,.bool false,.bool false,.bool false,.bool false,.bool false,.bool false,.bool false,.bool false,.bool false,.bool false,.bool false,.bool false,.bool false,.bool false,.bool false,.bool false,.bool false,.bool false,.bool false,.bool false,.bool false,.bool false,.bool false,.bool false,.bool false,.bool false,.bool false,.bool false,.bool false,.bool false,.bool false,.bool false,.bool false,.bool false,.bool false,.bool false,.bool false,.bool false,.bool false,.bool false,.bool false,.bool false,.bool false,.bool false,.bool false,.bool false,.bool false,.bool false,.bool false,.bool false,.bool false,.bool false,.bool false,.bool false,.bool false,.bool false,.bool false,.bool false,.bool false,.bool false,.bool false,.bool false,.bool false,.bool false,.bool false,.bool false,.bool false,.bool false,.bool false,.bool false,.bool false,.bool false,.bool false,.bool false,.bool false,.bool false,.bool false,.bool false,.bool false,.bool false,.bool false,.bool false,.bool false,.bool false,.bool false,.bool false,.bool false,.bool false,.bool false,.bool false,.bool false,.bool false,.bool false,.bool false,.bool false,.bool false,.bool false,.bool false,.bool false,.bool false,.bool false,.bool false,.bool false,.bool false,.bool false,.bool false,.bool false,.bool false,.bool false,.bool false,.bool false,.bool false,.bool false,.bool false,.bool false,.bool false,.bool false,.bool false,.bool false,.bool false,.bool false,.bool false,.bool false,.bool false,.bool false,.bool false,.bool false,.bool false,.bool false,.bool false,.bool false,.bool false,.bool false,.bool false,.bool false,.bool false,.bool false,.bool false,.bool false,.bool false,.bool false,.bool false,.bool false,.bool false,.bool false,.bool false,.bool false,.bool false,.bool false,.bool false,.bool false,.bool false,.bool false,.bool false,.bool false,.bool false,.bool false,.bool false,.bool false,.bool false,.bool false,.bool false,.bool false,.bool false,.bool false,.bool false,.bool false,.bool false,.bool false,.bool false,.bool false,.bool false,.bool false,.bool false,.bool false,.bool false,.bool false,.bool false,.bool false,.bool false,.bool false,.bool false,.bool false,.bool false,.bool false]),oN (.store 256 t5 t29),oM 6 t30]) (.seq (rg 31 [oM 31 t6]) (.cond t31 (.seq (rg 4 [oM 32 t0,oP 33 (.call 60 [t32,t5]),oM 4 t33]) (.cn [4] .ret)) .skip))) (.seq (rg 4 [oM 34 t0,oM 35 t1,oP 36 (.call 61 [t34,t35]),oM 4 t36]) (.cn [4] .ret))))))
def zbv_s(s cutset:BA):Option BA :=
 bif((decide (s=(⟨#[]⟩:BA))) || (decide (cutset=(⟨#[]⟩:BA)))) then(some s) else(gd ((decide ((cutset.size:Int)=(1:Int)))=true->0<=(0:Int)/\(0:Int)<cutset.size)<|bif((decide ((cutset.size:Int)=(1:Int))) && (decide ((bAt cutset (0:Int))<(128:Int)))) then(gd (0<=(0:Int)/\(0:Int)<cutset.size)<|(zbx_s s (bAt cutset (0:Int))).bind λr1 =>some r1) else(none))
def zbv_c:CS:=mkC (qAa (dVC (dCO dS)) (qAa (dVC (dCO dS)) dNil)) dNil (λx y=>zbv_s x.1 x.2.1) (λx y r=>.c (.o (.vS r))) λx y r=>[]
theorem zbv_val:qAj Tryd.prog 52 zbv_c:=vl0 zbv_q [.tmp 4] 37 7 0 [(59,zbx_w)] ⟨zbx_ok,tV⟩ λx y=>by
 simp only[zbv_s,-eq_self,sZ];kernel_rfl
def zbv_w:CQ:=qDp [] zbv_c
theorem zbv_ok:qAh Tryd.prog 52 zbv_w:=qA9 zbv_val
def zai_b0:IQ:=(.join [] [0,4,6,7] (.seq (rg 8 [oM 29 t0,oP 30 (.call 50 [t29]),oM 8 t30]) (.seq (.seq (rg 41 [oM 31 t8,oP 32 (.bi .eql t31 (vI 0)),oM 33 t32,oE 34 (.mv t8) 33,oE 35 (.bi .gtr t34 (vI 1)) 33,oE 36 (.mv t35) 33,oF 37 (.mv t0) 36,oF 38 (.index t37 (vI 0)) 36,oF 39 (.bi .eql t38 (vC 48)) 36,oE 40 (.pick t36 t39 vF) 33,oP 41 (.pick t33 vT t40)]) (.cond t41 (.seq (rg 5 [oP 42 (.load (some 7) t6),oN (.store 7 t4 t42),oP 5 (.mv vF)]) (.cn [4,5] .ret)) .skip)) (.reg 0 (some [0,1,2,3,4,5,6,7,8]) [oM 43 t0,oM 44 t8,oP 45 (.sub none t43 none (some t44)),oM 46 t0,oM 47 t8,oP 48 (.sub none t46 (some t47) none),oP 49 (.faddr 1 t6),oN (.store 1 t49 t45),oM 0 t48]))))
def zai_b1:IQ:=(.join [] [0,4,6,7] (.seq (rg 10 [oM 51 t0,oP 52 (.call 49 [t51,(.v (.string ⟨#[46]⟩))]),oM 50 t52,oP 53 (.extract t50 0),oP 54 (.extract t50 1),oM 9 t53,oM 10 t54]) (.seq (rg 55 [oM 55 t10]) (.cond t55 (.seq (rg 11 [oM 56 t9,oP 57 (.call 50 [t56]),oM 11 t57]) (.seq (.seq (rg 59 [oM 58 t11,oP 59 (.bi .eql t58 (vI 0))]) (.cond t59 (.seq (rg 5 [oP 60 (.load (some 7) t6),oN (.store 7 t4 t60),oP 5 (.mv vF)]) (.cn [4,5] .ret)) .skip)) (.reg 0 (some [0,1,2,3,4,5,6,7,8,9]) [oM 61 t9,oM 62 t11,oP 63 (.sub none t61 none (some t62)),oM 64 t9,oM 65 t11,oP 66 (.sub none t64 (some t65) none),oP 67 (.faddr 4 t6),oN (.store 1 t67 vF),oM 7 t63,oM 0 t66]))) .skip))))
def zai_b3:IQ:=(.join [] [0,4,6,7] (.seq (.seq (rg 104 [oM 96 t0,oP 97 (.bi .eql t96 (.v (.string ⟨#[]⟩))),oM 98 t97,oE 99 (.mv t0) 98,oE 100 (.call 50 [t99]) 98,oE 101 (.mv t0) 98,oE 102 (.lenS t101) 98,oE 103 (.bi .neq t100 t102) 98,oP 104 (.pick t98 vT t103)]) (.cond t104 (.seq (rg 5 [oP 105 (.load (some 7) t6),oN (.store 7 t4 t105),oP 5 (.mv vF)]) (.cn [4,5] .ret)) .skip)) (rg 0 [oM 106 t0,oP 107 (.call 51 [t106,(.v (.string ⟨#[48]⟩))]),oP 108 (.faddr 4 t6),oN (.store 1 t108 vF),oP 109 (.faddr 6 t6),oN (.store 1 t109 t107),oP 0 (.mv (.v (.string ⟨#[]⟩)))])))
def zai_b2:IQ:=(.seq (.seq (rg 75 [oM 68 t0,oP 69 (.bi .neq t68 (.v (.string ⟨#[]⟩))),oM 70 t69,oF 71 (.mv t0) 70,oF 72 (.index t71 (vI 0)) 70,oF 73 (.bi .or t72 (vC 32)) 70,oF 74 (.bi .eql t73 (vC 101)) 70,oP 75 (.pick t70 t74 vF)]) (.cond t75 (.seq (rg 0 [oM 76 t0,oP 77 (.sub none t76 (some (vI 1)) none),oM 0 t77]) (.seq (.seq (rg 89 [oM 78 t0,oP 79 (.bi .neq t78 (.v (.string ⟨#[]⟩))),oM 80 t79,oF 81 (.mv t0) 80,oF 82 (.index t81 (vI 0)) 80,oF 83 (.bi .eql t82 (vC 43)) 80,oF 84 (.mv t83) 80,oE 85 (.mv t0) 84,oE 86 (.index t85 (vI 0)) 84,oE 87 (.bi .eql t86 (vC 45)) 84,oF 88 (.pick t84 vT t87) 80,oP 89 (.pick t80 t88 vF)]) (.cond t89 (.reg 0 (some [0,1,2,3,4,5,6,7]) [oM 90 t0,oP 91 (.index t90 (vI 0)),oP 92 (.bi .eql t91 (vC 45)),oM 93 t0,oP 94 (.sub none t93 (some (vI 1)) none),oP 95 (.faddr 5 t6),oN (.store 1 t95 t92),oM 0 t94]) .skip)) (.cn [0,4,6,7] (.sub 3 zai_b3)))) .skip)) (.cn [0,4,6,7] (.exit 0)))
def zai_b4:IQ:=(.seq (rg 12 [oP 110 (.faddr 1 t6),oP 111 (.load none t110),oM 112 t7,oP 113 (.bi .add t111 t112),oM 12 t113]) (.seq (rg 0 [oM 114 t12,oP 115 (.call 51 [t114,(.v (.string ⟨#[48]⟩))]),oP 116 (.faddr 2 t6),oN (.store 1 t116 t115)]) (.seq (rg 0 [oP 117 (.faddr 1 t6),oP 118 (.load none t117),oP 119 (.lenS t118),oM 120 t12,oP 121 (.lenS t120),oP 122 (.faddr 2 t6),oP 123 (.load none t122),oP 124 (.lenS t123),oP 125 (.bi .sub t121 t124),oP 126 (.bi .sub t119 t125),oP 127 (.faddr 3 t6),oN (.store 1 t127 t126)]) (.seq (rg 0 [oP 128 (.faddr 2 t6),oP 129 (.load none t128),oP 130 (.call 52 [t129,(.v (.string ⟨#[48]⟩))]),oP 131 (.faddr 2 t6),oN (.store 1 t131 t130)]) (.seq (.seq (rg 134 [oP 132 (.faddr 6 t6),oP 133 (.load none t132),oP 134 (.bi .eql t133 (.v (.string ⟨#[]⟩)))]) (.cond t134 (rg 0 [oP 135 (.faddr 5 t6),oN (.store 1 t135 vF)]) .skip)) (.seq (rg 5 [oP 136 (.load (some 7) t6),oM 137 t0,oP 138 (.bi .eql t137 (.v (.string ⟨#[]⟩))),oN (.store 7 t4 t136),oM 5 t138]) (.cn [4,5] .ret)))))))
def zai_q:IQ:=(.seq (rg 5 [oP 4 (.alloc 93 [.bool false,.string ⟨#[]⟩,.string ⟨#[]⟩,.int .i64 0,.bool false,.bool false,.string ⟨#[]⟩]),oP 5 (.mv vF)]) (.seq (rg 0 [oP 13 (.build [.bool false,.string ⟨#[]⟩,.string ⟨#[]⟩,.int .i64 0,.bool false,.bool false,.string ⟨#[]⟩] [(4,1,vT)]),oP 6 (.alloc 93 [.bool false,.string ⟨#[]⟩,.string ⟨#[]⟩,.int .i64 0,.bool false,.bool false,.string ⟨#[]⟩]),oN (.store 7 t6 t13)]) (.seq (rg 7 [oP 7 (.mv (.v (.string ⟨#[]⟩)))]) (.seq (.seq (rg 14 [oM 14 t1]) (.block 0 (.seq (.block 4 (.seq (.block 3 (.seq (.block 2 (.seq (.block 1 (.seq (.seq (.seq (rg 15 [oP 16 (.bi .eql t14 (vI 0)),oM 15 t16]) (.cond t15 (.exit 1) .skip)) (.seq (.seq (rg 17 [oP 18 (.bi .eql t14 (vI 1)),oM 17 t18]) (.cond t17 (.exit 2) .skip)) (.seq (.seq (rg 19 [oP 20 (.bi .eql t14 (vI 2)),oM 19 t20]) (.cond t19 (.exit 3) .skip)) (.seq (rg 21 [oP 22 (.bi .eql t14 (vI 3)),oM 21 t22]) (.cond t21 (.exit 4) .skip))))) (.exit 0))) (rg 0 [oM 24 t0,oP 25 (.call 49 [t24,(.v (.string ⟨#[45]⟩))]),oM 23 t25,oP 26 (.extract t23 0),oP 27 (.extract t23 1),oM 0 t26,oP 28 (.faddr 0 t6),oN (.store 1 t28 t27)]))) (.cn [0,4,6,7] (.sub 0 zai_b0)))) (.cn [0,4,6,7] (.sub 1 zai_b1)))) (.cn [0,4,6,7] (.sub 2 zai_b2))))) (.cn [0,4,6,7] (.sub 4 zai_b4))))))
def zai_p0(s:BA):Option (Bool ⊕ (BA × BA)) :=
 (zaj_s s).bind λr2 =>gd ((decide ((1:Int)<r2))=true->(decide (r2=(0:Int)))=false->0<=(0:Int)/\(0:Int)<s.size)<|bif((decide (r2=(0:Int))) || ((decide ((1:Int)<r2)) && (decide ((bAt s (0:Int))=(48:Int))))) then(some (.inl false)) else(gd (0<=(0:Int)/\(0:Int)<=r2/\r2<=s.size)<|gd (0<=r2/\r2<=(s.size:Int)/\(s.size:Int)<=s.size)<|some (.inr ((s.extract r2.toNat s.size),(s.extract 0 r2.toNat))))
def zai_p1(s behind:BA)(n_plain:Bool):Option (Bool ⊕ (BA × BA × Bool)) :=
 (zbt_s s (⟨#[46]⟩:BA)).bind λr4 =>bif r4.2 then((zaj_s r4.1).bind λr5 =>bif decide (r5=(0:Int)) then(some (.inl false)) else(gd (0<=(0:Int)/\(0:Int)<=r5/\r5<=r4.1.size)<|gd (0<=r5/\r5<=(r4.1.size:Int)/\(r4.1.size:Int)<=r4.1.size)<|some (.inr ((r4.1.extract r5.toNat r4.1.size),(r4.1.extract 0 r5.toNat),false)))) else(some (.inr (s,behind,n_plain)))
def zai_p3(s:BA):Option (Bool ⊕ (BA × Bool × BA)) :=
 bif decide (s=(⟨#[]⟩:BA)) then(some (.inl false)) else((zaj_s s).bind λr7 =>bif(!decide (r7=(s.size:Int))) then(some (.inl false)) else((zbu_s s (⟨#[48]⟩:BA)).bind λr8 =>some (.inr ((⟨#[]⟩:BA),false,r8))))
def zai_p2(s:BA)(n_plain n_down:Bool)(n_exp:BA):Option ((Bool × Bool) ⊕ (BA × Bool × Bool × BA)) :=
 gd ((!decide (s=(⟨#[]⟩:BA)))=true->0<=(0:Int)/\(0:Int)<s.size)<|bif((!decide (s=(⟨#[]⟩:BA))) && (decide ((qBm .u8 (bAt s (0:Int)) (32:Int))=(101:Int)))) then(gd (0<=(1:Int)/\(1:Int)<=(s.size:Int)/\(s.size:Int)<=s.size)<|gd ((!decide ((s.extract 1 s.size)=(⟨#[]⟩:BA)))=true->0<=(0:Int)/\(0:Int)<(s.extract 1 s.size).size)<|gd ((decide ((bAt (s.extract 1 s.size) (0:Int))=(43:Int)))=false->(!decide ((s.extract 1 s.size)=(⟨#[]⟩:BA)))=true->0<=(0:Int)/\(0:Int)<(s.extract 1 s.size).size)<|bif((!decide ((s.extract 1 s.size)=(⟨#[]⟩:BA))) && ((decide ((bAt (s.extract 1 s.size) (0:Int))=(43:Int))) || (decide ((bAt (s.extract 1 s.size) (0:Int))=(45:Int))))) then(gd (0<=(0:Int)/\(0:Int)<(s.extract 1 s.size).size)<|gd (0<=(1:Int)/\(1:Int)<=((s.extract 1 s.size).size:Int)/\((s.extract 1 s.size).size:Int)<=(s.extract 1 s.size).size)<|(zai_p3 ((s.extract 1 s.size).extract 1 (s.extract 1 s.size).size)).bind λo9=>(Sum.elim (λ(o9_0:Bool) =>some (.inl (o9_0,decide ((bAt (s.extract 1 s.size) (0:Int))=(45:Int))))) (λ(o9_1:BA × Bool × BA) =>some (.inr (o9_1.1,o9_1.2.1,decide ((bAt (s.extract 1 s.size) (0:Int))=(45:Int)),o9_1.2.2)))) o9) else((zai_p3 (s.extract 1 s.size)).bind λo10=>(Sum.elim (λ(o10_0:Bool) =>some (.inl (o10_0,n_down))) (λ(o10_1:BA × Bool × BA) =>some (.inr (o10_1.1,o10_1.2.1,n_down,o10_1.2.2)))) o10)) else(some (.inr (s,n_plain,n_down,n_exp)))
def zai_p4(s behind n_whole:BA)(n_down:Bool)(n_exp:BA):Option (Bool × BA × Int × Bool) :=
 gd (n_whole.size+behind.size<=9223372036854775807)<|(zbu_s (n_whole++behind) (⟨#[48]⟩:BA)).bind λr12 =>gd (qAc (((n_whole++behind).size:Int) - (r12.size:Int)))<|gd (qAc ((n_whole.size:Int) - (((n_whole++behind).size:Int) - (r12.size:Int))))<|(zbv_s r12 (⟨#[48]⟩:BA)).bind λr13 =>bif decide (n_exp=(⟨#[]⟩:BA)) then(some (decide (s=(⟨#[]⟩:BA)),r13,((n_whole.size:Int) - (((n_whole++behind).size:Int) - (r12.size:Int))),false)) else(some (decide (s=(⟨#[]⟩:BA)),r13,((n_whole.size:Int) - (((n_whole++behind).size:Int) - (r12.size:Int))),n_down))
def zai_s(s:BA)(part:Int):Option (decimal_number × Bool) :=
 bif decide (part=(0:Int)) then((zbt_s s (⟨#[45]⟩:BA)).bind λr1 =>(zai_p0 r1.1).bind λo3=>(Sum.elim (λ(o3_0:Bool) =>some ((⟨r1.2,(⟨#[]⟩:BA),(⟨#[]⟩:BA),(0:Int),true,false,(⟨#[]⟩:BA)⟩:decimal_number),o3_0)) (λ(o3_1:BA × BA) =>(zai_p1 o3_1.1 (⟨#[]⟩:BA) true).bind λo6=>(Sum.elim (λ(o6_0:Bool) =>some ((⟨r1.2,o3_1.2,(⟨#[]⟩:BA),(0:Int),true,false,(⟨#[]⟩:BA)⟩:decimal_number),o6_0)) (λ(o6_1:BA × BA × Bool) =>(zai_p2 o6_1.1 o6_1.2.2 false (⟨#[]⟩:BA)).bind λo11=>(Sum.elim (λ(o11_0:Bool × Bool) =>some ((⟨r1.2,o3_1.2,(⟨#[]⟩:BA),(0:Int),o6_1.2.2,o11_0.2,(⟨#[]⟩:BA)⟩:decimal_number),o11_0.1)) (λ(o11_1:BA × Bool × Bool × BA) =>(zai_p4 o11_1.1 o6_1.2.1 o3_1.2 o11_1.2.2.1 o11_1.2.2.2).bind λo14 =>some ((⟨r1.2,o3_1.2,o14.2.1,o14.2.2.1,o11_1.2.1,o14.2.2.2,o11_1.2.2.2⟩:decimal_number),o14.1))) o11)) o6)) o3) else(bif decide (part=(1:Int)) then((zai_p0 s).bind λo15=>(Sum.elim (λ(o15_0:Bool) =>some ((⟨false,(⟨#[]⟩:BA),(⟨#[]⟩:BA),(0:Int),true,false,(⟨#[]⟩:BA)⟩:decimal_number),o15_0)) (λ(o15_1:BA × BA) =>(zai_p1 o15_1.1 (⟨#[]⟩:BA) true).bind λo16=>(Sum.elim (λ(o16_0:Bool) =>some ((⟨false,o15_1.2,(⟨#[]⟩:BA),(0:Int),true,false,(⟨#[]⟩:BA)⟩:decimal_number),o16_0)) (λ(o16_1:BA × BA × Bool) =>(zai_p2 o16_1.1 o16_1.2.2 false (⟨#[]⟩:BA)).bind λo17=>(Sum.elim (λ(o17_0:Bool × Bool) =>some ((⟨false,o15_1.2,(⟨#[]⟩:BA),(0:Int),o16_1.2.2,o17_0.2,(⟨#[]⟩:BA)⟩:decimal_number),o17_0.1)) (λ(o17_1:BA × Bool × Bool × BA) =>(zai_p4 o17_1.1 o16_1.2.1 o15_1.2 o17_1.2.2.1 o17_1.2.2.2).bind λo18 =>some ((⟨false,o15_1.2,o18.2.1,o18.2.2.1,o17_1.2.1,o18.2.2.2,o17_1.2.2.2⟩:decimal_number),o18.1))) o17)) o16)) o15) else(bif decide (part=(2:Int)) then((zai_p1 s (⟨#[]⟩:BA) true).bind λo19=>(Sum.elim (λ(o19_0:Bool) =>some ((⟨false,(⟨#[]⟩:BA),(⟨#[]⟩:BA),(0:Int),true,false,(⟨#[]⟩:BA)⟩:decimal_number),o19_0)) (λ(o19_1:BA × BA × Bool) =>(zai_p2 o19_1.1 o19_1.2.2 false (⟨#[]⟩:BA)).bind λo20=>(Sum.elim (λ(o20_0:Bool × Bool) =>some ((⟨false,(⟨#[]⟩:BA),(⟨#[]⟩:BA),(0:Int),o19_1.2.2,o20_0.2,(⟨#[]⟩:BA)⟩:decimal_number),o20_0.1)) (λ(o20_1:BA × Bool × Bool × BA) =>(zai_p4 o20_1.1 o19_1.2.1 (⟨#[]⟩:BA) o20_1.2.2.1 o20_1.2.2.2).bind λo21 =>some ((⟨false,(⟨#[]⟩:BA),o21.2.1,o21.2.2.1,o20_1.2.1,o21.2.2.2,o20_1.2.2.2⟩:decimal_number),o21.1))) o20)) o19) else(bif decide (part=(3:Int)) then((zai_p2 s true false (⟨#[]⟩:BA)).bind λo22=>(Sum.elim (λ(o22_0:Bool × Bool) =>some ((⟨false,(⟨#[]⟩:BA),(⟨#[]⟩:BA),(0:Int),true,o22_0.2,(⟨#[]⟩:BA)⟩:decimal_number),o22_0.1)) (λ(o22_1:BA × Bool × Bool × BA) =>(zai_p4 o22_1.1 (⟨#[]⟩:BA) (⟨#[]⟩:BA) o22_1.2.2.1 o22_1.2.2.2).bind λo23 =>some ((⟨false,(⟨#[]⟩:BA),o23.2.1,o23.2.2.1,o22_1.2.1,o23.2.2.2,o22_1.2.2.2⟩:decimal_number),o23.1))) o22) else((zai_p4 s (⟨#[]⟩:BA) (⟨#[]⟩:BA) false (⟨#[]⟩:BA)).bind λo24 =>some ((⟨false,(⟨#[]⟩:BA),o24.2.1,o24.2.2.1,true,o24.2.2.2,(⟨#[]⟩:BA)⟩:decimal_number),o24.1)))))
def zai_G:Nat->Option CQ:=tblQ [(49,zbt_w),(50,zaj_w),(51,zbu_w),(52,zbv_w)]
def zDGC1:=(qC7 93 (qAa dB (qAa dS (qAa dS (qAa dZ (qAa dB (qAa dB (qAa dS dNil))))))))
def zDGC2:=(qAa (dSO 0 dS) (qAa (dSO 4 (dH 0 0)) (qAa (dSO 6 (dH 1 0)) (qAa (dSO 7 dS) dNil))))
def zDGC3:=(qAa zDGC1 (qAa zDGC1 dNil))
def zai_d0:=(dQS zDGC2 zDGC3)
def zai_l0:SubQ:=mkL zai_d0 (λx=>zai_p0 x.1.1) λx r R kn kx kr=>(Sum.elim (λ(r_0:Bool)=>kr ⟨[sL 4 (.hd 0 0),sL 5 (.vB r_0)],[],[.cells 93 [.vB x.2.2.1.1,.vS x.2.2.1.2.1,.vS x.2.2.1.2.2.1,.vI x.2.2.1.2.2.2.1,.vB x.2.2.1.2.2.2.2.1,.vB x.2.2.1.2.2.2.2.2.1,.vS x.2.2.1.2.2.2.2.2.2.1]]⟩) (λ(r_1:BA × BA)=>kn ⟨[sL 0 (.vS r_1.1),sL 4 (.hd 0 0),sL 6 (.hd 1 0),sL 7 (.vS x.1.2.2.2.1)],[],[.cells 93 [.vB x.2.1.1,.vS x.2.1.2.1,.vS x.2.1.2.2.1,.vI x.2.1.2.2.2.1,.vB x.2.1.2.2.2.2.1,.vB x.2.1.2.2.2.2.2.1,.vS x.2.1.2.2.2.2.2.2.1],.cells 93 [.vB x.2.2.1.1,.vS r_1.2,.vS x.2.2.1.2.2.1,.vI x.2.2.1.2.2.2.1,.vB x.2.2.1.2.2.2.2.1,.vB x.2.2.1.2.2.2.2.2.1,.vS x.2.2.1.2.2.2.2.2.2.1]]⟩)) r
def zai_d1:=(dQS zDGC2 zDGC3)
def zai_l1:SubQ:=mkL zai_d1 (λx=>zai_p1 x.1.1 x.1.2.2.2.1 x.2.2.1.2.2.2.2.1) λx r R kn kx kr=>(Sum.elim (λ(r_0:Bool)=>kr ⟨[sL 4 (.hd 0 0),sL 5 (.vB r_0)],[],[.cells 93 [.vB x.2.2.1.1,.vS x.2.2.1.2.1,.vS x.2.2.1.2.2.1,.vI x.2.2.1.2.2.2.1,.vB x.2.2.1.2.2.2.2.1,.vB x.2.2.1.2.2.2.2.2.1,.vS x.2.2.1.2.2.2.2.2.2.1]]⟩) (λ(r_1:BA × BA × Bool)=>kn ⟨[sL 0 (.vS r_1.1),sL 4 (.hd 0 0),sL 6 (.hd 1 0),sL 7 (.vS r_1.2.1)],[],[.cells 93 [.vB x.2.1.1,.vS x.2.1.2.1,.vS x.2.1.2.2.1,.vI x.2.1.2.2.2.1,.vB x.2.1.2.2.2.2.1,.vB x.2.1.2.2.2.2.2.1,.vS x.2.1.2.2.2.2.2.2.1],.cells 93 [.vB x.2.2.1.1,.vS x.2.2.1.2.1,.vS x.2.2.1.2.2.1,.vI x.2.2.1.2.2.2.1,.vB r_1.2.2,.vB x.2.2.1.2.2.2.2.2.1,.vS x.2.2.1.2.2.2.2.2.2.1]]⟩)) r
def zai_d3:=(dQS zDGC2 zDGC3)
def zai_l3:SubQ:=mkL zai_d3 (λx=>zai_p3 x.1.1) λx r R kn kx kr=>(Sum.elim (λ(r_0:Bool)=>kr ⟨[sL 4 (.hd 0 0),sL 5 (.vB r_0)],[],[.cells 93 [.vB x.2.2.1.1,.vS x.2.2.1.2.1,.vS x.2.2.1.2.2.1,.vI x.2.2.1.2.2.2.1,.vB x.2.2.1.2.2.2.2.1,.vB x.2.2.1.2.2.2.2.2.1,.vS x.2.2.1.2.2.2.2.2.2.1]]⟩) (λ(r_1:BA × Bool × BA)=>kn ⟨[sL 0 (.vS r_1.1),sL 4 (.hd 0 0),sL 6 (.hd 1 0),sL 7 (.vS x.1.2.2.2.1)],[],[.cells 93 [.vB x.2.1.1,.vS x.2.1.2.1,.vS x.2.1.2.2.1,.vI x.2.1.2.2.2.1,.vB x.2.1.2.2.2.2.1,.vB x.2.1.2.2.2.2.2.1,.vS x.2.1.2.2.2.2.2.2.1],.cells 93 [.vB x.2.2.1.1,.vS x.2.2.1.2.1,.vS x.2.2.1.2.2.1,.vI x.2.2.1.2.2.2.1,.vB r_1.2.1,.vB x.2.2.1.2.2.2.2.2.1,.vS r_1.2.2]]⟩)) r
def zai_d2:=(dQS zDGC2 zDGC3)
def zai_l2:SubQ:=mkL zai_d2 (λx=>zai_p2 x.1.1 x.2.2.1.2.2.2.2.1 x.2.2.1.2.2.2.2.2.1 x.2.2.1.2.2.2.2.2.2.1) λx r R kn kx kr=>(Sum.elim (λ(r_0:Bool × Bool)=>kr ⟨[sL 4 (.hd 0 0),sL 5 (.vB r_0.1)],[],[.cells 93 [.vB x.2.2.1.1,.vS x.2.2.1.2.1,.vS x.2.2.1.2.2.1,.vI x.2.2.1.2.2.2.1,.vB x.2.2.1.2.2.2.2.1,.vB r_0.2,.vS x.2.2.1.2.2.2.2.2.2.1]]⟩) (λ(r_1:BA × Bool × Bool × BA)=>kx 0 ⟨[sL 0 (.vS r_1.1),sL 4 (.hd 0 0),sL 6 (.hd 1 0),sL 7 (.vS x.1.2.2.2.1)],[],[.cells 93 [.vB x.2.1.1,.vS x.2.1.2.1,.vS x.2.1.2.2.1,.vI x.2.1.2.2.2.1,.vB x.2.1.2.2.2.2.1,.vB x.2.1.2.2.2.2.2.1,.vS x.2.1.2.2.2.2.2.2.1],.cells 93 [.vB x.2.2.1.1,.vS x.2.2.1.2.1,.vS x.2.2.1.2.2.1,.vI x.2.2.1.2.2.2.1,.vB r_1.2.1,.vB r_1.2.2.1,.vS r_1.2.2.2]]⟩)) r
def zai_d4:=(dQS zDGC2 zDGC3)
def zai_l4:SubQ:=mkL zai_d4 (λx=>zai_p4 x.1.1 x.1.2.2.2.1 x.2.2.1.2.1 x.2.2.1.2.2.2.2.2.1 x.2.2.1.2.2.2.2.2.2.1) λx r R kn kx kr=>kr ⟨[sL 4 (.hd 0 0),sL 5 (.vB r.1)],[],[.cells 93 [.vB x.2.2.1.1,.vS x.2.2.1.2.1,.vS r.2.1,.vI r.2.2.1,.vB x.2.2.1.2.2.2.2.1,.vB r.2.2.2,.vS x.2.2.1.2.2.2.2.2.2.1]]⟩
def zai_L:Nat->SubQ:=tblL [(0,zai_l0),(1,zai_l1),(3,zai_l3),(2,zai_l2),(4,zai_l4)]
theorem zai_sub0:qBl zai_L zai_G 0 15 139 0 zai_b0:=qAw (show zai_L 0=zai_l0 from by kernel_rfl) λx R kn kx kr=>by
 simp only[zai_p0,-eq_self,sZ];kernel_rfl
theorem zai_sub1:qBl zai_L zai_G 0 15 139 1 zai_b1:=qAw (show zai_L 1=zai_l1 from by kernel_rfl) λx R kn kx kr=>by
 simp only[zai_p1,-eq_self,sZ];kernel_rfl
theorem zai_sub3:qBl zai_L zai_G 0 15 139 3 zai_b3:=qAw (show zai_L 3=zai_l3 from by kernel_rfl) λx R kn kx kr=>by
 simp only[zai_p3,-eq_self,sZ];kernel_rfl
theorem zai_sub2:qBl zai_L zai_G 0 15 139 2 zai_b2:=qAw (show zai_L 2=zai_l2 from by kernel_rfl) λx R kn kx kr=>by
 simp only[zai_p2,-eq_self,sZ];kernel_rfl
theorem zai_sub4:qBl zai_L zai_G 0 15 139 4 zai_b4:=qAw (show zai_L 4=zai_l4 from by kernel_rfl) λx R kn kx kr=>by
 simp only[zai_p4,-eq_self,sZ];kernel_rfl
def zai_c:CS:=mkC (qAa (dVC (dCO dS)) (qAa (dVC (dCO dZ)) dNil)) dNil (λx y=>zai_s x.1 x.2.1) (λx y r=>.tup [.agg [.vB r.1.minus,.vS r.1.whole,.vS r.1.digits,.vI r.1.point,.vB r.1.plain,.vB r.1.down,.vS r.1.exp_],.o (.vB r.2)]) λx y r=>[]
theorem zai_val:qAj Tryd.prog 46 zai_c:=vl1 zai_q [.cell 4 (some 7),.tmp 5] 139 15 0 (show qA8 zai_L zai_G 0 15 139 [(0,zai_b0),(1,zai_b1),(2,zai_b2),(3,zai_b3),(4,zai_b4)] from⟨zai_sub0,zai_sub1,zai_sub2,zai_sub3,zai_sub4,tV⟩) (qAt ⟨zbt_ok,zaj_ok,zbu_ok,zbv_ok,tV⟩) λx y=>by
 simp only[zai_s,-eq_self,sZ];kernel_rfl
def zai_w:CQ:=qDp [] zai_c
theorem zai_ok:qAh Tryd.prog 46 zai_w:=qA9 zai_val
def zah_b0:IQ:=(.loop [4,6,23,24] (.seq (rg 25 [oP 25 (.bi .lss t24 t23)]) (.seq (.cond t25 .skip (.cn [4,6] (.exit 0))) (.seq (.block 1 (.seq (rg 7 [oM 26 t24,oM 7 t26]) (.seq (rg 8 [oP 27 (.faddr 1 t4),oP 28 (.load none t27),oM 29 t7,oP 30 (.index t28 t29),oP 31 (.bi .sub t30 (vC 48)),oP 32 (.conv false .u64 t31),oM 8 t32]) (.seq (.seq (rg 37 [oM 33 t6,oM 34 t8,oP 35 (.bi .sub (.v (.int .u64 9223372036854775808)) t34),oP 36 (.bi .quo t35 (.v (.int .u64 10))),oP 37 (.bi .gtr t33 t36)]) (.cond t37 (.seq (rg 3 [oP 2 (.mv (vI 0)),oP 3 (.mv vF)]) (.cn [2,3] .ret)) .skip)) (rg 6 [oM 38 t6,oP 39 (.bi .mul (.v (.int .u64 10)) t38),oM 40 t8,oP 41 (.bi .add t39 t40),oM 6 t41]))))) (rg 24 [oP 42 (.bi .add t24 (vI 1)),oM 24 t42])))))
def zah_q:IQ:=(.seq (rg 3 [oP 2 (.mv (vI 0)),oP 3 (.mv vF)]) (.seq (rg 5 [oM 10 t0,oP 11 (.call 46 [t10,(vI 0)]),oM 9 t11,oP 12 (.extract t9 0),oP 13 (.extract t9 1),oP 4 (.alloc 93 [.bool false,.string ⟨#[]⟩,.string ⟨#[]⟩,.int .i64 0,.bool false,.bool false,.string ⟨#[]⟩]),oN (.store 7 t4 t12),oM 5 t13]) (.seq (.seq (rg 20 [oM 14 t5,oP 15 (.un .not t14),oM 16 t15,oE 17 (.faddr 4 t4) 16,oE 18 (.load none t17) 16,oE 19 (.un .not t18) 16,oP 20 (.pick t16 vT t19)]) (.cond t20 (.seq (rg 3 [oP 2 (.mv (vI 0)),oP 3 (.mv vF)]) (.cn [2,3] .ret)) .skip)) (.seq (rg 6 [oP 6 (.mv (.v (.int .u64 0)))]) (.seq (.seq (rg 24 [oP 21 (.faddr 1 t4),oP 22 (.load none t21),oP 23 (.lenS t22),oP 24 (.mv (vI 0))]) (.block 0 (.cn [4,6,23,24] (.sub 0 zah_b0)))) (.seq (.seq (rg 49 [oP 43 (.faddr 0 t4),oP 44 (.load none t43),oP 45 (.un .not t44),oM 46 t45,oF 47 (.mv t6) 46,oF 48 (.bi .eql t47 (.v (.int .u64 9223372036854775808))) 46,oP 49 (.pick t46 t48 vF)]) (.cond t49 (.seq (rg 3 [oP 2 (.mv (vI 0)),oP 3 (.mv vF)]) (.cn [2,3] .ret)) .skip)) (.seq (.seq (rg 51 [oP 50 (.faddr 0 t4),oP 51 (.load none t50)]) (.cond t51 (rg 6 [oM 52 t6,oP 53 (.un .neg t52),oM 6 t53]) .skip)) (.seq (rg 3 [oM 54 t6,oP 55 (.conv true .i64 t54),oM 2 t55,oP 3 (.mv vT)]) (.cn [2,3] .ret)))))))))
def qDx(v x23_ x24_:Int)(n_whole:BA):Option ((Int × Int) ⊕ ((Int × Bool) ⊕ Int)) :=
 bif decide (x24_<x23_) then(gd (0<=x24_/\x24_<n_whole.size)<|gd (0<=(((9223372036854775808:Int) - ((((bAt n_whole x24_) - (48:Int)) % 256) % 18446744073709551616)) % 18446744073709551616)/\(((9223372036854775808:Int) - ((((bAt n_whole x24_) - (48:Int)) % 256) % 18446744073709551616)) % 18446744073709551616)<=18446744073709551615/\1<=(10:Int))<|bif decide (((((9223372036854775808:Int) - ((((bAt n_whole x24_) - (48:Int)) % 256) % 18446744073709551616)) % 18446744073709551616) / (10:Int))<v) then(some (.inr (.inl ((0:Int),false)))) else(gd (qAc (x24_+(1:Int)))<|some (.inl ((((((10:Int)*v) % 18446744073709551616)+((((bAt n_whole x24_) - (48:Int)) % 256) % 18446744073709551616)) % 18446744073709551616),(x24_+(1:Int)))))) else(some (.inr (.inr v)))
def zah_p0(v x23_ x24_:Int)(n_whole:BA):Option ((Int × Bool) ⊕ Int) :=
 qA0 (λx:(Int × Int)=>qDx x.1 x23_ x.2 n_whole) (v,x24_)
def zah_s(text:BA):Option (Int × Bool) :=
 (zai_s text (0:Int)).bind λr3 =>bif((!r3.2) || (!r3.1.plain)) then(some ((0:Int),false)) else((zah_p0 (0:Int) (r3.1.whole.size:Int) (0:Int) r3.1.whole).bind λo4=>(Sum.elim (λ(o4_0:Int × Bool) =>some (o4_0.1,o4_0.2)) (λ(o4_1:Int) =>bif((!r3.1.minus) && (decide (o4_1=(9223372036854775808:Int)))) then(some ((0:Int),false)) else(bif r3.1.minus then(some (w64 ((0 - o4_1) % 18446744073709551616),true)) else(some (w64 o4_1,true))))) o4)
def zah_G:Nat->Option CQ:=tblQ [(46,zai_w)]
def zah_d0:=(dQS (qAa (dSO 4 (dH 0 0)) (qAa (dSO 6 (dI .u64)) (qAa (dSO 23 dZ) (qAa (dSO 24 dZ) dNil)))) (qAa zDGC1 dNil))
def zah_l0:SubQ:=mkL zah_d0 (λx=>zah_p0 x.1.2.1 x.1.2.2.1 x.1.2.2.2.1 x.2.1.2.1) λx r R kn kx kr=>(Sum.elim (λ(r_0:Int × Bool)=>kr ⟨[sL 2 (.vI r_0.1),sL 3 (.vB r_0.2)],[],[]⟩) (λ(r_1:Int)=>kx 0 ⟨[sL 4 (.hd 0 0),(6,[],.c (.o (.val (.int .u64 r_1))))],[],[.cells 93 [.vB x.2.1.1,.vS x.2.1.2.1,.vS x.2.1.2.2.1,.vI x.2.1.2.2.2.1,.vB x.2.1.2.2.2.2.1,.vB x.2.1.2.2.2.2.2.1,.vS x.2.1.2.2.2.2.2.2.1]]⟩)) r
def zah_L:Nat->SubQ:=tblL [(0,zah_l0)]
theorem zah_sub0:qBl zah_L zah_G 0 25 56 0 zah_b0:=qAw (show zah_L 0=zah_l0 from by kernel_rfl) λx R kn kx kr=>qAi (step:=λy=>qDx y.1 x.1.2.2.1 y.2 x.2.1.2.1) (enc:=λ(y:Int × Int)=>zah_d0.e ((x.1.1,y.1,x.1.2.2.1,y.2,x.1.2.2.2.2),x.2)) (λy=>by kernel_rfl) (λy ki=>by simp only[qDx,-eq_self,sZ];kernel_rfl) (x.1.2.1,x.1.2.2.2.1)
def zah_c:CS:=mkC (qAa (dVC (dCO dS)) dNil) dNil (λx y=>zah_s x.1) (λx y r=>.tup [.o (.vI r.1),.o (.vB r.2)]) λx y r=>[]
theorem zah_val:qAj Tryd.prog 41 zah_c:=vl1 zah_q [.tmp 2,.tmp 3] 56 25 0 (raws:=[55]) (show qA8 zah_L zah_G 0 25 56 [(0,zah_b0)] from⟨zah_sub0,tV⟩) (qAt ⟨zai_ok,tV⟩) λx y=>by
 simp only[zah_s,-eq_self,sZ];kernel_rfl
def zah_w:CQ:=qDp [] zah_c
theorem zah_ok:qAh Tryd.prog 41 zah_w:=qA9 zah_val
end
structure DKey where
 ds:List Int
 pow:Int
def Dig(l:List Int):Prop:=∀d∈l,0<=d/\d<=9
def LastNZ:List Int->Prop
 | []=>True
 | [d]=>d≠0
 | _::l=>LastNZ l
structure Norm (a:DKey):Prop where
 dig:Dig a.ds
 last:LastNZ a.ds
 first:∀d,a.ds.head?=some d->d≠0
end Go.Proofs.YtbokbmjcodoccacDoor
namespace Go.Proofs.YtbokbmjcodoccacDoor
open Go.Eng
end Go.Proofs.YtbokbmjcodoccacDoor
namespace Go.Proofs.YtbokbmjcodoccacDoor
open Go.Eng
end Go.Proofs.YtbokbmjcodoccacDoor
namespace Go.Proofs.YtbokbmjcodoccacDoor
open Go.Eng
def chr(d:Int):UInt8:=UInt8.ofNat ((48+d) % 256).toNat
def byteD(l:List Int):List UInt8:=l.map chr
def dotF(F:List Int):List UInt8:=if F=[] then [] else 46::byteD F
structure NumTxt (t:BA) (W F:List Int):Prop where
 txt:t.data.toList=byteD W++dotF F
 dw:Dig W
 df:Dig F
 ne:W≠[]
 head:W.head?≠some 0\/W.length=1
section
variable {t:BA} {W F:List Int} (h:NumTxt t W F)
include h
end
end Go.Proofs.YtbokbmjcodoccacDoor
namespace Go.Proofs.YtbokbmjcodoccacDoor
open Go.Eng
section
variable (s:BA) (hsz:s.size<1000000000)
include hsz
end
section
variable (s:BA) (hsz:s.size<1000000000)
include hsz
end
end Go.Proofs.YtbokbmjcodoccacDoor
namespace Go.Proofs.YtbokbmjcodoccacDoor
open Go.Eng
set_option maxRecDepth 100000
noncomputable section
def zam_b0:IQ:=(.loop [0,1,5] (.seq (.seq (rg 21 [oM 14 t5,oP 15 (.bi .gtr t14 (vI 0)),oM 16 t15,oF 17 (.mv t1) 16,oF 18 (.mv t0) 16,oF 19 (.len t18) 16,oF 20 (.bi .lss t17 t19) 16,oP 21 (.pick t16 t20 vF)]) (.cond t21 .skip (.cn [1] (.exit 0)))) (.seq (.block 1 (rg 5 [oM 24 t5,oM 25 t0,oM 26 t1,oP 27 (.iaddr 6 t25 t26),oP 28 (.faddr 5 t27),oP 29 (.load none t28),oP 30 (.bin true .sub t29 (vI 1)),oP 31 (.bin true .add t24 t30),oM 5 t31])) (rg 1 [oM 22 t1,oP 23 (.bi .add t22 (vI 1)),oM 1 t23]))))
def zam_q:IQ:=(.seq (rg 4 [oP 4 (.mv (vI 0))]) (.seq (.seq (rg 13 [oM 6 t1,oP 7 (.bi .lss t6 (vI 0)),oM 8 t7,oE 9 (.mv t1) 8,oE 10 (.mv t0) 8,oE 11 (.len t10) 8,oE 12 (.bi .geq t9 t11) 8,oP 13 (.pick t8 vT t12)]) (.cond t13 (.seq (rg 4 [oP 4 (.mv (.v (.int .i64 (-1))))]) (.cn [4] .ret)) .skip)) (.seq (.seq (rg 5 [oP 5 (.mv (vI 1))]) (.block 0 (.cn [0,1,5] (.sub 0 zam_b0)))) (.seq (rg 4 [oM 32 t1,oM 4 t32]) (.cn [4] .ret)))))
def qDy(at_ left:Int)(v:List Eng.Node):Option ((Int × Int) ⊕ Int) :=
 bif((decide ((0:Int)<left)) && (decide (at_<(v.length:Int)))) then(gd (0<=at_/\at_<v.length)<|gd (at_.toNat<v.length)<|gd (at_.toNat<v.length)<|gd (qAc (at_+(1:Int)))<|some (.inl ((at_+(1:Int)),w64 (left+(w64 (((v.getD at_.toNat (ET.dft .node)).kids) - (1:Int))))))) else(some (.inr at_))
def zam_p0(at_ left:Int)(v:List Eng.Node):Option Int :=
 qA0 (λx:(Int × Int)=>qDy x.1 x.2 v) (at_,left)
def zam_s(v:(List Eng.Node))(at_:Int):Option Int :=
 bif((decide (at_<(0:Int))) || (decide ((v.length:Int)<=at_))) then(some (-1:Int)) else((zam_p0 at_ (1:Int) v).bind λo1 =>some o1)
def zam_G:Nat->Option CQ:=tblQ []
def zam_d0:=(dQS (qAa (dSO 0 (dO 0)) (qAa (dSO 1 dZ) (qAa (dSO 5 dZ) dNil))) (qAa (qA5 .node) dNil))
def zam_l0:SubQ:=mkL zam_d0 (λx=>zam_p0 x.1.2.1 x.1.2.2.1 x.2.1) λx r R kn kx kr=>kx 0 ⟨[sL 1 (.vI r)],[],[.view .node x.2.1]⟩
def zam_L:Nat->SubQ:=tblL [(0,zam_l0)]
theorem zam_sub0:qBl zam_L zam_G 1 6 33 0 zam_b0:=qAw (show zam_L 0=zam_l0 from by kernel_rfl) λx R kn kx kr=>qAi (step:=λy=>qDy y.1 y.2 x.2.1) (enc:=λ(y:Int × Int)=>zam_d0.e ((x.1.1,y.1,y.2,x.1.2.2.2),x.2)) (λy=>by kernel_rfl) (λy ki=>by simp only[qDy,-eq_self,sZ];kernel_rfl) (x.1.2.1,x.1.2.2.1)
def zam_c:CS:=mkC (qAa (dVC (dCO (dO 0))) (qAa (dVC (dCO dZ)) dNil)) (qAa (qA5 .node) dNil) (λx y=>zam_s y.1 x.2.1) (λx y r=>.c (.o (.vI r))) λx y r=>[.view .node y.1]
theorem zam_val:qAj Tryd.prog 21 zam_c:=vl1 zam_q [.tmp 4] 33 6 1 (raws:=[30,31]) (show qA8 zam_L zam_G 1 6 33 [(0,zam_b0)] from⟨zam_sub0,tV⟩) (λf C h=>by cases h) λx y=>by
 simp only[zam_s,-eq_self,sZ];kernel_rfl
def zam_w:CQ:=qBy [(0,none,some (.node,37))] (qDp [false] zam_c)
theorem zam_ok:qAh Tryd.prog 21 zam_w:=qCc zam_val
def zan_b0:IQ:=(.loop [0,1,5,6,7] (.seq (.seq (rg 34 [oM 18 t7,oM 19 t0,oM 20 t1,oP 21 (.iaddr 6 t19 t20),oP 22 (.faddr 5 t21),oP 23 (.load none t22),oP 24 (.bi .lss t18 t23),oM 25 t24,oF 26 (.mv t6) 25,oF 27 (.bi .geq t26 (vI 0)) 25,oP 28 (.pick t25 t27 vF),oM 29 t28,oF 30 (.mv t6) 29,oF 31 (.mv t0) 29,oF 32 (.len t31) 29,oF 33 (.bi .lss t30 t32) 29,oP 34 (.pick t29 t33 vF)]) (.cond t34 .skip (.cn [5] (.exit 0)))) (.seq (.block 1 (.seq (rg 5 [oM 37 t5,oM 38 t6,oP 39 (.bslice 3 1 1 [.int .i64 0] [(0,t38)]),oP 40 (.append 3 1 8 [.int .i64 0] t37 t39),oM 5 t40]) (rg 6 [oM 41 t0,oM 42 t6,oP 43 (.call 21 [t41,t42]),oM 6 t43]))) (rg 7 [oM 35 t7,oP 36 (.bi .add t35 (vI 1)),oM 7 t36]))))
def zan_q:IQ:=(.seq (rg 4 [oP 4 (.mv (.v (.slice none 0 0)))]) (.seq (.seq (rg 15 [oM 8 t1,oP 9 (.bi .lss t8 (vI 0)),oM 10 t9,oE 11 (.mv t1) 10,oE 12 (.mv t0) 10,oE 13 (.len t12) 10,oE 14 (.bi .geq t11 t13) 10,oP 15 (.pick t10 vT t14)]) (.cond t15 (.seq (rg 4 [oP 4 (.mv (.v (.slice none 0 0)))]) (.canon [(4,none,.i64,3)] [4] .ret)) .skip)) (.seq (rg 5 [oP 5 (.mv (.v (.slice none 0 0)))]) (.seq (rg 6 [oM 16 t1,oP 17 (.bi .add t16 (vI 1)),oM 6 t17]) (.seq (.seq (rg 7 [oP 7 (.mv (vI 0))]) (.block 0 (.canon [(5,none,.i64,3)] [0,1,5,6,7] (.sub 0 zan_b0)))) (.seq (rg 4 [oM 44 t5,oM 4 t44]) (.canon [(4,none,.i64,3)] [4] .ret)))))))
def qFb(at_ next i:Int)(v:List Eng.Node)(out:List Int):Option ((Int × Int × (List Int)) ⊕ ((List Int))) :=
 gd (0<=at_/\at_<v.length)<|gd (at_.toNat<v.length)<|gd (at_.toNat<v.length)<|bif(((decide (i<((v.getD at_.toNat (ET.dft .node)).kids))) && (decide ((0:Int)<=next))) && (decide (next<(v.length:Int)))) then(gd (out.length+([next]:List Int).length<=9223372036854775807/\(out.length+([next]:List Int).length)*8<=140737488355328)<|(zam_s v next).bind λr5 =>gd (qAc (i+(1:Int)))<|some (.inl (r5,(i+(1:Int)),(out++[next])))) else(some (.inr out))
def zan_p0(at_ next i:Int)(v:List Eng.Node)(out:List Int):Option ((List Int)) :=
 qA0 (λx:(Int × Int × (List Int))=>qFb at_ x.1 x.2.1 v x.2.2) (next,i,out)
def zan_s(v:(List Eng.Node))(at_:Int):Option ((List Int)) :=
 bif((decide (at_<(0:Int))) || (decide ((v.length:Int)<=at_))) then(some []) else(gd (qAc (at_+(1:Int)))<|(zan_p0 at_ (at_+(1:Int)) (0:Int) v []).bind λo6 =>some o6)
def zan_G:Nat->Option CQ:=tblQ [(21,zam_w)]
def zan_d0:=(dQS (qAa (dSO 0 (dO 0)) (qAa (dSO 1 dZ) (qAa (dSO 5 (dO 1)) (qAa (dSO 6 dZ) (qAa (dSO 7 dZ) dNil))))) (qAa (qA5 .node) (qAa (dRow .i64 3) dNil)))
def zan_l0:SubQ:=mkL zan_d0 (λx=>zan_p0 x.1.2.1 x.1.2.2.2.1 x.1.2.2.2.2.1 x.2.1 x.2.2.1) λx r R kn kx kr=>kx 0 ⟨[sL 5 (.own 1)],[],[.view .node x.2.1,.row .i64 3 r]⟩
def zan_L:Nat->SubQ:=tblL [(0,zan_l0)]
theorem zan_sub0:qBl zan_L zan_G 1 8 45 0 zan_b0:=qAw (show zan_L 0=zan_l0 from by kernel_rfl) λx R kn kx kr=>qAi (step:=λy=>qFb x.1.2.1 y.1 y.2.1 x.2.1 y.2.2) (enc:=λ(y:Int × Int × (List Int))=>zan_d0.e ((x.1.1,x.1.2.1,x.1.2.2.1,y.1,y.2.1,x.1.2.2.2.2.2),(x.2.1,y.2.2,x.2.2.2))) (λy=>by kernel_rfl) (λy ki=>by simp only[qFb,-eq_self,sZ];kernel_rfl) (x.1.2.2.2.1,x.1.2.2.2.2.1,x.2.2.1)
def zan_c:CS:=mkC (qAa (dVC (dCO (dO 0))) (qAa (dVC (dCO dZ)) dNil)) (qAa (qA5 .node) dNil) (λx y=>zan_s y.1 x.2.1) (λx y r=>.c (.o (.own 1))) λx y r=>[.view .node y.1,.row .i64 3 r]
theorem zan_val:qAj Tryd.prog 12 zan_c:=vl1 zan_q [.tmp 4] 45 8 1 (show qA8 zan_L zan_G 1 8 45 [(0,zan_b0)] from⟨zan_sub0,tV⟩) (qAt ⟨zam_ok,tV⟩) λx y=>by
 simp only[zan_s,-eq_self,sZ];kernel_rfl
def zan_w:CQ:=qBy [(0,none,some (.node,37))] (qDc [false] zan_c)
theorem zan_ok:qAh Tryd.prog 12 zan_w:=qAo zan_val
def zao_b0:IQ:=(.loop [0,1,2,7,8] (.seq (.seq (rg 43 [oM 27 t8,oM 28 t0,oM 29 t1,oP 30 (.iaddr 6 t28 t29),oP 31 (.faddr 5 t30),oP 32 (.load none t31),oP 33 (.bi .lss t27 t32),oM 34 t33,oF 35 (.mv t7) 34,oF 36 (.bi .geq t35 (vI 0)) 34,oP 37 (.pick t34 t36 vF),oM 38 t37,oF 39 (.mv t7) 38,oF 40 (.mv t0) 38,oF 41 (.len t40) 38,oF 42 (.bi .lss t39 t41) 38,oP 43 (.pick t38 t42 vF)]) (.cond t43 .skip (.cn [] (.exit 0)))) (.seq (.block 1 (.seq (.seq (rg 52 [oM 46 t0,oM 47 t7,oP 48 (.iaddr 6 t46 t47),oP 49 (.faddr 1 t48),oP 50 (.load none t49),oM 51 t2,oP 52 (.bi .eql t50 t51)]) (.cond t52 (.seq (rg 6 [oM 53 t7,oM 6 t53]) (.cn [6] .ret)) .skip)) (rg 7 [oM 54 t0,oM 55 t7,oP 56 (.call 21 [t54,t55]),oM 7 t56]))) (rg 8 [oM 44 t8,oP 45 (.bi .add t44 (vI 1)),oM 8 t45]))))
def zao_q:IQ:=(.seq (rg 6 [oP 6 (.mv (vI 0))]) (.seq (.seq (rg 24 [oM 9 t1,oP 10 (.bi .lss t9 (vI 0)),oM 11 t10,oE 12 (.mv t1) 11,oE 13 (.mv t0) 11,oE 14 (.len t13) 11,oE 15 (.bi .geq t12 t14) 11,oP 16 (.pick t11 vT t15),oM 17 t16,oE 18 (.mv t0) 17,oE 19 (.mv t1) 17,oE 20 (.iaddr 6 t18 t19) 17,oE 21 (.faddr 0 t20) 17,oE 22 (.load none t21) 17,oE 23 (.bi .neq t22 (vI 7)) 17,oP 24 (.pick t17 vT t23)]) (.cond t24 (.seq (rg 6 [oP 6 (.mv (.v (.int .i64 (-1))))]) (.cn [6] .ret)) .skip)) (.seq (rg 7 [oM 25 t1,oP 26 (.bi .add t25 (vI 1)),oM 7 t26]) (.seq (.seq (rg 8 [oP 8 (.mv (vI 0))]) (.block 0 (.cn [0,1,2,7,8] (.sub 0 zao_b0)))) (.seq (rg 6 [oP 6 (.mv (.v (.int .i64 (-1))))]) (.cn [6] .ret))))))
def qDz(at_:Int)(key:BA)(next i:Int)(v:List Eng.Node):Option ((Int × Int) ⊕ (Int ⊕ Unit)) :=
 gd (0<=at_/\at_<v.length)<|gd (at_.toNat<v.length)<|gd (at_.toNat<v.length)<|bif(((decide (i<((v.getD at_.toNat (ET.dft .node)).kids))) && (decide ((0:Int)<=next))) && (decide (next<(v.length:Int)))) then(gd (0<=next/\next<v.length)<|gd (next.toNat<v.length)<|gd (next.toNat<v.length)<|bif decide (((v.getD next.toNat (ET.dft .node)).key)=key) then(some (.inr (.inl next))) else((zam_s v next).bind λr3 =>gd (qAc (i+(1:Int)))<|some (.inl (r3,(i+(1:Int)))))) else(some (.inr (.inr ())))
def zao_p0(at_:Int)(key:BA)(next i:Int)(v:List Eng.Node):Option (Int ⊕ Unit) :=
 qA0 (λx:(Int × Int)=>qDz at_ key x.1 x.2 v) (next,i)
def zao_s(v:(List Eng.Node))(at_:Int)(key:BA):Option Int :=
 gd (((decide (at_<(0:Int))) || (decide ((v.length:Int)<=at_)))=false->0<=at_/\at_<v.length)<|gd (((decide (at_<(0:Int))) || (decide ((v.length:Int)<=at_)))=false->at_.toNat<v.length)<|gd (((decide (at_<(0:Int))) || (decide ((v.length:Int)<=at_)))=false->at_.toNat<v.length)<|bif(((decide (at_<(0:Int))) || (decide ((v.length:Int)<=at_))) || (!decide (((v.getD at_.toNat (ET.dft .node)).kind)=(7:Int)))) then(some (-1:Int)) else(gd (qAc (at_+(1:Int)))<|(zao_p0 at_ key (at_+(1:Int)) (0:Int) v).bind λo4=>(Sum.elim (λ(o4_0:Int) =>some o4_0) (λ(o4_1:Unit) =>some (-1:Int))) o4)
def zao_G:Nat->Option CQ:=tblQ [(21,zam_w)]
def zao_d0:=(dQS (qAa (dSO 0 (dO 0)) (qAa (dSO 1 dZ) (qAa (dSO 2 dS) (qAa (dSO 7 dZ) (qAa (dSO 8 dZ) dNil))))) (qAa (qA5 .node) dNil))
def zao_l0:SubQ:=mkL zao_d0 (λx=>zao_p0 x.1.2.1 x.1.2.2.1 x.1.2.2.2.1 x.1.2.2.2.2.1 x.2.1) λx r R kn kx kr=>(Sum.elim (λ(r_0:Int)=>kr ⟨[sL 6 (.vI r_0)],[],[.view .node x.2.1]⟩) (λ(r_1:Unit)=>kx 0 ⟨[],[],[.view .node x.2.1]⟩)) r
def zao_L:Nat->SubQ:=tblL [(0,zao_l0)]
theorem zao_sub0:qBl zao_L zao_G 1 9 57 0 zao_b0:=qAw (show zao_L 0=zao_l0 from by kernel_rfl) λx R kn kx kr=>qAi (step:=λy=>qDz x.1.2.1 x.1.2.2.1 y.1 y.2 x.2.1) (enc:=λ(y:Int × Int)=>zao_d0.e ((x.1.1,x.1.2.1,x.1.2.2.1,y.1,y.2,x.1.2.2.2.2.2),x.2)) (λy=>by kernel_rfl) (λy ki=>by simp only[qDz,-eq_self,sZ];kernel_rfl) (x.1.2.2.2.1,x.1.2.2.2.2.1)
def zao_c:CS:=mkC (qAa (dVC (dCO (dO 0))) (qAa (dVC (dCO dZ)) (qAa (dVC (dCO dS)) dNil))) (qAa (qA5 .node) dNil) (λx y=>zao_s y.1 x.2.1 x.2.2.1) (λx y r=>.c (.o (.vI r))) λx y r=>[.view .node y.1]
theorem zao_val:qAj Tryd.prog 17 zao_c:=vl1 zao_q [.tmp 6] 57 9 1 (show qA8 zao_L zao_G 1 9 57 [(0,zao_b0)] from⟨zao_sub0,tV⟩) (qAt ⟨zam_ok,tV⟩) λx y=>by
 simp only[zao_s,-eq_self,sZ];kernel_rfl
def zao_w:CQ:=qBy [(0,none,some (.node,37))] (qDp [false] zao_c)
theorem zao_ok:qAh Tryd.prog 17 zao_w:=qCc zao_val
end
end Go.Proofs.YtbokbmjcodoccacDoor
