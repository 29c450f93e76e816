/-
  Texts of a claim.
-/
import Derived.Test.YtobmafbliahplaaDoorEngN
namespace Go.Eng
set_option linter.unusedVariables false
set_option linter.unusedSimpArgs false
def prep1 (i:Nat) (off:Option Nat) (w:Option (ET × Nat)) (args:List SV) (hp:List SB):Option (List SV × List SB) :=
 match args[i]?,off,w with
 | some (.c (.o (.hd h 0))),some k,w=>match hp[h]? with
  | some (.cells e' l)=>match l[k]? with
   | some x=>match w with
    | some (t,e)=>bif nilK t x then some (args,hp.set h (.cells e' (l.set k (nilH t hp.length)))++[nilSB t e]) else some (args,hp)
    | none=>(selfP h x).bind fun y=>some (args,hp.set h (.cells e' (l.set k y)))
   | none=>none
  | _=>none
 | some (.c (.o x)),none,some (t,e)=>bif nilK t x then some (args.set i (.c (.o (nilH t hp.length))),hp++[nilSB t e]) else some (args,hp)
 | some (.c (.agg l)),some k,some (t,e)=>match l[k]? with
  | some x=>bif nilK t x then some (args.set i (.c (.agg (l.set k (nilH t hp.length)))),hp++[nilSB t e]) else some (args,hp)
  | none=>none
 | _,_,_=>none
def prepA:List (Nat × Option Nat × Option (ET × Nat))→List SV→List SB→Option (List SV × List SB)
 | [],args,hp=>some (args,hp)
 | (i,off,w)::r,args,hp=>match prep1 i off w args hp with
  | some (args',hp')=>prepA r args' hp'
  | none=>none
def qBk (pre:List (Nat × Option Nat × Option (ET × Nat))):CQ→CQ
 | .quiet C=>.quiet fun args hp R k=>match prepA pre args hp with
  | some (args',hp')=>C args' hp' R k
  | none=>none
 | .loud C=>.loud fun args hp R k=>match prepA pre args hp with
  | some (args',hp')=>C args' hp' R k
  | none=>none
 | .any C=>.any fun args hp=>match prepA pre args hp with
  | some (args',hp')=>C args' hp'
  | none=>none
 | .pan C=>.pan fun args hp R k kp=>match prepA pre args hp with
  | some (args',hp')=>C args' hp' R k kp
  | none=>none
 | .inl C=>.inl C
def LtH (hp:List SB):Prop:=∀(h:Nat) (sb:SB),hp[h]?=some sb→sb.lt hp.length
def PrepOK (args:List SV) (hp:List SB) (args':List SV) (hp':List SB):Prop :=
 (∀v∈args',v.lt hp'.length)∧hp.length≤hp'.length∧∀(X:Nat→Prop) (w0 w:World) (ρ:Nat→Value),HpSat X w0 w ρ hp→∃ρ',(∀i<hp.length,ρ' i=ρ i)∧args'.map (SV.den ρ')=args.map (SV.den ρ)∧HpSat X w0 w ρ' hp'∧∀w1,HpSat X w0 w1 ρ' hp'→HpSat X w0 w1 ρ hp
theorem PrepOK.refl {args:List SV} {hp:List SB} (h:∀v∈args,v.lt hp.length):PrepOK args hp args hp :=
 ⟨h,Nat.le_refl _,fun X w0 w ρ hh=>⟨ρ,fun _ _=>rfl,rfl,hh,fun _ h=>h⟩⟩
theorem PrepOK.trans {a b c:List SV} {hp hp' hp'':List SB} (h:PrepOK a hp b hp') (h':PrepOK b hp' c hp''):PrepOK a hp c hp'':=by
 obtain ⟨_,h2,h3⟩:=h;obtain ⟨h4,h5,h6⟩:=h';refine ⟨h4,by omega,fun X w0 w ρ hh=>?_⟩;obtain ⟨ρ',a1,a2,a3,a4⟩:=h3 X w0 w ρ hh;obtain ⟨ρ'',b1,b2,b3,b4⟩:=h6 X w0 w ρ' a3;exact ⟨ρ'',fun i hi=>(b1 i (by omega)).trans (a1 i hi),b2.trans a2,b3,fun w1 h=>a4 w1 (b4 w1 h)⟩
theorem map_set_den {ρ ρ':Nat→Value} {args:List SV} {i n:Nat} {v u:SV} (hi:args[i]?=some v) (hd:u.den ρ'=v.den ρ) (hl:∀x∈args,x.lt n) (ha:∀j<n,ρ' j=ρ j):(args.set i u).map (SV.den ρ')=args.map (SV.den ρ):=by
 apply List.ext_getElem?;intro j;rw [List.getElem?_map,List.getElem?_map];by_cases hj:j=i
 ·subst hj;rw [List.getElem?_set_self (List.getElem?_eq_some_iff.1 hi).1,hi];simp only [Option.map_some,hd]
 ·rw [List.getElem?_set_ne (Ne.symm hj)];cases h:args[j]? with
  | none=>rfl
  | some y =>
   simp only [Option.map_some];rw [SV.den_congr ha (hl y (List.mem_of_getElem? h))]
theorem map_den_congr {ρ ρ':Nat→Value} {args:List SV} {n:Nat} (hl:∀x∈args,x.lt n) (ha:∀j<n,ρ' j=ρ j):args.map (SV.den ρ')=args.map (SV.den ρ) :=
 List.map_congr_left fun y hy=>SV.den_congr ha (hl y hy)
theorem prep1_ok {i:Nat} {off:Option Nat} {w:Option (ET × Nat)} {args args':List SV} {hp hp':List SB} (h:prep1 i off w args hp=some (args',hp')) (hl:∀v∈args,v.lt hp.length):PrepOK args hp args' hp':=by
 have stay:∀ {x:Option (List SV × List SB)},x=some (args,hp)→x=some (args',hp')→PrepOK args hp args' hp':=fun h1 h2=>by
  rw [h1] at h2;simp only [snJ,Prod.mk.injEq] at h2;obtain ⟨rfl,rfl⟩:=h2;exact .refl hl
 have lt1:∀v∈args,v.lt (hp.length+1):=fun v hv=>SV.lt_mono (Nat.le_succ _) (hl v hv)
 have back:∀(X:Nat→Prop) (w0 w1:World) (ρ:Nat→Value) (t:ET) (e:Nat),LtH hp→HpSat X w0 w1 (nilρT t hp.length ρ) (hp++[nilSB t e])→HpSat X w0 w1 ρ hp:=fun X w0 w1 ρ t e hlt hh =>
  hh.init hlt fun i hi=>qDg i hi
 unfold prep1 at h;split at h
 ·rename_i hh k hi;have hiL:=hl _ (List.mem_of_getElem? hi);split at h
  ·rename_i e' l hsb;split at h
   ·rename_i x hx;have hhl:=(List.getElem?_eq_some_iff.1 hsb).1;split at h
    ·rename_i t e;cases hn:nilK t x with
     | false=>rw [hn] at h; exact stay rfl h
     | true =>
      rw [hn] at h;simp only [cnT,snJ,Prod.mk.injEq] at h;obtain ⟨rfl,rfl⟩:=h;refine ⟨by simpa using lt1,by simp,fun X w0 w ρ hs=>?_⟩;have hlt:=hs.lt hh _ hsb;have hsb':(hp++[nilSB t e])[hh]?=some (.cells e' l):=by rw [List.getElem?_append_left hhl]; exact hsb
      have fwd:∀w1,HpSat X w0 w1 (nilρT t hp.length ρ) (hp++[nilSB t e])→HpSat X w0 w1 (nilρT t hp.length ρ) (hp.set hh (.cells e' (l.set k (nilH t hp.length)))++[nilSB t e]):=fun w1 h1=>by
       have:=qC7 h1 hsb' (l':=l.set k (nilH t hp.length)) (by
        rw [qEh hx hn hlt];exact (List.map_congr_left fun y hy=>S0.den_congr qDg (hlt y hy)).symm) (by
        have:=set_nilT_lt (k:=k) (t:=t) hlt;simpa using this)
       rwa [List.set_append_left _ _ hhl] at this
      refine ⟨nilρT t hp.length ρ,qDg,map_den_congr hl qDg,fwd w (qGi hn hs e),fun w1 h1=>?_⟩;have h2:(hp.set hh (.cells e' (l.set k (nilH t hp.length)))++[nilSB t e])[hh]?=some (.cells e' (l.set k (nilH t hp.length))):=by
       rw [List.getElem?_append_left (by simpa using hhl),List.getElem?_set_self hhl]
      have h3:=qC7 h1 h2 (l':=l) (by
       rw [qEh hx hn hlt];exact List.map_congr_left fun y hy=>S0.den_congr qDg (hlt y hy)) (fun y hy=>S0.lt_mono (by simp) (hlt y hy))
      rw [List.set_append_left _ _ (by simpa using hhl),List.set_set,(by
       apply List.ext_getElem?;intro j;by_cases hj:j=hh
       ·subst hj; rw [List.getElem?_set_self hhl,hsb]
       ·rw [List.getElem?_set_ne (Ne.symm hj)]:hp.set hh (.cells e' l)=hp)] at h3
      exact back X w0 w1 ρ t e hs.lt h3
    ·obtain ⟨y,hy,h⟩:=Option.bind_eq_some_iff.1 h;simp only [snJ,Prod.mk.injEq] at h;obtain ⟨rfl,rfl⟩:=h;refine ⟨by simpa using hl,by simp,fun X w0 w ρ hs=>?_⟩;obtain ⟨hd,hyl⟩:=selfP_den (ρ:=ρ) hy;have hlt:=hs.lt hh _ hsb;refine ⟨ρ,fun _ _=>rfl,rfl,qC7 hs hsb (set_den hx hd) (set_lt hlt (hyl _ hhl)),fun w1 h1=>?_⟩;have h2:(hp.set hh (.cells e' (l.set k y)))[hh]?=some (.cells e' (l.set k y)):=List.getElem?_set_self hhl;have h3:=qC7 h1 h2 (l':=l) (set_den hx hd).symm (fun y hy=>by simpa using hlt y hy);rwa [List.set_set,(by
      apply List.ext_getElem?;intro j;by_cases hj:j=hh
      ·subst hj; rw [List.getElem?_set_self hhl,hsb]
      ·rw [List.getElem?_set_ne (Ne.symm hj)]:hp.set hh (.cells e' l)=hp)] at h3
   ·cases h
  ·cases h
 ·rename_i x t e hi;cases hn:nilK t x with
  | false=>rw [hn] at h; exact stay rfl h
  | true =>
   rw [hn] at h;simp only [cnT,snJ,Prod.mk.injEq] at h;obtain ⟨rfl,rfl⟩:=h;refine ⟨fun v hv=>?_,by simp,fun X w0 w ρ hs=>⟨nilρT t hp.length ρ,qDg,?_,qGi hn hs e,fun w1 h1=>back X w0 w1 ρ t e hs.lt h1⟩⟩
   ·rcases List.mem_or_eq_of_mem_set hv with h | rfl
    ·simpa using lt1 v h
    ·have:=nilH_lt t hp.length;simpa [SV.lt,SC.lt] using this
   ·refine map_set_den hi ?_ hl qDg;simp only [SV.den,SC.den,nilT_den hn]
 ·rename_i l k t e hi;split at h
  ·rename_i x hx;cases hn:nilK t x with
   | false=>rw [hn] at h; exact stay rfl h
   | true =>
    rw [hn] at h;simp only [cnT,snJ,Prod.mk.injEq] at h;obtain ⟨rfl,rfl⟩:=h;have hlt:=hl _ (List.mem_of_getElem? hi);refine ⟨fun v hv=>?_,by simp,fun X w0 w ρ hs=>⟨nilρT t hp.length ρ,qDg,?_,qGi hn hs e,fun w1 h1=>back X w0 w1 ρ t e hs.lt h1⟩⟩
    ·rcases List.mem_or_eq_of_mem_set hv with h | rfl
     ·simpa using lt1 v h
     ·have:=set_nilT_lt (k:=k) (t:=t) hlt;show ∀y∈_,S0.lt _ y;simpa using this
    ·refine map_set_den hi ?_ hl qDg;simp only [SV.den,SC.den];rw [qEh hx hn hlt]
  ·cases h
 ·cases h
theorem prepA_ok:∀ {pre:List (Nat × Option Nat × Option (ET × Nat))} {args args':List SV} {hp hp':List SB},prepA pre args hp=some (args',hp')→(∀v∈args,v.lt hp.length)→PrepOK args hp args' hp'
 | [],args,args',hp,hp',h,hl=>by
  simp only [prepA,snJ,Prod.mk.injEq] at h;obtain ⟨rfl,rfl⟩:=h;exact .refl hl
 | (i,off,w)::r,args,args',hp,hp',h,hl=>by
  simp only [prepA] at h;split at h
  ·rename_i a1 h1 heq;have:=prep1_ok heq hl;exact this.trans (prepA_ok h this.1)
  ·cases h
theorem prep_loudG {P:Program} {f:Nat} {deep:Bool} {pre:List (Nat × Option Nat × Option (ET × Nat))} {modes:List Bool} {C:CS} (h:qAl P f C):qAi P f (qBk pre (liftG deep modes C)):=by
 obtain ⟨hnat,hval,hany⟩:=liftG_valid (deep:=deep) (modes:=modes) h;refine ⟨fun args hp R k r hr=>?_,fun args hp p r q hq hpp hl=>?_,tV⟩
 ·simp only at hr ⊢;cases h1:prepA pre args hp with
  | none=>rw [h1] at hr; cases hr
  | some x =>
   obtain ⟨a',hp'⟩:=x;rw [h1] at hr;simp only at hr ⊢;exact hnat a' hp' R k r hr
 ·simp only [oldC,liftG,qBk] at hq;cases h1:prepA pre args hp with
  | none=>rw [h1] at hq; cases hq
  | some x =>
   obtain ⟨a',hp'⟩:=x;rw [h1] at hq;obtain ⟨g1,g2,g3⟩:=prepA_ok h1 hl;have:=hval a' hp' p r q hq hpp g1;cases q with
   | none =>
    exfalso;simp only at hq;split at hq <;> cases hq
   | some hp2 =>
    obtain ⟨k1,k2,k3⟩:=this;refine ⟨k1,by omega,fun X w0 w ρ hs hf=>?_⟩;obtain ⟨ρ',a1,a2,a3,a4⟩:=g3 X w0 w ρ hs;have:=k3 X w0 w ρ' a3 hf;rw [a2] at this;refine this.mono ?_;rintro e w' ⟨ρ2,b1,b2,b3,b4⟩
    exact ⟨ρ2,fun i hi=>(b1 i (by omega)).trans (a1 i hi),b2,b3,b4⟩
theorem qBd {P:Program} {f:Nat} {pre:List (Nat × Option Nat × Option (ET × Nat))} {modes:List Bool} {C:CS} (h:qAl P f C):qAi P f (qBk pre (qDb modes C)):=prep_loudG h
theorem liftV_shut {deep:Bool} {modes:List Bool} {C:CS} {args:List SV} {hp:List SB} {p:Prop} {r:SV} {q:Option (List SB)} (hn:natQ (liftH deep modes C)) (hs:natS C) (h:oldC (liftH deep modes C) args hp=some (p,r,q)):r.shut=true∧q=none:=by
 simp only [oldC,liftH] at h;cases ha:modes.all (fun b=>bif b then false else true) with
 | false=>rw [ha] at h; simp at h
 | true =>
  rw [ha] at h;simp only [cnT] at h;cases h1:qF9 deep modes args hp with
  | none=>rw [h1] at h; simp at h
  | some x =>
   obtain ⟨θ,ps,args',hpv⟩:=x;rw [h1] at h;simp only at h;cases h0:gds ps (C args' hpv SV fun v hpv'=>bif v.shut then some v else none) with
   | none=>rw [h0] at h; simp at h
   | some y =>
    rw [h0] at h;obtain ⟨hps,h0⟩:=qA6.1 h0;rw [hs] at h0;obtain ⟨⟨v,hpv'⟩,h4,h5⟩:=Option.bind_eq_some_iff.1 h0;simp only at h5;cases hs:v.shut with
    | false=>rw [hs] at h5; simp at h5
    | true =>
     rw [hs] at h5;simp only [cnT,snJ] at h5;subst h5;simp only [snJ,Prod.mk.injEq] at h;obtain ⟨_,rfl,rfl⟩:=h;exact ⟨hs,rfl⟩
theorem prep_quietG {P:Program} {f:Nat} {deep:Bool} {pre:List (Nat × Option Nat × Option (ET × Nat))} {modes:List Bool} {C:CS} (h:qAl P f C):qAi P f (qBk pre (liftH deep modes C)):=by
 obtain ⟨hnat,hval,hany⟩:=liftH_valid (deep:=deep) (modes:=modes) h;refine ⟨fun args hp R k r hr=>?_,fun args hp p r q hq hpp hl=>?_,tV⟩
 ·simp only at hr ⊢;cases h1:prepA pre args hp with
  | none=>rw [h1] at hr; cases hr
  | some x =>
   obtain ⟨a',hp'⟩:=x;rw [h1] at hr;simp only at hr ⊢;exact hnat a' hp' R k r hr
 ·cases h1:prepA pre args hp with
  | none=>simp only [oldC,liftH,qBk] at hq; rw [h1] at hq; cases hq
  | some x =>
   obtain ⟨a',hp'⟩:=x;have hq':oldC (liftH deep modes C) a' hp'=some (p,r,q):=by
    simp only [oldC,liftH,qBk] at hq ⊢;rw [h1] at hq;exact hq
   obtain ⟨hsh,rfl⟩:=liftV_shut hnat h.1 hq';obtain ⟨g1,g2,g3⟩:=prepA_ok h1 hl;obtain ⟨k1,k3⟩:=hval a' hp' p r none hq' hpp g1;refine ⟨SV.shut_lt hsh _,fun X w0 w ρ hs hf=>?_⟩;obtain ⟨ρ',a1,a2,a3,a4⟩:=g3 X w0 w ρ hs;have:=k3 X w0 w ρ' a3 hf;rw [a2] at this;refine this.mono ?_;rintro e w' ⟨rfl,b2,b3⟩
   exact ⟨by rw [SV.shut_den hsh ρ' ρ],a4 w' b2,b3⟩
theorem qAr {P:Program} {f:Nat} {pre:List (Nat × Option Nat × Option (ET × Nat))} {modes:List Bool} {C:CS} (h:qAl P f C):qAi P f (qBk pre (qBu modes C)):=prep_quietG h
def qFz (hp:List SB):S0→S0 × List Prop × List SB
 | .prj k i j=>match hp[k]? with
  | some (.bag ks _ l)=>match qBz ks (l.getD i (NT.dft ks)) j with
   | some _=>(.own hp.length,[i<l.length],hp++[.part k i j 0])
   | none=>(.prj k i j,[],hp)
  | _=>(.prj k i j,[],hp)
 | .own h=>match hp[h]? with
  | some (.view t l)=>(.own hp.length,[],hp++[.view t l])
  | _=>(.own h,[],hp)
 | x=>(x,[],hp)
def nestL (hp:List SB):List S0→List S0 × List Prop × List SB
 | []=>([],[],hp)
 | x::r=>match qFz hp x with
  | (y,ps,hp1)=>match nestL hp1 r with
   | (s,qs,hp2)=>(y::s,ps++qs,hp2)
def nestV (hp:List SB):SV→SV × List Prop × List SB
 | .c (.o x)=>match qFz hp x with
  | (y,ps,hp1)=>(.c (.o y),ps,hp1)
 | .c (.agg l)=>match nestL hp l with
  | (s,ps,hp1)=>(.c (.agg s),ps,hp1)
 | v=>(v,[],hp)
def qDf (hp:List SB):List SV→List SV × List Prop × List SB
 | []=>([],[],hp)
 | x::r=>match nestV hp x with
  | (y,ps,hp1)=>match qDf hp1 r with
   | (s,qs,hp2)=>(y::s,ps++qs,hp2)
theorem nestS0_spec {X:Nat→Prop} {w0 w:World} {ρ:Nat→Value} {hp:List SB} (h:HpSat X w0 w ρ hp) {x y:S0} {ps:List Prop} {hp1:List SB} (hx:qFz hp x=(y,ps,hp1)) (hps:AllP ps) (hl:x.lt hp.length) :
  ∃ρ1,(∀i<hp.length,ρ1 i=ρ i)∧hp.length≤hp1.length∧y.den ρ1=x.den ρ∧y.lt hp1.length∧HpSat X w0 w ρ1 hp1:=by
 have same:(x,([]:List Prop),hp)=(y,ps,hp1)→∃ρ1,(∀i<hp.length,ρ1 i=ρ i)∧hp.length≤hp1.length∧y.den ρ1=x.den ρ∧y.lt hp1.length∧HpSat X w0 w ρ1 hp1:=fun e=>by
  simp only [Prod.mk.injEq] at e;obtain ⟨rfl,rfl,rfl⟩:=e;exact ⟨ρ,fun _ _=>rfl,Nat.le_refl _,rfl,hl,h⟩
 unfold qFz at hx;split at hx
 ·rename_i k i j;split at hx
  ·rename_i ks e l hsb;split at hx
   ·rename_i sb hv;simp only [Prod.mk.injEq] at hx;obtain ⟨rfl,rfl,rfl⟩:=hx;have hi:i<l.length:=hps.1;obtain ⟨u,rs,hu,hb⟩:=h.sat k _ hsb;obtain ⟨r,hr,hok⟩:=hb.refs.at (NT.dft ks) hi;obtain ⟨v,q,m,h1,h2,h3⟩:=qCt hv hok;have hpv:projV (ρ k) i j=v:=by rw [hu]; exact qGq u hr h1 h3.one
    have hkl:=(List.getElem?_eq_some_iff.1 hsb).1;obtain ⟨ρ1,a1,n1,s1⟩:=h.more (.part k i j 0) v (by obtain ⟨ad,cap,hs⟩:=h3.slice; rw [hs]; trivial) (fun ρ' hag=>⟨fun h0=>by omega,fun _=>by rw [hag k hkl]; exact hpv.symm⟩) (by show k<_; omega) (fun hx=>by cases hx);refine ⟨ρ1,a1,by simp,?_,by simp [S0.lt],s1⟩;show ρ1 _=projV (ρ k) i j;rw [n1,hpv]
   ·exact same hx
  ·exact same hx
 ·rename_i hh;split at hx
  ·rename_i t l hsb;simp only [Prod.mk.injEq] at hx;obtain ⟨rfl,rfl,rfl⟩:=hx;obtain ⟨ρ1,a1,n1,s1⟩:=h.more (.view t l) (ρ hh) (h.ref hh hl) (fun _ _=>h.sat hh _ hsb) trivial (fun hx=>by cases hx);exact ⟨ρ1,a1,by simp,n1,by simp [S0.lt],s1⟩
  ·exact same hx
 ·exact same hx
theorem nestL_spec {X:Nat→Prop} {w0 w:World}:∀ {l s:List S0} {ρ:Nat→Value} {hp:List SB} {ps:List Prop} {hp1:List SB},HpSat X w0 w ρ hp→nestL hp l=(s,ps,hp1)→AllP ps→(∀x∈l,x.lt hp.length) →
  ∃ρ1,(∀i<hp.length,ρ1 i=ρ i)∧hp.length≤hp1.length∧s.map (S0.den ρ1)=l.map (S0.den ρ)∧(∀y∈s,y.lt hp1.length)∧HpSat X w0 w ρ1 hp1
 | [],s,ρ,hp,ps,hp1,h,hx,hps,hl=>by
  simp only [nestL,Prod.mk.injEq] at hx;obtain ⟨rfl,rfl,rfl⟩:=hx;exact ⟨ρ,fun _ _=>rfl,Nat.le_refl _,rfl,by simp,h⟩
 | x::r,s,ρ,hp,ps,hp1,h,hx,hps,hl=>by
  simp only [nestL] at hx;cases h1:qFz hp x with
  | mk y z =>
   obtain ⟨p1,hpa⟩:=z;rw [h1] at hx;dsimp only at hx;cases h2:nestL hpa r with
   | mk s2 z2 =>
    obtain ⟨p2,hpb⟩:=z2;rw [h2] at hx;simp only [Prod.mk.injEq] at hx;obtain ⟨rfl,rfl,rfl⟩:=hx;obtain ⟨q1,q2⟩:=qFt hps;obtain ⟨ρ1,a1,a2,a3,a4,a5⟩:=nestS0_spec h h1 q1 (hl x List.mem_cons_self);obtain ⟨ρ2,b1,b2,b3,b4,b5⟩:=nestL_spec a5 h2 q2 (fun x hx=>S0.lt_mono a2 (hl x (List.mem_cons_of_mem _ hx)));refine ⟨ρ2,fun i hi=>(b1 i (Nat.lt_of_lt_of_le hi a2)).trans (a1 i hi),Nat.le_trans a2 b2,?_,fun z hz=>?_,b5⟩
    ·rw [List.map_cons,List.map_cons,b3,S0.den_congr b1 a4,a3,List.map_congr_left fun z hz=>S0.den_congr a1 (hl z (List.mem_cons_of_mem _ hz))]
    ·rcases List.mem_cons.1 hz with rfl | hz
     ·exact S0.lt_mono b2 a4
     ·exact b4 z hz
theorem nestV_spec {X:Nat→Prop} {w0 w:World} {ρ:Nat→Value} {hp:List SB} (h:HpSat X w0 w ρ hp) {x y:SV} {ps:List Prop} {hp1:List SB} (hx:nestV hp x=(y,ps,hp1)) (hps:AllP ps) (hl:x.lt hp.length) :
  ∃ρ1,(∀i<hp.length,ρ1 i=ρ i)∧hp.length≤hp1.length∧y.den ρ1=x.den ρ∧y.lt hp1.length∧HpSat X w0 w ρ1 hp1:=by
 unfold nestV at hx;split at hx
 ·rename_i z;cases h1:qFz hp z with
  | mk y1 z1 =>
   obtain ⟨p1,hpa⟩:=z1;rw [h1] at hx;simp only [Prod.mk.injEq] at hx;obtain ⟨rfl,rfl,rfl⟩:=hx;exact nestS0_spec h h1 hps hl
 ·rename_i l;cases h1:nestL hp l with
  | mk y1 z1 =>
   obtain ⟨p1,hpa⟩:=z1;rw [h1] at hx;simp only [Prod.mk.injEq] at hx;obtain ⟨rfl,rfl,rfl⟩:=hx;obtain ⟨ρ1,a1,a2,a3,a4,a5⟩:=nestL_spec h h1 hps hl;refine ⟨ρ1,a1,a2,?_,a4,a5⟩;show Value.agg _=Value.agg _;rw [a3]
 ·simp only [Prod.mk.injEq] at hx;obtain ⟨rfl,rfl,rfl⟩:=hx;exact ⟨ρ,fun _ _=>rfl,Nat.le_refl _,rfl,hl,h⟩
theorem nestVs_spec {X:Nat→Prop} {w0 w:World}:∀ {l s:List SV} {ρ:Nat→Value} {hp:List SB} {ps:List Prop} {hp1:List SB},HpSat X w0 w ρ hp→qDf hp l=(s,ps,hp1)→AllP ps→(∀x∈l,x.lt hp.length) →
  ∃ρ1,(∀i<hp.length,ρ1 i=ρ i)∧hp.length≤hp1.length∧s.map (SV.den ρ1)=l.map (SV.den ρ)∧(∀y∈s,y.lt hp1.length)∧HpSat X w0 w ρ1 hp1
 | [],s,ρ,hp,ps,hp1,h,hx,hps,hl=>by
  simp only [qDf,Prod.mk.injEq] at hx;obtain ⟨rfl,rfl,rfl⟩:=hx;exact ⟨ρ,fun _ _=>rfl,Nat.le_refl _,rfl,by simp,h⟩
 | x::r,s,ρ,hp,ps,hp1,h,hx,hps,hl=>by
  simp only [qDf] at hx;cases h1:nestV hp x with
  | mk y z =>
   obtain ⟨p1,hpa⟩:=z;rw [h1] at hx;dsimp only at hx;cases h2:qDf hpa r with
   | mk s2 z2 =>
    obtain ⟨p2,hpb⟩:=z2;rw [h2] at hx;simp only [Prod.mk.injEq] at hx;obtain ⟨rfl,rfl,rfl⟩:=hx;obtain ⟨q1,q2⟩:=qFt hps;obtain ⟨ρ1,a1,a2,a3,a4,a5⟩:=nestV_spec h h1 q1 (hl x List.mem_cons_self);obtain ⟨ρ2,b1,b2,b3,b4,b5⟩:=nestVs_spec a5 h2 q2 (fun x hx=>SV.lt_mono a2 (hl x (List.mem_cons_of_mem _ hx)));refine ⟨ρ2,fun i hi=>(b1 i (Nat.lt_of_lt_of_le hi a2)).trans (a1 i hi),Nat.le_trans a2 b2,?_,fun z hz=>?_,b5⟩
    ·rw [List.map_cons,List.map_cons,b3,SV.den_congr b1 a4,a3,List.map_congr_left fun z hz=>SV.den_congr a1 (hl z (List.mem_cons_of_mem _ hz))]
    ·rcases List.mem_cons.1 hz with rfl | hz
     ·exact SV.lt_mono b2 a4
     ·exact b4 z hz
theorem nestS0_grow {hp:List SB} {x y:S0} {ps:List Prop} {hp1:List SB} (hx:qFz hp x=(y,ps,hp1)) (hl:x.lt hp.length):hp.length≤hp1.length∧y.lt hp1.length:=by
 have same:(x,([]:List Prop),hp)=(y,ps,hp1)→hp.length≤hp1.length∧y.lt hp1.length:=fun e=>by
  simp only [Prod.mk.injEq] at e;obtain ⟨rfl,rfl,rfl⟩:=e;exact ⟨Nat.le_refl _,hl⟩
 unfold qFz at hx;split at hx
 ·split at hx
  ·split at hx
   ·simp only [Prod.mk.injEq] at hx;obtain ⟨rfl,rfl,rfl⟩:=hx;exact ⟨by simp,by simp [S0.lt]⟩
   ·exact same hx
  ·exact same hx
 ·split at hx
  ·simp only [Prod.mk.injEq] at hx;obtain ⟨rfl,rfl,rfl⟩:=hx;exact ⟨by simp,by simp [S0.lt]⟩
  ·exact same hx
 ·exact same hx
theorem nestL_grow:∀ {l s:List S0} {hp:List SB} {ps:List Prop} {hp1:List SB},nestL hp l=(s,ps,hp1)→(∀x∈l,x.lt hp.length)→hp.length≤hp1.length∧∀y∈s,y.lt hp1.length
 | [],s,hp,ps,hp1,hx,hl=>by
  simp only [nestL,Prod.mk.injEq] at hx;obtain ⟨rfl,rfl,rfl⟩:=hx;exact ⟨Nat.le_refl _,by simp⟩
 | x::r,s,hp,ps,hp1,hx,hl=>by
  simp only [nestL] at hx;cases h1:qFz hp x with
  | mk y z =>
   obtain ⟨p1,hpa⟩:=z;rw [h1] at hx;dsimp only at hx;cases h2:nestL hpa r with
   | mk s2 z2 =>
    obtain ⟨p2,hpb⟩:=z2;rw [h2] at hx;simp only [Prod.mk.injEq] at hx;obtain ⟨rfl,rfl,rfl⟩:=hx;obtain ⟨a2,a4⟩:=nestS0_grow h1 (hl x List.mem_cons_self);obtain ⟨b2,b4⟩:=nestL_grow h2 (fun x hx=>S0.lt_mono a2 (hl x (List.mem_cons_of_mem _ hx)));refine ⟨Nat.le_trans a2 b2,fun z hz=>?_⟩;rcases List.mem_cons.1 hz with rfl | hz
    ·exact S0.lt_mono b2 a4
    ·exact b4 z hz
theorem nestV_grow {hp:List SB} {x y:SV} {ps:List Prop} {hp1:List SB} (hx:nestV hp x=(y,ps,hp1)) (hl:x.lt hp.length):hp.length≤hp1.length∧y.lt hp1.length:=by
 unfold nestV at hx;split at hx
 ·rename_i z;cases h1:qFz hp z with
  | mk y1 z1 =>
   obtain ⟨p1,hpa⟩:=z1;rw [h1] at hx;simp only [Prod.mk.injEq] at hx;obtain ⟨rfl,rfl,rfl⟩:=hx;exact nestS0_grow h1 hl
 ·rename_i l;cases h1:nestL hp l with
  | mk y1 z1 =>
   obtain ⟨p1,hpa⟩:=z1;rw [h1] at hx;simp only [Prod.mk.injEq] at hx;obtain ⟨rfl,rfl,rfl⟩:=hx;exact nestL_grow h1 hl
 ·simp only [Prod.mk.injEq] at hx;obtain ⟨rfl,rfl,rfl⟩:=hx;exact ⟨Nat.le_refl _,hl⟩
theorem nestVs_grow:∀ {l s:List SV} {hp:List SB} {ps:List Prop} {hp1:List SB},qDf hp l=(s,ps,hp1)→(∀x∈l,x.lt hp.length)→hp.length≤hp1.length∧∀y∈s,y.lt hp1.length
 | [],s,hp,ps,hp1,hx,hl=>by
  simp only [qDf,Prod.mk.injEq] at hx;obtain ⟨rfl,rfl,rfl⟩:=hx;exact ⟨Nat.le_refl _,by simp⟩
 | x::r,s,hp,ps,hp1,hx,hl=>by
  simp only [qDf] at hx;cases h1:nestV hp x with
  | mk y z =>
   obtain ⟨p1,hpa⟩:=z;rw [h1] at hx;dsimp only at hx;cases h2:qDf hpa r with
   | mk s2 z2 =>
    obtain ⟨p2,hpb⟩:=z2;rw [h2] at hx;simp only [Prod.mk.injEq] at hx;obtain ⟨rfl,rfl,rfl⟩:=hx;obtain ⟨a2,a4⟩:=nestV_grow h1 (hl x List.mem_cons_self);obtain ⟨b2,b4⟩:=nestVs_grow h2 (fun x hx=>SV.lt_mono a2 (hl x (List.mem_cons_of_mem _ hx)));refine ⟨Nat.le_trans a2 b2,fun z hz=>?_⟩;rcases List.mem_cons.1 hz with rfl | hz
    ·exact SV.lt_mono b2 a4
    ·exact b4 z hz
theorem nestS0_pre {hp:List SB} {x y:S0} {ps:List Prop} {hp1:List SB} (hx:qFz hp x=(y,ps,hp1)):∃r,hp1=hp++r:=by
 have same:(x,([]:List Prop),hp)=(y,ps,hp1)→∃r,hp1=hp++r:=fun e=>by
  simp only [Prod.mk.injEq] at e;obtain ⟨rfl,rfl,rfl⟩:=e;exact ⟨[],by simp⟩
 unfold qFz at hx;split at hx
 ·split at hx
  ·split at hx
   ·simp only [Prod.mk.injEq] at hx;obtain ⟨rfl,rfl,rfl⟩:=hx;exact ⟨_,rfl⟩
   ·exact same hx
  ·exact same hx
 ·split at hx
  ·simp only [Prod.mk.injEq] at hx;obtain ⟨rfl,rfl,rfl⟩:=hx;exact ⟨[_],rfl⟩
  ·exact same hx
 ·exact same hx
theorem nestL_pre:∀ {l s:List S0} {hp:List SB} {ps:List Prop} {hp1:List SB},nestL hp l=(s,ps,hp1)→∃r,hp1=hp++r
 | [],s,hp,ps,hp1,hx=>by
  simp only [nestL,Prod.mk.injEq] at hx;obtain ⟨rfl,rfl,rfl⟩:=hx;exact ⟨[],by simp⟩
 | x::r,s,hp,ps,hp1,hx=>by
  simp only [nestL] at hx;cases h1:qFz hp x with
  | mk y z =>
   obtain ⟨p1,hpa⟩:=z;rw [h1] at hx;dsimp only at hx;cases h2:nestL hpa r with
   | mk s2 z2 =>
    obtain ⟨p2,hpb⟩:=z2;rw [h2] at hx;simp only [Prod.mk.injEq] at hx;obtain ⟨rfl,rfl,rfl⟩:=hx;obtain ⟨ra,rfl⟩:=nestS0_pre h1;obtain ⟨rb,rfl⟩:=nestL_pre h2;exact ⟨ra++rb,by simp⟩
theorem nestV_pre {hp:List SB} {x y:SV} {ps:List Prop} {hp1:List SB} (hx:nestV hp x=(y,ps,hp1)):∃r,hp1=hp++r:=by
 unfold nestV at hx;split at hx
 ·rename_i z;cases h1:qFz hp z with
  | mk y1 z1 =>
   obtain ⟨p1,hpa⟩:=z1;rw [h1] at hx;simp only [Prod.mk.injEq] at hx;obtain ⟨rfl,rfl,rfl⟩:=hx;exact nestS0_pre h1
 ·rename_i l;cases h1:nestL hp l with
  | mk y1 z1 =>
   obtain ⟨p1,hpa⟩:=z1;rw [h1] at hx;simp only [Prod.mk.injEq] at hx;obtain ⟨rfl,rfl,rfl⟩:=hx;exact nestL_pre h1
 ·simp only [Prod.mk.injEq] at hx;obtain ⟨rfl,rfl,rfl⟩:=hx;exact ⟨[],by simp⟩
theorem nestVs_pre:∀ {l s:List SV} {hp:List SB} {ps:List Prop} {hp1:List SB},qDf hp l=(s,ps,hp1)→∃r,hp1=hp++r
 | [],s,hp,ps,hp1,hx=>by
  simp only [qDf,Prod.mk.injEq] at hx;obtain ⟨rfl,rfl,rfl⟩:=hx;exact ⟨[],by simp⟩
 | x::r,s,hp,ps,hp1,hx=>by
  simp only [qDf] at hx;cases h1:nestV hp x with
  | mk y z =>
   obtain ⟨p1,hpa⟩:=z;rw [h1] at hx;dsimp only at hx;cases h2:qDf hpa r with
   | mk s2 z2 =>
    obtain ⟨p2,hpb⟩:=z2;rw [h2] at hx;simp only [Prod.mk.injEq] at hx;obtain ⟨rfl,rfl,rfl⟩:=hx;obtain ⟨ra,rfl⟩:=nestV_pre h1;obtain ⟨rb,rfl⟩:=nestVs_pre h2;exact ⟨ra++rb,by simp⟩
theorem HpSat.fewer {X:Nat→Prop} {w0 w:World} {ρ ρ1:Nat→Value} {hp r:List SB} (h:HpSat X w0 w ρ1 (hp++r)) (hl:∀(i:Nat) (sb:SB),hp[i]?=some sb→sb.lt hp.length) (ha:∀i<hp.length,ρ1 i=ρ i):HpSat X w0 w ρ hp:=by
 have up:∀(i:Nat) (sb:SB),hp[i]?=some sb→(hp++r)[i]?=some sb∧i<hp.length:=fun i sb hi=>by
  have hil:=(List.getElem?_eq_some_iff.1 hi).1;exact ⟨by rw [List.getElem?_append_left hil]; exact hi,hil⟩
 refine ⟨fun i hi=>?_,fun i sb hi=>?_,hl,fun i j sb sb' b hij hi hj e1 e2 f1 f2=>?_,h.tab⟩
 ·rw [←ha i hi];exact h.ref i (by rw [List.length_append]; omega)
 ·obtain ⟨u1,u2⟩:=up i sb hi;rw [←ha i u2];exact SB.sat_ren (h.sat i sb u1) (hl i sb hi) fun k hk=>(ha k hk).symm
 ·obtain ⟨u1,u2⟩:=up i sb hi;obtain ⟨v1,v2⟩:=up j sb' hj;rw [←ha i u2] at f1;rw [←ha j v2] at f2;exact h.apart i j sb sb' b hij u1 v1 e1 e2 f1 f2
def natE:CQ→Prop
 | .loud C=>∀args hp (R:Type) (k:SV→List SB→Option R),C args hp R k=(C args hp (SV × List SB) fun v hp'=>some (v,hp')).bind fun x=>k x.1 x.2
 | .quiet C=>∀args hp (R:Type) (k:SV→Option R),C args hp R k=(C args hp SV some).bind k
 | _=>True
theorem gds_bind {α R:Type} {ps:List Prop} {x:Option α} {k:α→Option R}:gds ps (x.bind k)=(gds ps x).bind k:=by
 induction ps with
 | nil=>rfl
 | cons p ps ih =>
  simp only [gds,ih];unfold gd;split <;> rfl
theorem liftG_nat {deep:Bool} {modes:List Bool} {C:CS} (hn:natS C):natE (liftG deep modes C):=by
 intro args hp R k;simp only [liftG];cases h1:qF9 deep modes args hp with
 | none=>rfl
 | some x =>
  obtain ⟨θ,ps,args',hpv⟩:=x;dsimp only;refine (congrArg (gds ps) (hn args' hpv R _)).trans ?_;refine Eq.trans ?_ (congrArg (fun z:Option (SV × List SB)=>(gds ps z).bind fun x=>k x.1 x.2) (hn args' hpv (SV × List SB) _)).symm;rw [gds_bind,gds_bind,Option.bind_assoc];congr 1
  funext y
  cases backQ modes θ hp y.1 y.2 with
  | none=>rfl
  | some z=>rfl
theorem prep_nat {pre:List (Nat × Option Nat × Option (ET × Nat))} {C:CQ} (h:natE C):natE (qBk pre C):=by
 cases C with
 | any C=>trivial
 | inl C=>trivial
 | pan C=>trivial
 | loud C =>
  intro args hp R k;simp only [qBk];cases prepA pre args hp with
  | none=>rfl
  | some y=>exact h _ _ _ _
 | quiet C =>
  intro args hp R k;simp only [qBk];cases prepA pre args hp with
  | none=>rfl
  | some y=>exact h _ _ _ _
noncomputable def nestQ:CQ→CQ
 | .loud C=>.loud fun args hp R k=>match qDf hp args with
  | (args1,ps,hp1)=>gds ps (C args1 hp1 R fun v hp'=>k v (killL (List.range' hp.length (hp1.length - hp.length)) hp'))
 | .quiet C=>.quiet fun args hp R k=>match qDf hp args with
  | (args1,ps,hp1)=>gds ps (C args1 hp1 R fun v=>bif v.shut then k v else none)
 | C=>C
theorem nestQ_valid {P:Program} {f:Nat} {C:CQ} (hE:natE C) (hC:qAi P f C):qAi P f (nestQ C):=by
 obtain ⟨hnat,hval,hany⟩:=hC;cases C with
 | any C=>exact ⟨hnat,hval,hany⟩
 | inl C=>exact ⟨hnat,hval,hany⟩
 | pan C=>exact ⟨hnat,hval,hany⟩
 | loud C =>
  refine ⟨?_,?_,tV⟩
  ·intro args hp R k r h;simp only at h ⊢;cases h1:qDf hp args with
   | mk args1 z =>
    obtain ⟨ps,hp1⟩:=z;rw [h1] at h;dsimp only at h ⊢;obtain ⟨hps,h⟩:=qA6.1 h;obtain ⟨v,hp',h2,h3⟩:=hnat args1 hp1 R _ r h;refine ⟨v,_,qA6.2 ⟨hps,?_⟩,h3⟩;rw [hE,h2];rfl
  ·intro args hp p r q hq hp0 hlt;simp only [oldC,nestQ] at hq;cases h1:qDf hp args with
   | mk args1 z =>
    obtain ⟨ps,hp1⟩:=z;rw [h1] at hq;dsimp only at hq;cases h0:gds ps (C args1 hp1 (SV × List SB) fun v hp'=>some (v,killL (List.range' hp.length (hp1.length - hp.length)) hp')) with
    | none=>rw [h0] at hq; cases hq
    | some y =>
     rw [h0] at hq;obtain ⟨hps,h0⟩:=qA6.1 h0;obtain ⟨v,hp',h2,h3⟩:=hnat args1 hp1 _ _ _ h0;obtain rfl:=Option.some.inj h3;simp only [snJ,Prod.mk.injEq] at hq;obtain ⟨_,rfl,rfl⟩:=hq;obtain ⟨g1,g2⟩:=nestVs_grow h1 hlt;have hv:=hval args1 hp1 True v (some hp') (by simp only [oldC,h2]) trivial g2;obtain ⟨v1,v2,v3⟩:=hv;refine ⟨by rw [qGl]; exact v1,by rw [qGl]; omega,fun X w0 w ρ hhp hf=>?_⟩;obtain ⟨ρ1,a1,a2,a3,a4,a5⟩:=nestVs_spec hhp h1 hps hlt;have:=v3 X w0 w ρ1 a5 hf;rw [a3] at this;refine this.mono ?_;rintro e w' ⟨ρ',b1,b2,b3,b4⟩
     exact ⟨ρ',fun i hi=>(b1 i (Nat.lt_of_lt_of_le hi a2)).trans (a1 i hi),b2,b3.killL,b4⟩
 | quiet C =>
  refine ⟨?_,?_,tV⟩
  ·intro args hp R k r h;simp only at h ⊢;cases h1:qDf hp args with
   | mk args1 z =>
    obtain ⟨ps,hp1⟩:=z;rw [h1] at h;dsimp only at h ⊢;obtain ⟨hps,h⟩:=qA6.1 h;obtain ⟨v,h2,h3⟩:=hnat args1 hp1 R _ r h;cases hs:v.shut with
    | false=>rw [hs] at h3; cases h3
    | true =>
     rw [hs] at h3;refine ⟨v,qA6.2 ⟨hps,?_⟩,h3⟩;rw [hE,h2];show (bif v.shut then some v else none)=_;rw [hs];rfl
  ·intro args hp p r q hq hp0 hlt;simp only [oldC,nestQ] at hq;cases h1:qDf hp args with
   | mk args1 z =>
    obtain ⟨ps,hp1⟩:=z;rw [h1] at hq;dsimp only at hq;cases h0:gds ps (C args1 hp1 SV fun v=>bif v.shut then some v else none) with
    | none=>rw [h0] at hq; cases hq
    | some y =>
     rw [h0] at hq;obtain ⟨hps,h0⟩:=qA6.1 h0;obtain ⟨v,h2,h3⟩:=hnat args1 hp1 _ _ _ h0;cases hs:v.shut with
     | false=>rw [hs] at h3; cases h3
     | true =>
      rw [hs] at h3;obtain rfl:=Option.some.inj h3;simp only [snJ,Prod.mk.injEq] at hq;obtain ⟨_,rfl,rfl⟩:=hq;obtain ⟨g1,g2⟩:=nestVs_grow h1 hlt;have hv:=hval args1 hp1 True v none (by simp only [oldC,h2]) trivial g2;obtain ⟨v1,v3⟩:=hv;refine ⟨SV.shut_lt hs _,fun X w0 w ρ hhp hf=>?_⟩;obtain ⟨ρ1,a1,a2,a3,a4,a5⟩:=nestVs_spec hhp h1 hps hlt;have:=v3 X w0 w ρ1 a5 hf;rw [a3] at this;refine this.mono ?_;rintro e w' ⟨rfl,b3,b4⟩
      obtain ⟨rr,hrr⟩:=nestVs_pre h1;rw [hrr] at b3;exact ⟨by rw [SV.shut_den hs ρ1 ρ],b3.fewer hhp.lt a1,b4⟩
theorem vl1 {α β ρ:Type} {P:Program} {f:Nat} (ic:IQ) (rv:List RV) (nt nv n0:Nat) {Λ:Nat→SubQ} {Γ:Nat→Option CQ} {A:Dec α (List SV)} {B:Dec β (List SB)} {F:α→β→Option ρ} {V:α→β→ρ→SV} {H:α→β→ρ→List SB}
  (hs:qA8 Λ Γ n0 nv nt (subsL ic)) (hΓ:∀f C,Γ f=some C→qAi P f C) (he:∀x y,fnQ Λ Γ nv nt ic rv (A.e x) (B.e y) (fun v hp'=>some (v,hp'))=(F x y).bind fun r=>some (V x y r,H x y r)) (raws:List Nat:=[])
  (hc:chk P f raws=some (ic.erase,rv,nt):=by kernel_rfl) (hl:∀x,(A.e x).length≤nt:=by exact fun x=>Nat.le_of_ble_eq_true rfl) (hn:∀y,(B.e y).length=n0:=by exact fun y=>rfl):qAl P f (mkC A B F V H):=val_okC hc nv hΓ n0 hl hn (qDi hs) he
theorem vl0 {α β ρ:Type} {P:Program} {f:Nat} (ic:IQ) (rv:List RV) (nt nv n0:Nat) (l:List (Nat × CQ)) {A:Dec α (List SV)} {B:Dec β (List SB)} {F:α→β→Option ρ} {V:α→β→ρ→SV} {H:α→β→ρ→List SB}
  (hv:ValidsQ P l) (he:∀x y,fnQ (tblL []) (tblQ l) nv nt ic rv (A.e x) (B.e y) (fun v hp'=>some (v,hp'))=(F x y).bind fun r=>some (V x y r,H x y r)) (raws:List Nat:=[])
  (hc:chk P f raws=some (ic.erase,rv,nt):=by kernel_rfl) (hl:∀x,(A.e x).length≤nt:=by exact fun x=>Nat.le_of_ble_eq_true rfl) (hn:∀y,(B.e y).length=n0:=by exact fun y=>rfl) (hs:qA8 (tblL []) (tblQ l) n0 nv nt (subsL ic):=by exact True.intro):qAl P f (mkC A B F V H):=vl1 ic rv nt nv n0 hs (qAs hv) he raws hc hl hn
abbrev oP (d:Nat) (p:Pr):IOp:=⟨some d,p,none⟩
abbrev oE (d:Nat) (p:Pr) (g:Nat):IOp:=⟨some d,p,some (g,false)⟩
abbrev oF (d:Nat) (p:Pr) (g:Nat):IOp:=⟨some d,p,some (g,true)⟩
abbrev oN (p:Pr):IOp:=⟨none,p,none⟩
abbrev oM (d:Nat) (a:Arg):IOp:=⟨some d,.mv a,none⟩
abbrev vI (n:Int):Arg:=.v (.int .i64 n)
abbrev vC (n:Int):Arg:=.v (.int .u8 n)
abbrev vT:Arg:=.v (.bool true)
abbrev vF:Arg:=.v (.bool false)
abbrev Pr.bi (o:BinOp) (x y:Arg):Pr:=.bin false o x y
abbrev Pr.nk (x:Arg):Pr:=.ext .nilck [x]
abbrev rg (n:Nat) (l:List IOp):IQ:=.reg n none l
abbrev IQ.cn (l:List Nat) (q:IQ):IQ:=.canon [] l q
abbrev S0.vI (x:Int):S0:=.val (.int .i64 x)
abbrev S0.vS (x:ByteArray):S0:=.val (.string x)
abbrev S0.vB (x:Bool):S0:=.val (.bool x)
abbrev sL (i:Nat) (x:S0):Nat × GL × SV:=(i,[],.c (.o x))
abbrev dSO {α:Type} (i:Nat) (x:Dec α S0):=dSl i (dVC (dCO x))
abbrev dZ:=dI .i64
theorem sZ:(∀ {α β:Type} (c:Bool) (x y:Option α) (k:α→Option β),(bif c then x else y).bind k=bif c then x.bind k else y.bind k)∧(∀ {α β:Type} (p:Prop) (x:Option α) (k:α→Option β),(gd p x).bind k=gd p (x.bind k))∧(∀ {α β γ:Type} (x:Option α) (f:α→Option β) (g:β→Option γ),(x.bind f).bind g=x.bind fun y=>(f y).bind g)∧(∀ {α β:Type} (a:α) (f:α→Option β),(some a).bind f=f a)∧(∀ {α β γ:Type} (f:α→γ) (g:β→γ) (x:α),Sum.elim f g (.inl x)=f x)∧(∀ {α β γ:Type} (f:α→γ) (g:β→γ) (x:β),Sum.elim f g (.inr x)=g x)∧(∀ {α β γ δ:Type} (s:α ⊕ β) (f:α→Option γ) (g:β→Option γ) (k:γ→Option δ),(Sum.elim f g s).bind k=Sum.elim (fun x=>(f x).bind k) (fun y=>(g y).bind k) s) :=
 ⟨bind_cond,bind_gd,obA,obS,slL,slR,bind_elim⟩
abbrev dTy {α β:Type} (_:Dec α β):Type:=α
abbrev rF (d:Nat) (a:Arg) (k:Nat):List IOp:=[oM d a,oP (d+1) (.nk (.t d)),oP (d+2) (.faddr k (.t (d+1))),oP (d+3) (.load none (.t (d+2)))]
abbrev rG (d:Nat) (a:Arg) (k:Nat):List IOp:=[oP d (.nk a),oP (d+1) (.faddr k (.t d)),oP (d+2) (.load none (.t (d+1)))]
abbrev rS (d:Nat) (a:Arg) (k:Nat) (v:Arg):List IOp:=[oP d (.nk a),oP (d+1) (.faddr k (.t d)),oN (.store 1 (.t (d+1)) v)]
abbrev rH (o:Nat→Pr→Nat→IOp) (d:Nat) (a:Arg) (k g:Nat):List IOp:=[o d (.mv a) g,o (d+1) (.nk (.t d)) g,o (d+2) (.faddr k (.t (d+1))) g,o (d+3) (.load none (.t (d+2))) g]
abbrev t0:Arg:=.t 0
abbrev t1:Arg:=.t 1
abbrev t2:Arg:=.t 2
abbrev t3:Arg:=.t 3
abbrev t4:Arg:=.t 4
abbrev t5:Arg:=.t 5
abbrev t6:Arg:=.t 6
abbrev t7:Arg:=.t 7
abbrev t8:Arg:=.t 8
abbrev t9:Arg:=.t 9
abbrev t10:Arg:=.t 10
abbrev t11:Arg:=.t 11
abbrev t12:Arg:=.t 12
abbrev t13:Arg:=.t 13
abbrev t14:Arg:=.t 14
abbrev t15:Arg:=.t 15
abbrev t16:Arg:=.t 16
abbrev t17:Arg:=.t 17
abbrev t18:Arg:=.t 18
abbrev t19:Arg:=.t 19
abbrev t20:Arg:=.t 20
abbrev t21:Arg:=.t 21
abbrev t22:Arg:=.t 22
abbrev t23:Arg:=.t 23
abbrev t24:Arg:=.t 24
abbrev t25:Arg:=.t 25
abbrev t26:Arg:=.t 26
abbrev t27:Arg:=.t 27
abbrev t28:Arg:=.t 28
abbrev t29:Arg:=.t 29
abbrev t30:Arg:=.t 30
abbrev t31:Arg:=.t 31
abbrev t32:Arg:=.t 32
abbrev t33:Arg:=.t 33
abbrev t34:Arg:=.t 34
abbrev t35:Arg:=.t 35
abbrev t36:Arg:=.t 36
abbrev t37:Arg:=.t 37
abbrev t38:Arg:=.t 38
abbrev t39:Arg:=.t 39
abbrev t40:Arg:=.t 40
abbrev t41:Arg:=.t 41
abbrev t42:Arg:=.t 42
abbrev t43:Arg:=.t 43
abbrev t44:Arg:=.t 44
abbrev t45:Arg:=.t 45
abbrev t46:Arg:=.t 46
abbrev t47:Arg:=.t 47
abbrev t48:Arg:=.t 48
abbrev t49:Arg:=.t 49
abbrev t50:Arg:=.t 50
abbrev t51:Arg:=.t 51
abbrev t52:Arg:=.t 52
abbrev t53:Arg:=.t 53
abbrev t54:Arg:=.t 54
abbrev t55:Arg:=.t 55
abbrev t56:Arg:=.t 56
abbrev t57:Arg:=.t 57
abbrev t58:Arg:=.t 58
abbrev t59:Arg:=.t 59
abbrev t60:Arg:=.t 60
abbrev t61:Arg:=.t 61
abbrev t62:Arg:=.t 62
abbrev t63:Arg:=.t 63
abbrev t64:Arg:=.t 64
abbrev t65:Arg:=.t 65
abbrev t66:Arg:=.t 66
abbrev t67:Arg:=.t 67
abbrev t68:Arg:=.t 68
abbrev t69:Arg:=.t 69
abbrev t70:Arg:=.t 70
abbrev t71:Arg:=.t 71
abbrev t72:Arg:=.t 72
abbrev t73:Arg:=.t 73
abbrev t74:Arg:=.t 74
abbrev t75:Arg:=.t 75
abbrev t76:Arg:=.t 76
abbrev t77:Arg:=.t 77
abbrev t78:Arg:=.t 78
abbrev t79:Arg:=.t 79
abbrev t80:Arg:=.t 80
abbrev t81:Arg:=.t 81
abbrev t82:Arg:=.t 82
abbrev t83:Arg:=.t 83
abbrev t84:Arg:=.t 84
abbrev t85:Arg:=.t 85
abbrev t86:Arg:=.t 86
abbrev t87:Arg:=.t 87
abbrev t88:Arg:=.t 88
abbrev t89:Arg:=.t 89
abbrev t90:Arg:=.t 90
abbrev t91:Arg:=.t 91
abbrev t92:Arg:=.t 92
abbrev t93:Arg:=.t 93
abbrev t94:Arg:=.t 94
abbrev t95:Arg:=.t 95
abbrev t96:Arg:=.t 96
abbrev t97:Arg:=.t 97
abbrev t98:Arg:=.t 98
abbrev t99:Arg:=.t 99
abbrev t100:Arg:=.t 100
abbrev t101:Arg:=.t 101
abbrev t102:Arg:=.t 102
abbrev t103:Arg:=.t 103
abbrev t104:Arg:=.t 104
abbrev t105:Arg:=.t 105
abbrev t106:Arg:=.t 106
abbrev t107:Arg:=.t 107
abbrev t108:Arg:=.t 108
abbrev t109:Arg:=.t 109
abbrev t110:Arg:=.t 110
abbrev t111:Arg:=.t 111
abbrev t112:Arg:=.t 112
abbrev t113:Arg:=.t 113
abbrev t114:Arg:=.t 114
abbrev t115:Arg:=.t 115
abbrev t116:Arg:=.t 116
abbrev t117:Arg:=.t 117
abbrev t118:Arg:=.t 118
abbrev t119:Arg:=.t 119
abbrev t120:Arg:=.t 120
abbrev t121:Arg:=.t 121
abbrev t122:Arg:=.t 122
abbrev t123:Arg:=.t 123
abbrev t124:Arg:=.t 124
abbrev t125:Arg:=.t 125
abbrev t126:Arg:=.t 126
abbrev t127:Arg:=.t 127
abbrev t128:Arg:=.t 128
abbrev t129:Arg:=.t 129
abbrev t130:Arg:=.t 130
abbrev t131:Arg:=.t 131
abbrev t132:Arg:=.t 132
abbrev t133:Arg:=.t 133
abbrev t134:Arg:=.t 134
abbrev t135:Arg:=.t 135
abbrev t136:Arg:=.t 136
abbrev t137:Arg:=.t 137
abbrev t138:Arg:=.t 138
abbrev t139:Arg:=.t 139
abbrev t140:Arg:=.t 140
abbrev t141:Arg:=.t 141
abbrev t142:Arg:=.t 142
abbrev t143:Arg:=.t 143
abbrev t144:Arg:=.t 144
abbrev t145:Arg:=.t 145
abbrev t146:Arg:=.t 146
abbrev t147:Arg:=.t 147
abbrev t148:Arg:=.t 148
abbrev t149:Arg:=.t 149
abbrev t150:Arg:=.t 150
abbrev t151:Arg:=.t 151
abbrev t152:Arg:=.t 152
abbrev t153:Arg:=.t 153
abbrev t154:Arg:=.t 154
abbrev t155:Arg:=.t 155
abbrev t156:Arg:=.t 156
abbrev t157:Arg:=.t 157
abbrev t158:Arg:=.t 158
abbrev t159:Arg:=.t 159
abbrev t160:Arg:=.t 160
abbrev t161:Arg:=.t 161
abbrev t162:Arg:=.t 162
abbrev t163:Arg:=.t 163
abbrev t164:Arg:=.t 164
abbrev t165:Arg:=.t 165
abbrev t166:Arg:=.t 166
abbrev t167:Arg:=.t 167
abbrev t168:Arg:=.t 168
abbrev t169:Arg:=.t 169
abbrev t170:Arg:=.t 170
abbrev t171:Arg:=.t 171
abbrev t172:Arg:=.t 172
abbrev t173:Arg:=.t 173
abbrev t174:Arg:=.t 174
abbrev t175:Arg:=.t 175
abbrev t176:Arg:=.t 176
abbrev t177:Arg:=.t 177
abbrev t178:Arg:=.t 178
abbrev t179:Arg:=.t 179
abbrev t180:Arg:=.t 180
abbrev t181:Arg:=.t 181
abbrev t182:Arg:=.t 182
abbrev t183:Arg:=.t 183
abbrev t184:Arg:=.t 184
abbrev t185:Arg:=.t 185
abbrev t186:Arg:=.t 186
abbrev t187:Arg:=.t 187
abbrev t188:Arg:=.t 188
abbrev t189:Arg:=.t 189
abbrev t190:Arg:=.t 190
abbrev t191:Arg:=.t 191
abbrev t192:Arg:=.t 192
abbrev t193:Arg:=.t 193
abbrev t194:Arg:=.t 194
abbrev t195:Arg:=.t 195
abbrev t196:Arg:=.t 196
abbrev t197:Arg:=.t 197
abbrev t198:Arg:=.t 198
abbrev t199:Arg:=.t 199
abbrev t200:Arg:=.t 200
abbrev t201:Arg:=.t 201
abbrev t202:Arg:=.t 202
abbrev t203:Arg:=.t 203
abbrev t204:Arg:=.t 204
abbrev t205:Arg:=.t 205
abbrev t206:Arg:=.t 206
abbrev t207:Arg:=.t 207
abbrev t208:Arg:=.t 208
abbrev t209:Arg:=.t 209
abbrev t210:Arg:=.t 210
abbrev t211:Arg:=.t 211
abbrev t212:Arg:=.t 212
abbrev t213:Arg:=.t 213
abbrev t214:Arg:=.t 214
abbrev t215:Arg:=.t 215
abbrev t216:Arg:=.t 216
abbrev t217:Arg:=.t 217
abbrev t218:Arg:=.t 218
abbrev t219:Arg:=.t 219
abbrev t220:Arg:=.t 220
abbrev t221:Arg:=.t 221
abbrev t222:Arg:=.t 222
abbrev t223:Arg:=.t 223
abbrev t224:Arg:=.t 224
abbrev t225:Arg:=.t 225
abbrev t226:Arg:=.t 226
abbrev t227:Arg:=.t 227
abbrev t228:Arg:=.t 228
abbrev t229:Arg:=.t 229
abbrev t230:Arg:=.t 230
abbrev t231:Arg:=.t 231
abbrev t232:Arg:=.t 232
abbrev t233:Arg:=.t 233
abbrev t234:Arg:=.t 234
abbrev t235:Arg:=.t 235
abbrev t236:Arg:=.t 236
abbrev t237:Arg:=.t 237
abbrev t238:Arg:=.t 238
abbrev t239:Arg:=.t 239
abbrev t240:Arg:=.t 240
abbrev t241:Arg:=.t 241
end Go.Eng
