import Derived.Test.YtngikdcgcakaaaaDoorDecRel
import Derived.Test.YtngikdcgcakaaaaDoorProg
set_option linter.unusedSimpArgs false
set_option linter.unusedVariables false
namespace Go.Eng
def prep1(i:Nat)(off:Option Nat)(w:Option (ET × Nat))(args:List SV)(hp:List SB):Option (List SV × List SB) :=
 match args[i]?,off,w with
 | some (.c (.o (.hd h 0))),some k,w=>match hp[h]? with
  | some (.cells e' l)=>match l[k]? with
   | some x=>match w with
    | some (t,e)=>bif nilK t x then some (args,hp.set h (.cells e' (l.set k (nilH t hp.length)))++[nilSB t e]) else some (args,hp)
    | none=>(selfP h x).bind λy=>some (args,hp.set h (.cells e' (l.set k y)))
   | none=>none
  | _=>none
 | some (.c (.o x)),none,some (t,e)=>bif nilK t x then some (args.set i (.c (.o (nilH t hp.length))),hp++[nilSB t e]) else some (args,hp)
 | some (.c (.agg l)),some k,some (t,e)=>match l[k]? with
  | some x=>bif nilK t x then some (args.set i (.c (.agg (l.set k (nilH t hp.length)))),hp++[nilSB t e]) else some (args,hp)
  | none=>none
 | _,_,_=>none
def prepA:List (Nat × Option Nat × Option (ET × Nat))->List SV->List SB->Option (List SV × List SB)
 | [],args,hp=>some (args,hp)
 | (i,off,w)::r,args,hp=>match prep1 i off w args hp with
  | some (args',hp')=>prepA r args' hp'
  | none=>none
def qDz(pre:List (Nat × Option Nat × Option (ET × Nat))):CQ->CQ
 | .quiet C=>.quiet λargs hp R k=>match prepA pre args hp with
  | some (args',hp')=>C args' hp' R k
  | none=>none
 | .loud C=>.loud λargs hp R k=>match prepA pre args hp with
  | some (args',hp')=>C args' hp' R k
  | none=>none
 | .any C=>.any λargs hp=>match prepA pre args hp with
  | some (args',hp')=>C args' hp'
  | none=>none
 | .pan C=>.pan λargs hp R k kp=>match prepA pre args hp with
  | some (args',hp')=>C args' hp' R k kp
  | none=>none
 | .inl C=>.inl C
def LtH(hp:List SB):Prop:=∀(h:Nat) (sb:SB),hp[h]?=some sb->sb.lt hp.length
def PrepOK(args:List SV)(hp:List SB)(args':List SV)(hp':List SB):Prop :=
 (∀v∈args',v.lt hp'.length)/\hp.length<=hp'.length/\∀(X:Nat->Prop) (w0 w:World) (Z:Nat->Value),HpSat X w0 w Z hp->∃Z',(∀i<hp.length,Z' i=Z i)/\args'.map (SV.den Z')=args.map (SV.den Z)/\HpSat X w0 w Z' hp'/\∀w1,HpSat X w0 w1 Z' hp'->HpSat X w0 w1 Z hp
theorem PrepOK.refl{args:List SV}{hp:List SB}(h:∀v∈args,v.lt hp.length):PrepOK args hp args hp :=
 ⟨h,Nat.le_refl _,λX w0 w Z hh=>⟨Z,λ_ _=>rfl,rfl,hh,λ_ h=>h⟩⟩
theorem PrepOK.trans{a b c:List SV}{hp hp' hp'':List SB}(h:PrepOK a hp b hp')(h':PrepOK b hp' c hp''):PrepOK a hp c hp'':=by
 obtain⟨_,h2,h3⟩:=h;obtain⟨h4,h5,h6⟩:=h';refine⟨h4,by omega,λX w0 w Z hh=>?_⟩;obtain⟨Z',a1,a2,a3,a4⟩:=h3 X w0 w Z hh;obtain⟨Z'',b1,b2,b3,b4⟩:=h6 X w0 w Z' a3;exact⟨Z'',λi hi=>(b1 i (by omega)).trans (a1 i hi),b2.trans a2,b3,λw1 h=>a4 w1 (b4 w1 h)⟩
theorem map_set_den{Z Z':Nat->Value}{args:List SV}{i n:Nat}{v u:SV}(hi:args[i]?=some v)(hd:u.den Z'=v.den Z)(hl:∀x∈args,x.lt n)(ha:∀j<n,Z' j=Z j):(args.set i u).map (SV.den Z')=args.map (SV.den Z):=by
 apply List.ext_getElem?;intro j;rw[List.getElem?_map,List.getElem?_map];by_cases hj:j=i
 ·subst hj;rw[List.getElem?_set_self (List.getElem?_eq_some_iff.1 hi).1,hi];simp only[Option.map_some,hd]
 ·rw[List.getElem?_set_ne (Ne.symm hj)];cases h:args[j]? with
  | none=>rfl
  | some y =>
   simp only[Option.map_some];rw[SV.den_congr ha (hl y (List.mem_of_getElem? h))]
theorem map_den_congr{Z Z':Nat->Value}{args:List SV}{n:Nat}(hl:∀x∈args,x.lt n)(ha:∀j<n,Z' j=Z j):args.map (SV.den Z')=args.map (SV.den Z) :=
 List.map_congr_left λy hy=>SV.den_congr ha (hl y hy)
theorem prep1_ok{i:Nat}{off:Option Nat}{w:Option (ET × Nat)}{args args':List SV}{hp hp':List SB}(h:prep1 i off w args hp=some (args',hp'))(hl:∀v∈args,v.lt hp.length):PrepOK args hp args' hp':=by
 have stay:∀ {x:Option (List SV × List SB)},x=some (args,hp)->x=some (args',hp')->PrepOK args hp args' hp':=λh1 h2=>by
  rw[h1] at h2;simp only[snJ,Prod.mk.injEq] at h2;obtain⟨rfl,rfl⟩:=h2;exact .refl hl
 have lt1:∀v∈args,v.lt (hp.length+1):=λv hv=>SV.lt_mono (Nat.le_succ _) (hl v hv)
 have back:∀(X:Nat->Prop) (w0 w1:World) (Z:Nat->Value) (t:ET) (e:Nat),LtH hp->HpSat X w0 w1 (nilZT t hp.length Z) (hp++[nilSB t e])->HpSat X w0 w1 Z hp:=λX w0 w1 Z t e hlt hh =>
  hh.init hlt λi hi=>qCp i hi
 unfold prep1 at h;split at h
 ·rename_i hh k hi;have hiL:=hl _ (List.mem_of_getElem? hi);split at h
  ·rename_i e' l hsb;split at h
   ·rename_i x hx;have hhl:=(List.getElem?_eq_some_iff.1 hsb).1;split at h
    ·rename_i t e;cases hn:nilK t x with
     | false=>rw[hn] at h;exact stay rfl h
     | true =>
      rw[hn] at h;simp only[cnT,snJ,Prod.mk.injEq] at h;obtain⟨rfl,rfl⟩:=h;refine⟨by simpa using lt1,by simp,λX w0 w Z hs=>?_⟩;have hlt:=hs.lt hh _ hsb;have hsb':(hp++[nilSB t e])[hh]?=some (.cells e' l):=by rw[List.getElem?_append_left hhl];exact hsb
      have fwd:∀w1,HpSat X w0 w1 (nilZT t hp.length Z) (hp++[nilSB t e])->HpSat X w0 w1 (nilZT t hp.length Z) (hp.set hh (.cells e' (l.set k (nilH t hp.length)))++[nilSB t e]):=λw1 h1=>by
       have:=qCi h1 hsb' (l':=l.set k (nilH t hp.length)) (by
        rw[qDn hx hn hlt];exact(List.map_congr_left λy hy=>S0.den_congr qCp (hlt y hy)).symm) (by
        have:=set_nilT_lt (k:=k) (t:=t) hlt;simpa using this)
       rwa [List.set_append_left _ _ hhl] at this
      refine⟨nilZT t hp.length Z,qCp,map_den_congr hl qCp,fwd w (qEz hn hs e),λw1 h1=>?_⟩;have h2:(hp.set hh (.cells e' (l.set k (nilH t hp.length)))++[nilSB t e])[hh]?=some (.cells e' (l.set k (nilH t hp.length))):=by
       rw[List.getElem?_append_left (by simpa using hhl),List.getElem?_set_self hhl]
      have h3:=qCi h1 h2 (l':=l) (by
       rw[qDn hx hn hlt];exact List.map_congr_left λy hy=>S0.den_congr qCp (hlt y hy)) (λy hy=>S0.lt_mono (by simp) (hlt y hy))
      rw[List.set_append_left _ _ (by simpa using hhl),List.set_set,(by
       apply List.ext_getElem?;intro j;by_cases hj:j=hh
       ·subst hj;rw[List.getElem?_set_self hhl,hsb]
       ·rw[List.getElem?_set_ne (Ne.symm hj)]:hp.set hh (.cells e' l)=hp)] at h3
      exact back X w0 w1 Z t e hs.lt h3
    ·obtain⟨y,hy,h⟩:=Option.bind_eq_some_iff.1 h;simp only[snJ,Prod.mk.injEq] at h;obtain⟨rfl,rfl⟩:=h;refine⟨by simpa using hl,by simp,λX w0 w Z hs=>?_⟩;obtain⟨hd,hyl⟩:=selfP_den (Z:=Z) hy;have hlt:=hs.lt hh _ hsb;refine⟨Z,λ_ _=>rfl,rfl,qCi hs hsb (set_den hx hd) (set_lt hlt (hyl _ hhl)),λw1 h1=>?_⟩;have h2:(hp.set hh (.cells e' (l.set k y)))[hh]?=some (.cells e' (l.set k y)):=List.getElem?_set_self hhl;have h3:=qCi h1 h2 (l':=l) (set_den hx hd).symm (λy hy=>by simpa using hlt y hy);rwa [List.set_set,(by
      apply List.ext_getElem?;intro j;by_cases hj:j=hh
      ·subst hj;rw[List.getElem?_set_self hhl,hsb]
      ·rw[List.getElem?_set_ne (Ne.symm hj)]:hp.set hh (.cells e' l)=hp)] at h3
   ·cases h
  ·cases h
 ·rename_i x t e hi;cases hn:nilK t x with
  | false=>rw[hn] at h;exact stay rfl h
  | true =>
   rw[hn] at h;simp only[cnT,snJ,Prod.mk.injEq] at h;obtain⟨rfl,rfl⟩:=h;refine⟨λv hv=>?_,by simp,λX w0 w Z hs=>⟨nilZT t hp.length Z,qCp,?_,qEz hn hs e,λw1 h1=>back X w0 w1 Z t e hs.lt h1⟩⟩
   ·rcases List.mem_or_eq_of_mem_set hv with h | rfl
    ·simpa using lt1 v h
    ·have:=nilH_lt t hp.length;simpa[SV.lt,SC.lt] using this
   ·refine map_set_den hi ?_ hl qCp;simp only[SV.den,SC.den,nilT_den hn]
 ·rename_i l k t e hi;split at h
  ·rename_i x hx;cases hn:nilK t x with
   | false=>rw[hn] at h;exact stay rfl h
   | true =>
    rw[hn] at h;simp only[cnT,snJ,Prod.mk.injEq] at h;obtain⟨rfl,rfl⟩:=h;have hlt:=hl _ (List.mem_of_getElem? hi);refine⟨λv hv=>?_,by simp,λX w0 w Z hs=>⟨nilZT t hp.length Z,qCp,?_,qEz hn hs e,λw1 h1=>back X w0 w1 Z t e hs.lt h1⟩⟩
    ·rcases List.mem_or_eq_of_mem_set hv with h | rfl
     ·simpa using lt1 v h
     ·have:=set_nilT_lt (k:=k) (t:=t) hlt;show ∀y∈_,S0.lt _ y;simpa using this
    ·refine map_set_den hi ?_ hl qCp;simp only[SV.den,SC.den];rw[qDn hx hn hlt]
  ·cases h
 ·cases h
theorem prepA_ok:∀ {pre:List (Nat × Option Nat × Option (ET × Nat))} {args args':List SV} {hp hp':List SB},prepA pre args hp=some (args',hp')->(∀v∈args,v.lt hp.length)->PrepOK args hp args' hp'
 | [],args,args',hp,hp',h,hl=>by
  simp only[prepA,snJ,Prod.mk.injEq] at h;obtain⟨rfl,rfl⟩:=h;exact .refl hl
 | (i,off,w)::r,args,args',hp,hp',h,hl=>by
  simp only[prepA] at h;split at h
  ·rename_i a1 h1 heq;have:=prep1_ok heq hl;exact this.trans (prepA_ok h this.1)
  ·cases h
theorem prep_loudG{P:Program}{f:Nat}{deep:Bool}{pre:List (Nat × Option Nat × Option (ET × Nat))}{modes:List Bool}{C:CS}(h:qAj P f C):qAg P f (qDz pre (liftG deep modes C)):=by
 obtain⟨hnat,hval,hany⟩:=liftG_valid (deep:=deep) (modes:=modes) h;refine⟨λargs hp R k r hr=>?_,λargs hp p r q hq hpp hl=>?_,tV⟩
 ·simp only at hr ⊢;cases h1:prepA pre args hp with
  | none=>rw[h1] at hr;cases hr
  | some x =>
   obtain⟨a',hp'⟩:=x;rw[h1] at hr;simp only at hr ⊢;exact hnat a' hp' R k r hr
 ·simp only[oldC,liftG,qDz] at hq;cases h1:prepA pre args hp with
  | none=>rw[h1] at hq;cases hq
  | some x =>
   obtain⟨a',hp'⟩:=x;rw[h1] at hq;obtain⟨g1,g2,g3⟩:=prepA_ok h1 hl;have:=hval a' hp' p r q hq hpp g1;cases q with
   | none =>
    exfalso;simp only at hq;split at hq <;> cases hq
   | some hp2 =>
    obtain⟨k1,k2,k3⟩:=this;refine⟨k1,by omega,λX w0 w Z hs hf=>?_⟩;obtain⟨Z',a1,a2,a3,a4⟩:=g3 X w0 w Z hs;have:=k3 X w0 w Z' a3 hf;rw[a2] at this;refine this.mono ?_;rintro e w' ⟨Z2,b1,b2,b3,b4⟩
    exact⟨Z2,λi hi=>(b1 i (by omega)).trans (a1 i hi),b2,b3,b4⟩
theorem prep_loud{P:Program}{f:Nat}{pre:List (Nat × Option Nat × Option (ET × Nat))}{modes:List Bool}{C:CS}(h:qAj P f C):qAg P f (qDz pre (liftQ modes C)):=prep_loudG h
theorem liftV_shut{deep:Bool}{modes:List Bool}{C:CS}{args:List SV}{hp:List SB}{p:Prop}{r:SV}{q:Option (List SB)}(hn:natQ (liftH deep modes C))(hs:natS C)(h:oldC (liftH deep modes C) args hp=some (p,r,q)):r.shut=true/\q=none:=by
 simp only[oldC,liftH] at h;cases ha:modes.all (λb=>bif b then false else true) with
 | false=>rw[ha] at h;simp at h
 | true =>
  rw[ha] at h;simp only[cnT] at h;cases h1:lendAll deep modes args hp with
  | none=>rw[h1] at h;simp at h
  | some x =>
   obtain⟨Y,ps,args',hpv⟩:=x;rw[h1] at h;simp only at h;cases h0:gds ps (C args' hpv SV λv hpv'=>bif v.shut then some v else none) with
   | none=>rw[h0] at h;simp at h
   | some y =>
    rw[h0] at h;obtain⟨hps,h0⟩:=qA7.1 h0;rw[hs] at h0;obtain⟨⟨v,hpv'⟩,h4,h5⟩:=Option.bind_eq_some_iff.1 h0;simp only at h5;cases hs:v.shut with
    | false=>rw[hs] at h5;simp at h5
    | true =>
     rw[hs] at h5;simp only[cnT,snJ] at h5;subst h5;simp only[snJ,Prod.mk.injEq] at h;obtain⟨_,rfl,rfl⟩:=h;exact⟨hs,rfl⟩
theorem prep_quietG{P:Program}{f:Nat}{deep:Bool}{pre:List (Nat × Option Nat × Option (ET × Nat))}{modes:List Bool}{C:CS}(h:qAj P f C):qAg P f (qDz pre (liftH deep modes C)):=by
 obtain⟨hnat,hval,hany⟩:=liftH_valid (deep:=deep) (modes:=modes) h;refine⟨λargs hp R k r hr=>?_,λargs hp p r q hq hpp hl=>?_,tV⟩
 ·simp only at hr ⊢;cases h1:prepA pre args hp with
  | none=>rw[h1] at hr;cases hr
  | some x =>
   obtain⟨a',hp'⟩:=x;rw[h1] at hr;simp only at hr ⊢;exact hnat a' hp' R k r hr
 ·cases h1:prepA pre args hp with
  | none=>simp only[oldC,liftH,qDz] at hq;rw[h1] at hq;cases hq
  | some x =>
   obtain⟨a',hp'⟩:=x;have hq':oldC (liftH deep modes C) a' hp'=some (p,r,q):=by
    simp only[oldC,liftH,qDz] at hq ⊢;rw[h1] at hq;exact hq
   obtain⟨hsh,rfl⟩:=liftV_shut hnat h.1 hq';obtain⟨g1,g2,g3⟩:=prepA_ok h1 hl;obtain⟨k1,k3⟩:=hval a' hp' p r none hq' hpp g1;refine⟨SV.shut_lt hsh _,λX w0 w Z hs hf=>?_⟩;obtain⟨Z',a1,a2,a3,a4⟩:=g3 X w0 w Z hs;have:=k3 X w0 w Z' a3 hf;rw[a2] at this;refine this.mono ?_;rintro e w' ⟨rfl,b2,b3⟩
   exact⟨by rw[SV.shut_den hsh Z' Z],a4 w' b2,b3⟩
theorem qA3{P:Program}{f:Nat}{pre:List (Nat × Option Nat × Option (ET × Nat))}{modes:List Bool}{C:CS}(h:qAj P f C):qAg P f (qDz pre (qCm modes C)):=prep_quietG h
theorem vl1{U β Z:Type}{P:Program}{f:Nat}(ic:IQ)(rv:List RV)(nt nv n0:Nat){I:Nat->SubQ}{J:Nat->Option CQ}{A:Dec U (List SV)}{B:Dec β (List SB)}{F:U->β->Option Z}{V:U->β->Z->SV}{H:U->β->Z->List SB}
  (hs:qA6 I J n0 nv nt (subsL ic)) (hJ:∀f C,J f=some C->qAg P f C) (he:∀x y,fnQ I J nv nt ic rv (A.e x) (B.e y) (λv hp'=>some (v,hp'))=(F x y).bind λr=>some (V x y r,H x y r)) (raws:List Nat:=[])
  (hc:chk P f raws=some (ic.erase,rv,nt):=by kernel_rfl) (hl:∀x,(A.e x).length<=nt:=by exact λx=>Nat.le_of_ble_eq_true rfl) (hn:∀y,(B.e y).length=n0:=by exact λy=>rfl):qAj P f (mkC A B F V H):=val_okC hc nv hJ n0 hl hn (qCs hs) he
theorem vl0{U β Z:Type}{P:Program}{f:Nat}(ic:IQ)(rv:List RV)(nt nv n0:Nat)(l:List (Nat × CQ)){A:Dec U (List SV)}{B:Dec β (List SB)}{F:U->β->Option Z}{V:U->β->Z->SV}{H:U->β->Z->List SB}
  (hv:ValidsQ P l) (he:∀x y,fnQ (tblL []) (tblQ l) nv nt ic rv (A.e x) (B.e y) (λv hp'=>some (v,hp'))=(F x y).bind λr=>some (V x y r,H x y r)) (raws:List Nat:=[])
  (hc:chk P f raws=some (ic.erase,rv,nt):=by kernel_rfl) (hl:∀x,(A.e x).length<=nt:=by exact λx=>Nat.le_of_ble_eq_true rfl) (hn:∀y,(B.e y).length=n0:=by exact λy=>rfl) (hs:qA6 (tblL []) (tblQ l) n0 nv nt (subsL ic):=by exact True.intro):qAj P f (mkC A B F V H):=vl1 ic rv nt nv n0 hs (qA1 hv) he raws hc hl hn
abbrev oP(d:Nat)(p:Pr):IOp:=⟨some d,p,none⟩
abbrev oE(d:Nat)(p:Pr)(g:Nat):IOp:=⟨some d,p,some (g,false)⟩
abbrev oF(d:Nat)(p:Pr)(g:Nat):IOp:=⟨some d,p,some (g,true)⟩
abbrev oN(p:Pr):IOp:=⟨none,p,none⟩
abbrev oM(d:Nat)(a:Arg):IOp:=⟨some d,.mv a,none⟩
abbrev vI(n:Int):Arg:=.v (.int .i64 n)
abbrev vC(n:Int):Arg:=.v (.int .u8 n)
abbrev vT:Arg:=.v (.bool true)
abbrev vF:Arg:=.v (.bool false)
abbrev Pr.bi(o:BinOp)(x y:Arg):Pr:=.bin false o x y
abbrev Pr.nk(x:Arg):Pr:=.ext .nilck [x]
abbrev rg(n:Nat)(l:List IOp):IQ:=.reg n none l
abbrev IQ.cn(l:List Nat)(q:IQ):IQ:=.canon [] l q
abbrev S0.vI(x:Int):S0:=.val (.int .i64 x)
abbrev S0.vS(x:ByteArray):S0:=.val (.string x)
abbrev S0.vB(x:Bool):S0:=.val (.bool x)
abbrev sL(i:Nat)(x:S0):Nat × GL × SV:=(i,[],.c (.o x))
abbrev dSO{U:Type}(i:Nat)(x:Dec U S0):=dSl i (dVC (dCO x))
abbrev dZ:=dI .i64
theorem sZ:(∀ {U β:Type} (c:Bool) (x y:Option U) (k:U->Option β),(bif c then x else y).bind k=bif c then x.bind k else y.bind k)/\(∀ {U β:Type} (p:Prop) (x:Option U) (k:U->Option β),(gd p x).bind k=gd p (x.bind k))/\(∀ {U β γ:Type} (x:Option U) (f:U->Option β) (g:β->Option γ),(x.bind f).bind g=x.bind λy=>(f y).bind g)/\(∀ {U β:Type} (a:U) (f:U->Option β),(some a).bind f=f a)/\(∀ {U β γ:Type} (f:U->γ) (g:β->γ) (x:U),Sum.elim f g (.inl x)=f x)/\(∀ {U β γ:Type} (f:U->γ) (g:β->γ) (x:β),Sum.elim f g (.inr x)=g x)/\(∀ {U β γ δ:Type} (s:U ⊕ β) (f:U->Option γ) (g:β->Option γ) (k:γ->Option δ),(Sum.elim f g s).bind k=Sum.elim (λx=>(f x).bind k) (λy=>(g y).bind k) s) :=
 ⟨bind_cond,bind_gd,obA,obS,slL,slR,bind_elim⟩
abbrev dTy{U β:Type}(_:Dec U β):Type:=U
abbrev rF(d:Nat)(a:Arg)(k:Nat):List IOp:=[oM d a,oP (d+1) (.nk (.t d)),oP (d+2) (.faddr k (.t (d+1))),oP (d+3) (.load none (.t (d+2)))]
abbrev rG(d:Nat)(a:Arg)(k:Nat):List IOp:=[oP d (.nk a),oP (d+1) (.faddr k (.t d)),oP (d+2) (.load none (.t (d+1)))]
abbrev rS(d:Nat)(a:Arg)(k:Nat)(v:Arg):List IOp:=[oP d (.nk a),oP (d+1) (.faddr k (.t d)),oN (.store 1 (.t (d+1)) v)]
abbrev rH(o:Nat->Pr->Nat->IOp)(d:Nat)(a:Arg)(k g:Nat):List IOp:=[o d (.mv a) g,o (d+1) (.nk (.t d)) g,o (d+2) (.faddr k (.t (d+1))) g,o (d+3) (.load none (.t (d+2))) g]
abbrev t0:Arg:=.t 0
abbrev t1:Arg:=.t 1
abbrev t2:Arg:=.t 2
abbrev t3:Arg:=.t 3
abbrev t4:Arg:=.t 4
abbrev t5:Arg:=.t 5
abbrev t6:Arg:=.t 6
abbrev t7:Arg:=.t 7
abbrev t8:Arg:=.t 8
abbrev t9:Arg:=.t 9
abbrev t10:Arg:=.t 10
abbrev t11:Arg:=.t 11
abbrev t12:Arg:=.t 12
abbrev t13:Arg:=.t 13
abbrev t14:Arg:=.t 14
abbrev t15:Arg:=.t 15
abbrev t16:Arg:=.t 16
abbrev t17:Arg:=.t 17
abbrev t18:Arg:=.t 18
abbrev t19:Arg:=.t 19
abbrev t20:Arg:=.t 20
abbrev t21:Arg:=.t 21
abbrev t22:Arg:=.t 22
abbrev t23:Arg:=.t 23
abbrev t24:Arg:=.t 24
abbrev t25:Arg:=.t 25
abbrev t26:Arg:=.t 26
abbrev t27:Arg:=.t 27
abbrev t28:Arg:=.t 28
abbrev t29:Arg:=.t 29
abbrev t30:Arg:=.t 30
abbrev t31:Arg:=.t 31
abbrev t32:Arg:=.t 32
abbrev t33:Arg:=.t 33
abbrev t34:Arg:=.t 34
abbrev t35:Arg:=.t 35
abbrev t36:Arg:=.t 36
abbrev t37:Arg:=.t 37
abbrev t38:Arg:=.t 38
abbrev t39:Arg:=.t 39
abbrev t40:Arg:=.t 40
abbrev t41:Arg:=.t 41
abbrev t42:Arg:=.t 42
abbrev t43:Arg:=.t 43
abbrev t44:Arg:=.t 44
abbrev t45:Arg:=.t 45
abbrev t46:Arg:=.t 46
abbrev t47:Arg:=.t 47
abbrev t48:Arg:=.t 48
abbrev t49:Arg:=.t 49
abbrev t50:Arg:=.t 50
abbrev t51:Arg:=.t 51
abbrev t52:Arg:=.t 52
abbrev t53:Arg:=.t 53
abbrev t54:Arg:=.t 54
abbrev t55:Arg:=.t 55
abbrev t56:Arg:=.t 56
abbrev t57:Arg:=.t 57
abbrev t58:Arg:=.t 58
abbrev t59:Arg:=.t 59
abbrev t60:Arg:=.t 60
abbrev t61:Arg:=.t 61
abbrev t62:Arg:=.t 62
abbrev t63:Arg:=.t 63
abbrev t64:Arg:=.t 64
abbrev t65:Arg:=.t 65
abbrev t66:Arg:=.t 66
abbrev t67:Arg:=.t 67
abbrev t68:Arg:=.t 68
abbrev t69:Arg:=.t 69
abbrev t70:Arg:=.t 70
abbrev t71:Arg:=.t 71
abbrev t72:Arg:=.t 72
abbrev t73:Arg:=.t 73
abbrev t74:Arg:=.t 74
abbrev t75:Arg:=.t 75
abbrev t76:Arg:=.t 76
abbrev t77:Arg:=.t 77
abbrev t78:Arg:=.t 78
abbrev t79:Arg:=.t 79
abbrev t80:Arg:=.t 80
abbrev t81:Arg:=.t 81
abbrev t82:Arg:=.t 82
abbrev t83:Arg:=.t 83
abbrev t84:Arg:=.t 84
abbrev t85:Arg:=.t 85
abbrev t86:Arg:=.t 86
abbrev t87:Arg:=.t 87
abbrev t88:Arg:=.t 88
abbrev t89:Arg:=.t 89
abbrev t90:Arg:=.t 90
abbrev t91:Arg:=.t 91
abbrev t92:Arg:=.t 92
abbrev t93:Arg:=.t 93
abbrev t94:Arg:=.t 94
abbrev t95:Arg:=.t 95
abbrev t96:Arg:=.t 96
abbrev t97:Arg:=.t 97
abbrev t98:Arg:=.t 98
abbrev t99:Arg:=.t 99
abbrev t100:Arg:=.t 100
abbrev t101:Arg:=.t 101
abbrev t102:Arg:=.t 102
abbrev t103:Arg:=.t 103
abbrev t104:Arg:=.t 104
abbrev t105:Arg:=.t 105
abbrev t106:Arg:=.t 106
abbrev t107:Arg:=.t 107
abbrev t108:Arg:=.t 108
abbrev t109:Arg:=.t 109
abbrev t110:Arg:=.t 110
abbrev t111:Arg:=.t 111
abbrev t112:Arg:=.t 112
abbrev t113:Arg:=.t 113
abbrev t114:Arg:=.t 114
abbrev t115:Arg:=.t 115
abbrev t116:Arg:=.t 116
abbrev t117:Arg:=.t 117
abbrev t118:Arg:=.t 118
abbrev t119:Arg:=.t 119
abbrev t120:Arg:=.t 120
abbrev t121:Arg:=.t 121
abbrev t122:Arg:=.t 122
abbrev t123:Arg:=.t 123
abbrev t124:Arg:=.t 124
abbrev t125:Arg:=.t 125
abbrev t126:Arg:=.t 126
abbrev t127:Arg:=.t 127
abbrev t128:Arg:=.t 128
abbrev t129:Arg:=.t 129
abbrev t130:Arg:=.t 130
abbrev t131:Arg:=.t 131
abbrev t132:Arg:=.t 132
abbrev t133:Arg:=.t 133
abbrev t134:Arg:=.t 134
abbrev t135:Arg:=.t 135
abbrev t136:Arg:=.t 136
abbrev t137:Arg:=.t 137
abbrev t138:Arg:=.t 138
abbrev t139:Arg:=.t 139
abbrev t140:Arg:=.t 140
abbrev t141:Arg:=.t 141
abbrev t142:Arg:=.t 142
abbrev t143:Arg:=.t 143
abbrev t144:Arg:=.t 144
abbrev t145:Arg:=.t 145
abbrev t146:Arg:=.t 146
abbrev t147:Arg:=.t 147
abbrev t148:Arg:=.t 148
abbrev t149:Arg:=.t 149
abbrev t150:Arg:=.t 150
abbrev t151:Arg:=.t 151
abbrev t152:Arg:=.t 152
abbrev t153:Arg:=.t 153
abbrev t154:Arg:=.t 154
abbrev t155:Arg:=.t 155
abbrev t156:Arg:=.t 156
abbrev t157:Arg:=.t 157
abbrev t158:Arg:=.t 158
abbrev t159:Arg:=.t 159
abbrev t160:Arg:=.t 160
abbrev t161:Arg:=.t 161
abbrev t162:Arg:=.t 162
abbrev t163:Arg:=.t 163
abbrev t164:Arg:=.t 164
abbrev t165:Arg:=.t 165
abbrev t166:Arg:=.t 166
abbrev t167:Arg:=.t 167
abbrev t168:Arg:=.t 168
abbrev t169:Arg:=.t 169
abbrev t170:Arg:=.t 170
abbrev t171:Arg:=.t 171
abbrev t172:Arg:=.t 172
abbrev t173:Arg:=.t 173
abbrev t174:Arg:=.t 174
abbrev t175:Arg:=.t 175
abbrev t176:Arg:=.t 176
abbrev t177:Arg:=.t 177
abbrev t178:Arg:=.t 178
abbrev t179:Arg:=.t 179
abbrev t180:Arg:=.t 180
abbrev t181:Arg:=.t 181
abbrev t182:Arg:=.t 182
abbrev t183:Arg:=.t 183
abbrev t184:Arg:=.t 184
abbrev t185:Arg:=.t 185
abbrev t186:Arg:=.t 186
abbrev t187:Arg:=.t 187
abbrev t188:Arg:=.t 188
abbrev t189:Arg:=.t 189
abbrev t190:Arg:=.t 190
abbrev t191:Arg:=.t 191
abbrev t192:Arg:=.t 192
abbrev t193:Arg:=.t 193
abbrev t194:Arg:=.t 194
abbrev t195:Arg:=.t 195
abbrev t196:Arg:=.t 196
abbrev t197:Arg:=.t 197
abbrev t198:Arg:=.t 198
abbrev t199:Arg:=.t 199
abbrev t200:Arg:=.t 200
abbrev t201:Arg:=.t 201
abbrev t202:Arg:=.t 202
abbrev t203:Arg:=.t 203
abbrev t204:Arg:=.t 204
abbrev t205:Arg:=.t 205
abbrev t206:Arg:=.t 206
abbrev t207:Arg:=.t 207
abbrev t208:Arg:=.t 208
abbrev t209:Arg:=.t 209
abbrev t210:Arg:=.t 210
abbrev t211:Arg:=.t 211
abbrev t212:Arg:=.t 212
abbrev t213:Arg:=.t 213
abbrev t214:Arg:=.t 214
abbrev t215:Arg:=.t 215
abbrev t216:Arg:=.t 216
abbrev t217:Arg:=.t 217
abbrev t218:Arg:=.t 218
abbrev t219:Arg:=.t 219
abbrev t220:Arg:=.t 220
abbrev t221:Arg:=.t 221
end Go.Eng
namespace Go.Proofs.YtngikdcgcakaaaaDoor
open Go.Eng
set_option maxRecDepth 100000
noncomputable section
structure decimal_number where
 minus:Bool
 whole:BA
 digits:BA
 point:Int
 plain:Bool
 down:Bool
 exp_:BA
structure qFe where
 minus:Bool
 digits:(List Int)
 off:Int
 down:Bool
 exp_:(List Int)
 plain:Bool
 text:BA
def zar_q:IQ:=(.seq (rg 4 [oP 4 (.mv vF)]) (.seq (rg 4 [oM 5 t1,oM 6 t0,oP 7 (.lenS t6),oP 8 (.bi .lss t5 t7),oM 9 t8,oF 10 (.mv t0) 9,oF 11 (.mv t1) 9,oF 12 (.index t10 t11) 9,oF 13 (.bi .geq t12 (vC 48)) 9,oP 14 (.pick t9 t13 vF),oM 15 t14,oF 16 (.mv t0) 15,oF 17 (.mv t1) 15,oF 18 (.index t16 t17) 15,oF 19 (.bi .leq t18 (vC 57)) 15,oP 20 (.pick t15 t19 vF),oM 4 t20]) (.cn [4] .ret)))
def zar_s(s:BA)(at_:Int):Option Bool :=
 gd ((decide (at_<(s.size:Int)))=true->0<=at_/\at_<s.size)<|gd (((decide (at_<(s.size:Int))) && (decide ((48:Int)<=(bAt s at_))))=true->0<=at_/\at_<s.size)<|some (((decide (at_<(s.size:Int))) && (decide ((48:Int)<=(bAt s at_)))) && (decide ((bAt s at_)<=(57:Int))))
def zar_c:CS:=mkC (qAb (dVC (dCO dS)) (qAb (dVC (dCO dZ)) dNil)) dNil (λx y=>zar_s x.1 x.2.1) (λx y r=>.c (.o (.vB r))) λx y r=>[]
theorem zar_val:qAj Tryd.prog 107 zar_c:=vl0 zar_q [.tmp 4] 21 5 0 [] trivial λx y=>by
 simp only[zar_s,-eq_self,sZ];kernel_rfl
def zar_w:CQ:=qCm [] zar_c
theorem zar_ok:qAg Tryd.prog 107 zar_w:=qA5 zar_val
def zas_b0:IQ:=(.loop [0,1] (.seq (.seq (rg 7 [oM 5 t0,oM 6 t1,oP 7 (.call 107 [t5,t6])]) (.cond t7 .skip (.cn [1] (.exit 0)))) (.block 1 (rg 1 [oM 8 t1,oP 9 (.bi .add t8 (vI 1)),oM 1 t9]))))
def zas_q:IQ:=(.seq (rg 4 [oP 4 (.mv (vI 0))]) (.seq (.block 0 (.cn [0,1] (.sub 0 zas_b0))) (.seq (rg 4 [oM 10 t1,oM 4 t10]) (.cn [4] .ret))))
def zas_p0_step(s:BA)(at_:Int):Option (Int ⊕ Int) :=
 (zar_s s at_).bind λr2 =>bif r2 then(gd (qAd (at_+(1:Int)))<|some (.inl (at_+(1:Int)))) else(some (.inr at_))
def zas_p0(s:BA)(at_:Int):Option Int :=
 qBa (λx:Int=>zas_p0_step s x) at_
def zas_s(s:BA)(at_:Int):Option Int :=
 (zas_p0 s at_).bind λo3 =>some o3
def zas_G:Nat->Option CQ:=tblQ [(107,zar_w)]
def zas_d0:=(dQS (qAb (dSO 0 dS) (qAb (dSO 1 dZ) dNil)) dNil)
def zas_l0:SubQ:=mkL zas_d0 (λx=>zas_p0 x.1.1 x.1.2.1) λx r R kn kx kr=>kx 0 ⟨[sL 1 (.vI r)],[],[]⟩
def zas_L:Nat->SubQ:=tblL [(0,zas_l0)]
theorem zas_sub0:qBr zas_L zas_G 0 5 11 0 zas_b0:=qAu (show zas_L 0=zas_l0 from by kernel_rfl) λx R kn kx kr=>qAk (step:=λy=>zas_p0_step x.1.1 y) (enc:=λ(y:Int)=>zas_d0.e ((x.1.1,y,x.1.2.2),x.2)) (λy=>by kernel_rfl) (λy ki=>by simp only[zas_p0_step,-eq_self,sZ];kernel_rfl) x.1.2.1
def zas_c:CS:=mkC (qAb (dVC (dCO dS)) (qAb (dVC (dCO dZ)) dNil)) dNil (λx y=>zas_s x.1 x.2.1) (λx y r=>.c (.o (.vI r))) λx y r=>[]
theorem zas_val:qAj Tryd.prog 93 zas_c:=vl1 zas_q [.tmp 4] 11 5 0 (show qA6 zas_L zas_G 0 5 11 [(0,zas_b0)] from⟨zas_sub0,tV⟩) (qA1 ⟨zar_ok,tV⟩) λx y=>by
 simp only[zas_s,-eq_self,sZ];kernel_rfl
def zas_w:CQ:=qCm [] zas_c
theorem zas_ok:qAg Tryd.prog 93 zas_w:=qA5 zas_val
def zao_b3:IQ:=(.loop [0,2,4,7,9,10] (.seq (.seq (rg 140 [oM 138 t10,oM 139 t9,oP 140 (.bi .lss t138 t139)]) (.cond t140 .skip (.cn [0,2,4,7,9] (.exit 0)))) (.seq (.block 1 (.seq (rg 152 [oM 143 t0,oM 144 t10,oP 145 (.index t143 t144),oP 146 (.bi .neq t145 (vC 48)),oM 147 t146,oE 148 (.faddr 4 t4) 147,oE 149 (.load none t148) 147,oE 150 (.len t149) 147,oE 151 (.bi .gtr t150 (vI 0)) 147,oP 152 (.pick t147 vT t151)]) (.cond t152 (.reg 0 (some [0,1,2,3,4,5,6,7,8,9,10]) [oP 153 (.faddr 4 t4),oP 154 (.load none t153),oM 155 t0,oM 156 t10,oP 157 (.index t155 t156),oP 158 (.bi .sub t157 (vC 48)),oP 159 (.conv false .i64 t158),oP 160 (.bslice 3 1 1 [.int .i64 0] [(0,t159)]),oP 161 (.append 3 1 8 [.int .i64 0] t154 t160),oP 162 (.faddr 4 t4),oN (.store 1 t162 t161)]) .skip))) (rg 10 [oM 141 t10,oP 142 (.bi .add t141 (vI 1)),oM 10 t142]))))
def zao_b2:IQ:=(.join [] [0,2,4,5,7] (.seq (rg 9 [oM 130 t0,oM 131 t5,oP 132 (.call 93 [t130,t131]),oM 9 t132]) (.seq (.seq (rg 135 [oM 133 t9,oM 134 t5,oP 135 (.bi .eql t133 t134)]) (.cond t135 (.seq (rg 3 [oP 136 (.load (some 7) t4),oN (.store 7 t2 t136),oP 3 (.mv vF)]) (.canon [(2,some 1,.i64,3),(2,some 4,.i64,3)] [2,3] .ret)) .skip)) (.seq (.seq (rg 10 [oM 137 t5,oM 10 t137]) (.block 0 (.canon [(4,some 4,.i64,3)] [0,2,4,7,9,10] (.sub 3 zao_b3)))) (rg 5 [oM 163 t9,oM 5 t163])))))
def zao_b5:IQ:=(.loop [2,4,7,11] (.seq (.seq (rg 172 [oM 169 t11,oM 170 t7,oP 171 (.lenS t170),oP 172 (.bi .lss t169 t171)]) (.cond t172 .skip (.cn [2,4] (.exit 2)))) (.seq (.block 3 (.seq (rg 12 [oM 175 t7,oM 176 t11,oP 177 (.index t175 t176),oP 178 (.bi .sub t177 (vC 48)),oP 179 (.conv false .i64 t178),oM 12 t179]) (.seq (rg 187 [oM 180 t12,oP 181 (.bi .neq t180 (vI 0)),oM 182 t181,oE 183 (.faddr 1 t4) 182,oE 184 (.load none t183) 182,oE 185 (.len t184) 182,oE 186 (.bi .gtr t185 (vI 0)) 182,oP 187 (.pick t182 vT t186)]) (.cond t187 (rg 0 [oP 188 (.faddr 1 t4),oP 189 (.load none t188),oM 190 t12,oP 191 (.bslice 3 1 1 [.int .i64 0] [(0,t190)]),oP 192 (.append 3 1 8 [.int .i64 0] t189 t191),oP 193 (.faddr 1 t4),oN (.store 1 t193 t192)]) (rg 0 [oP 194 (.faddr 2 t4),oP 195 (.load none t194),oP 196 (.bi .sub t195 (vI 1)),oP 197 (.faddr 2 t4),oN (.store 1 t197 t196)]))))) (rg 11 [oM 173 t11,oP 174 (.bi .add t173 (vI 1)),oM 11 t174]))))
def zao_b6:IQ:=(.loop [2,4] (.seq (.seq (rg 212 [oP 198 (.faddr 1 t4),oP 199 (.load none t198),oP 200 (.len t199),oP 201 (.bi .gtr t200 (vI 0)),oM 202 t201,oF 203 (.faddr 1 t4) 202,oF 204 (.load none t203) 202,oF 205 (.faddr 1 t4) 202,oF 206 (.load none t205) 202,oF 207 (.len t206) 202,oF 208 (.bi .sub t207 (vI 1)) 202,oF 209 (.iaddr 1 t204 t208) 202,oF 210 (.load none t209) 202,oF 211 (.bi .eql t210 (vI 0)) 202,oP 212 (.pick t202 t211 vF)]) (.cond t212 .skip (.cn [2,4] (.exit 4)))) (.block 5 (rg 0 [oP 213 (.faddr 1 t4),oP 214 (.load none t213),oP 215 (.faddr 1 t4),oP 216 (.load none t215),oP 217 (.len t216),oP 218 (.bi .sub t217 (vI 1)),oP 219 (.sub (some 1) t214 none (some t218)),oP 220 (.faddr 1 t4),oN (.store 1 t220 t219)]))))
def zao_b4:IQ:=(.seq (.seq (rg 167 [oM 164 t5,oM 165 t0,oP 166 (.lenS t165),oP 167 (.bi .neq t164 t166)]) (.cond t167 (.seq (rg 3 [oP 168 (.load (some 7) t4),oN (.store 7 t2 t168),oP 3 (.mv vF)]) (.canon [(2,some 1,.i64,3),(2,some 4,.i64,3)] [2,3] .ret)) .skip)) (.seq (.seq (rg 11 [oP 11 (.mv (vI 0))]) (.block 2 (.canon [(4,some 1,.i64,3)] [2,4,7,11] (.sub 5 zao_b5)))) (.seq (.block 4 (.cn [2,4] (.sub 6 zao_b6))) (.seq (rg 3 [oP 221 (.load (some 7) t4),oN (.store 7 t2 t221),oP 3 (.mv vT)]) (.canon [(2,some 1,.i64,3),(2,some 4,.i64,3)] [2,3] .ret)))))
def zao_b1:IQ:=(.seq (.seq (rg 103 [oM 88 t5,oM 89 t0,oP 90 (.lenS t89),oP 91 (.bi .lss t88 t90),oM 92 t91,oF 93 (.mv t0) 92,oF 94 (.mv t5) 92,oF 95 (.index t93 t94) 92,oF 96 (.bi .eql t95 (vC 101)) 92,oF 97 (.mv t96) 92,oE 98 (.mv t0) 97,oE 99 (.mv t5) 97,oE 100 (.index t98 t99) 97,oE 101 (.bi .eql t100 (vC 69)) 97,oF 102 (.pick t97 vT t101) 92,oP 103 (.pick t92 t102 vF)]) (.cond t103 (.seq (rg 0 [oP 104 (.faddr 5 t4),oN (.store 1 t104 vF)]) (.seq (rg 5 [oM 105 t5,oP 106 (.bi .add t105 (vI 1)),oM 5 t106]) (.seq (.seq (rg 122 [oM 107 t5,oM 108 t0,oP 109 (.lenS t108),oP 110 (.bi .lss t107 t109),oM 111 t110,oF 112 (.mv t0) 111,oF 113 (.mv t5) 111,oF 114 (.index t112 t113) 111,oF 115 (.bi .eql t114 (vC 43)) 111,oF 116 (.mv t115) 111,oE 117 (.mv t0) 116,oE 118 (.mv t5) 116,oE 119 (.index t117 t118) 116,oE 120 (.bi .eql t119 (vC 45)) 116,oF 121 (.pick t116 vT t120) 111,oP 122 (.pick t111 t121 vF)]) (.cond t122 (.seq (rg 0 [oM 123 t0,oM 124 t5,oP 125 (.index t123 t124),oP 126 (.bi .eql t125 (vC 45)),oP 127 (.faddr 3 t4),oN (.store 1 t127 t126)]) (rg 5 [oM 128 t5,oP 129 (.bi .add t128 (vI 1)),oM 5 t129])) .skip)) (.cn [0,2,4,5,7] (.sub 2 zao_b2))))) .skip)) (.canon [(4,some 4,.i64,3)] [0,2,4,5,7] (.sub 4 zao_b4)))
def zao_b0:IQ:=(.seq (rg 6 [oM 27 t5,oM 6 t27]) (.seq (rg 5 [oM 28 t0,oM 29 t5,oP 30 (.call 93 [t28,t29]),oM 5 t30]) (.seq (.seq (rg 45 [oM 31 t5,oM 32 t6,oP 33 (.bi .eql t31 t32),oM 34 t33,oE 35 (.mv t0) 34,oE 36 (.mv t6) 34,oE 37 (.index t35 t36) 34,oE 38 (.bi .eql t37 (vC 48)) 34,oE 39 (.mv t38) 34,oF 40 (.mv t5) 39,oF 41 (.mv t6) 39,oF 42 (.bi .add t41 (vI 1)) 39,oF 43 (.bi .gtr t40 t42) 39,oE 44 (.pick t39 t43 vF) 34,oP 45 (.pick t34 vT t44)]) (.cond t45 (.seq (rg 3 [oP 46 (.load (some 7) t4),oN (.store 7 t2 t46),oP 3 (.mv vF)]) (.canon [(2,some 1,.i64,3),(2,some 4,.i64,3)] [2,3] .ret)) .skip)) (.seq (rg 0 [oM 47 t0,oM 48 t6,oM 49 t5,oP 50 (.sub none t47 (some t48) (some t49)),oP 51 (.faddr 6 t4),oN (.store 1 t51 t50)]) (.seq (rg 7 [oM 52 t0,oM 53 t6,oM 54 t5,oP 55 (.sub none t52 (some t53) (some t54)),oM 7 t55]) (.seq (rg 0 [oM 56 t5,oM 57 t6,oP 58 (.bi .sub t56 t57),oP 59 (.faddr 2 t4),oN (.store 1 t59 t58)]) (.seq (.seq (rg 69 [oM 60 t5,oM 61 t0,oP 62 (.lenS t61),oP 63 (.bi .lss t60 t62),oM 64 t63,oF 65 (.mv t0) 64,oF 66 (.mv t5) 64,oF 67 (.index t65 t66) 64,oF 68 (.bi .eql t67 (vC 46)) 64,oP 69 (.pick t64 t68 vF)]) (.cond t69 (.seq (rg 0 [oP 70 (.faddr 5 t4),oN (.store 1 t70 vF)]) (.seq (rg 8 [oM 71 t0,oM 72 t5,oP 73 (.bi .add t72 (vI 1)),oP 74 (.call 93 [t71,t73]),oM 8 t74]) (.seq (.seq (rg 78 [oM 75 t8,oM 76 t5,oP 77 (.bi .add t76 (vI 1)),oP 78 (.bi .eql t75 t77)]) (.cond t78 (.seq (rg 3 [oP 79 (.load (some 7) t4),oN (.store 7 t2 t79),oP 3 (.mv vF)]) (.canon [(2,some 1,.i64,3),(2,some 4,.i64,3)] [2,3] .ret)) .skip)) (.seq (rg 7 [oM 80 t7,oM 81 t0,oM 82 t5,oP 83 (.bi .add t82 (vI 1)),oM 84 t8,oP 85 (.sub none t81 (some t83) (some t84)),oP 86 (.bi .add t80 t85),oM 7 t86]) (rg 5 [oM 87 t8,oM 5 t87]))))) .skip)) (.cn [0,2,4,5,7] (.sub 1 zao_b1)))))))))
def zao_q:IQ:=(.seq (rg 3 [oP 2 (.alloc 123 [.bool false,.slice none 0 0,.int .i64 0,.bool false,.slice none 0 0,.bool false,.string ⟨#[]⟩]),oP 3 (.mv vF)]) (.seq (rg 0 [oP 13 (.build [.bool false,.slice none 0 0,.int .i64 0,.bool false,.slice none 0 0,.bool false,.string ⟨#[]⟩] [(5,1,vT)]),oP 4 (.alloc 123 [.bool false,.slice none 0 0,.int .i64 0,.bool false,.slice none 0 0,.bool false,.string ⟨#[]⟩]),oN (.store 7 t4 t13)]) (.seq (rg 5 [oP 5 (.mv (vI 0))]) (.seq (.seq (rg 23 [oM 14 t5,oM 15 t0,oP 16 (.lenS t15),oP 17 (.bi .lss t14 t16),oM 18 t17,oF 19 (.mv t0) 18,oF 20 (.mv t5) 18,oF 21 (.index t19 t20) 18,oF 22 (.bi .eql t21 (vC 45)) 18,oP 23 (.pick t18 t22 vF)]) (.cond t23 (.seq (rg 0 [oP 24 (.faddr 0 t4),oN (.store 1 t24 vT)]) (rg 5 [oM 25 t5,oP 26 (.bi .add t25 (vI 1)),oM 5 t26])) .skip)) (.cn [0,2,4,5] (.sub 0 zao_b0))))))
def zao_p3_step(s:BA)(k_ i:Int)(qFh:List Int):Option ((Int × (List Int)) ⊕ ((List Int))) :=
 bif decide (i<k_) then(gd (0<=i/\i<s.size)<|bif((!decide ((bAt s i)=(48:Int))) || (decide ((0:Int)<(qFh.length:Int)))) then(gd (0<=i/\i<s.size)<|gd (qAd (((bAt s i) - (48:Int)) % 256))<|gd (qFh.length+([(((bAt s i) - (48:Int)) % 256)]:List Int).length<=9223372036854775807/\(qFh.length+([(((bAt s i) - (48:Int)) % 256)]:List Int).length)*8<=140737488355328)<|gd (qAd (i+(1:Int)))<|some (.inl ((i+(1:Int)),(qFh++[(((bAt s i) - (48:Int)) % 256)])))) else(gd (qAd (i+(1:Int)))<|some (.inl ((i+(1:Int)),qFh)))) else(some (.inr qFh))
def zao_p3(s:BA)(k_ i:Int)(qFh:List Int):Option ((List Int)) :=
 qBa (λx:(Int × (List Int))=>zao_p3_step s k_ x.1 x.2) (i,qFh)
def zao_p2(s:BA)(at_:Int):Option ((Bool × (List Int) × (List Int)) ⊕ (Int × (List Int))) :=
 (zas_s s at_).bind λr81 =>bif decide (r81=at_) then(some (.inl (false,[],[]))) else((zao_p3 s r81 at_ []).bind λo82 =>some (.inr (r81,o82)))
def zao_p5_step(all:BA)(i qFb:Int)(qE8:List Int):Option ((Int × Int × (List Int)) ⊕ (Int × (List Int))) :=
 bif decide (i<(all.size:Int)) then(gd (0<=i/\i<all.size)<|gd (qAd (((bAt all i) - (48:Int)) % 256))<|bif((!decide ((((bAt all i) - (48:Int)) % 256)=(0:Int))) || (decide ((0:Int)<(qE8.length:Int)))) then(gd (qE8.length+([(((bAt all i) - (48:Int)) % 256)]:List Int).length<=9223372036854775807/\(qE8.length+([(((bAt all i) - (48:Int)) % 256)]:List Int).length)*8<=140737488355328)<|gd (qAd (i+(1:Int)))<|some (.inl ((i+(1:Int)),qFb,(qE8++[(((bAt all i) - (48:Int)) % 256)])))) else(gd (qAd (qFb - (1:Int)))<|gd (qAd (i+(1:Int)))<|some (.inl ((i+(1:Int)),(qFb - (1:Int)),qE8)))) else(some (.inr (qFb,qE8)))
def zao_p5(all:BA)(i qFb:Int)(qE8:List Int):Option (Int × (List Int)) :=
 qBa (λx:(Int × Int × (List Int))=>zao_p5_step all x.1 x.2.1 x.2.2) (i,qFb,qE8)
def zao_p6_step(qE8:List Int):Option (((List Int)) ⊕ ((List Int))) :=
 gd ((decide ((0:Int)<(qE8.length:Int)))=true->qAd ((qE8.length:Int) - (1:Int)))<|gd ((decide ((0:Int)<(qE8.length:Int)))=true->0<=((qE8.length:Int) - (1:Int))/\((qE8.length:Int) - (1:Int))<qE8.length)<|gd ((decide ((0:Int)<(qE8.length:Int)))=true->(Int.toNat ((qE8.length:Int) - (1:Int)))<qE8.length)<|bif((decide ((0:Int)<(qE8.length:Int))) && (decide ((qE8.getD (Int.toNat ((qE8.length:Int) - (1:Int))) (ET.dft .i64))=(0:Int)))) then(gd (qAd ((qE8.length:Int) - (1:Int)))<|gd (0<=((qE8.length:Int) - (1:Int))/\((qE8.length:Int) - (1:Int))<=qE8.length)<|some (.inl (qE8.take (Int.toNat ((qE8.length:Int) - (1:Int)))))) else(some (.inr qE8))
def zao_p6(qE8:List Int):Option ((List Int)) :=
 qBa (λx:((List Int))=>zao_p6_step x) qE8
def zao_p4(s:BA)(at_:Int)(all:BA)(qFb:Int):Option (Bool × Int × (List Int)) :=
 bif(!decide (at_=(s.size:Int))) then(some (false,qFb,[])) else((zao_p5 all (0:Int) qFb []).bind λo84 =>(zao_p6 o84.2).bind λo85 =>some (true,o84.1,o85))
def zao_p1(s:BA)(at_:Int)(all:BA)(qFb:Int)(qFf qFl:Bool):Option (Bool × Int × Bool × Bool × (List Int) × (List Int)) :=
 gd ((decide (at_<(s.size:Int)))=true->0<=at_/\at_<s.size)<|gd ((decide ((bAt s at_)=(101:Int)))=false->(decide (at_<(s.size:Int)))=true->0<=at_/\at_<s.size)<|bif((decide (at_<(s.size:Int))) && ((decide ((bAt s at_)=(101:Int))) || (decide ((bAt s at_)=(69:Int))))) then(gd (qAd (at_+(1:Int)))<|gd ((decide ((at_+(1:Int))<(s.size:Int)))=true->0<=(at_+(1:Int))/\(at_+(1:Int))<s.size)<|gd ((decide ((bAt s (at_+(1:Int)))=(43:Int)))=false->(decide ((at_+(1:Int))<(s.size:Int)))=true->0<=(at_+(1:Int))/\(at_+(1:Int))<s.size)<|bif((decide ((at_+(1:Int))<(s.size:Int))) && ((decide ((bAt s (at_+(1:Int)))=(43:Int))) || (decide ((bAt s (at_+(1:Int)))=(45:Int))))) then(gd (0<=(at_+(1:Int))/\(at_+(1:Int))<s.size)<|gd (qAd ((at_+(1:Int))+(1:Int)))<|(zao_p2 s ((at_+(1:Int))+(1:Int))).bind λo83=>(Sum.elim (λ(o83_0:Bool × (List Int) × (List Int)) =>some (o83_0.1,qFb,decide ((bAt s (at_+(1:Int)))=(45:Int)),false,o83_0.2.1,o83_0.2.2)) (λ(o83_1:Int × (List Int)) =>(zao_p4 s o83_1.1 all qFb).bind λo86 =>some (o86.1,o86.2.1,decide ((bAt s (at_+(1:Int)))=(45:Int)),false,o86.2.2,o83_1.2))) o83) else((zao_p2 s (at_+(1:Int))).bind λo87=>(Sum.elim (λ(o87_0:Bool × (List Int) × (List Int)) =>some (o87_0.1,qFb,qFf,false,o87_0.2.1,o87_0.2.2)) (λ(o87_1:Int × (List Int)) =>(zao_p4 s o87_1.1 all qFb).bind λo88 =>some (o88.1,o88.2.1,qFf,false,o88.2.2,o87_1.2))) o87)) else((zao_p4 s at_ all qFb).bind λo89 =>some (o89.1,o89.2.1,qFf,qFl,o89.2.2,[]))
def zao_p0(s:BA)(at_ qFb:Int)(qFf qFl:Bool)(qFd:BA):Option (Bool × Int × Bool × Bool × BA × (List Int) × (List Int)) :=
 (zas_s s at_).bind λr79 =>gd ((decide (r79=at_))=false->0<=at_/\at_<s.size)<|gd ((decide ((bAt s at_)=(48:Int)))=true->(decide (r79=at_))=false->qAd (at_+(1:Int)))<|bif((decide (r79=at_)) || ((decide ((bAt s at_)=(48:Int))) && (decide ((at_+(1:Int))<r79)))) then(some (false,qFb,qFf,qFl,qFd,[],[])) else(gd (0<=at_/\at_<=r79/\r79<=s.size)<|gd (0<=at_/\at_<=r79/\r79<=s.size)<|gd (qAd (r79 - at_))<|gd ((decide (r79<(s.size:Int)))=true->0<=r79/\r79<s.size)<|bif((decide (r79<(s.size:Int))) && (decide ((bAt s r79)=(46:Int)))) then(gd (qAd (r79+(1:Int)))<|(zas_s s (r79+(1:Int))).bind λr80 =>gd (qAd (r79+(1:Int)))<|bif decide (r80=(r79+(1:Int))) then(some (false,(r79 - at_),qFf,false,(s.extract at_.toNat r79.toNat),[],[])) else(gd (qAd (r79+(1:Int)))<|gd (0<=(r79+(1:Int))/\(r79+(1:Int))<=r80/\r80<=s.size)<|gd ((s.extract at_.toNat r79.toNat).size+(s.extract (Int.toNat (r79+(1:Int))) r80.toNat).size<=9223372036854775807)<|(zao_p1 s r80 ((s.extract at_.toNat r79.toNat)++(s.extract (Int.toNat (r79+(1:Int))) r80.toNat)) (r79 - at_) qFf false).bind λo90 =>some (o90.1,o90.2.1,o90.2.2.1,o90.2.2.2.1,(s.extract at_.toNat r79.toNat),o90.2.2.2.2.1,o90.2.2.2.2.2))) else((zao_p1 s r79 (s.extract at_.toNat r79.toNat) (r79 - at_) qFf qFl).bind λo91 =>some (o91.1,o91.2.1,o91.2.2.1,o91.2.2.2.1,(s.extract at_.toNat r79.toNat),o91.2.2.2.2.1,o91.2.2.2.2.2)))
def zao_s(s:BA):Option (qFe × Bool) :=
 gd ((decide ((0:Int)<(s.size:Int)))=true->0<=(0:Int)/\(0:Int)<s.size)<|bif((decide ((0:Int)<(s.size:Int))) && (decide ((bAt s (0:Int))=(45:Int)))) then(gd (qAd ((0:Int)+(1:Int)))<|(zao_p0 s ((0:Int)+(1:Int)) (0:Int) false true (⟨#[]⟩:BA)).bind λo92 =>some ((⟨true,o92.2.2.2.2.2.1,o92.2.1,o92.2.2.1,o92.2.2.2.2.2.2,o92.2.2.2.1,o92.2.2.2.2.1⟩:qFe),o92.1)) else((zao_p0 s (0:Int) (0:Int) false true (⟨#[]⟩:BA)).bind λo93 =>some ((⟨false,o93.2.2.2.2.2.1,o93.2.1,o93.2.2.1,o93.2.2.2.2.2.2,o93.2.2.2.1,o93.2.2.2.2.1⟩:qFe),o93.1))
def zao_G:Nat->Option CQ:=tblQ [(93,zas_w)]
def zDGC1:=(dCells 123 (qAb dB (qAb dNS (qAb dZ (qAb dB (qAb dNS (qAb dB (qAb dS dNil))))))))
def zDGC3:=(qAb dZ (qAb dB (qAb (dO 2) (qAb dB (qAb dS dNil)))))
def zao_d3:=(dQS (qAb (dSO 0 dS) (qAb (dSO 2 (dH 0 0)) (qAb (dSO 4 (dH 1 0)) (qAb (dSO 7 dS) (qAb (dSO 9 dZ) (qAb (dSO 10 dZ) dNil)))))) (qAb zDGC1 (qAb (dCells 123 (qAb dB (qAb dNS zDGC3))) (qAb (dRow .i64 3) dNil))))
def zao_l3:SubQ:=mkL zao_d3 (λx=>zao_p3 x.1.1 x.1.2.2.2.2.1 x.1.2.2.2.2.2.1 x.2.2.2.1) λx r R kn kx kr=>kx 0 ⟨[sL 0 (.vS x.1.1),sL 2 (.hd 0 0),sL 4 (.hd 1 0),sL 7 (.vS x.1.2.2.2.1),sL 9 (.vI x.1.2.2.2.2.1)],[],[.cells 123 [.vB x.2.1.1,.val (.slice none 0 0),.vI x.2.1.2.2.1,.vB x.2.1.2.2.2.1,.val (.slice none 0 0),.vB x.2.1.2.2.2.2.2.1,.vS x.2.1.2.2.2.2.2.2.1],.cells 123 [.vB x.2.2.1.1,.val (.slice none 0 0),.vI x.2.2.1.2.2.1,.vB x.2.2.1.2.2.2.1,.own 2,.vB x.2.2.1.2.2.2.2.2.1,.vS x.2.2.1.2.2.2.2.2.2.1],.row .i64 3 r]⟩
def zDGC2:=(qAb (dSO 0 dS) (qAb (dSO 2 (dH 0 0)) (qAb (dSO 4 (dH 1 0)) (qAb (dSO 5 dZ) (qAb (dSO 7 dS) dNil)))))
def zDGC5:=(qAb zDGC1 (qAb zDGC1 dNil))
def zao_d2:=(dQS zDGC2 zDGC5)
def zao_l2:SubQ:=mkL zao_d2 (λx=>zao_p2 x.1.1 x.1.2.2.2.1) λx r R kn kx kr=>(Sum.elim (λ(r_0:Bool × (List Int) × (List Int))=>kr ⟨[sL 2 (.hd 0 0),sL 3 (.vB r_0.1)],[],[.cells 123 [.vB x.2.2.1.1,.own 1,.vI x.2.2.1.2.2.1,.vB x.2.2.1.2.2.2.1,.own 2,.vB x.2.2.1.2.2.2.2.2.1,.vS x.2.2.1.2.2.2.2.2.2.1],.row .i64 3 r_0.2.1,.row .i64 3 r_0.2.2]⟩) (λ(r_1:Int × (List Int))=>kn ⟨[sL 0 (.vS x.1.1),sL 2 (.hd 0 0),sL 4 (.hd 1 0),sL 5 (.vI r_1.1),sL 7 (.vS x.1.2.2.2.2.1)],[],[.cells 123 [.vB x.2.1.1,.val (.slice none 0 0),.vI x.2.1.2.2.1,.vB x.2.1.2.2.2.1,.val (.slice none 0 0),.vB x.2.1.2.2.2.2.2.1,.vS x.2.1.2.2.2.2.2.2.1],.cells 123 [.vB x.2.2.1.1,.val (.slice none 0 0),.vI x.2.2.1.2.2.1,.vB x.2.2.1.2.2.2.1,.own 2,.vB x.2.2.1.2.2.2.2.2.1,.vS x.2.2.1.2.2.2.2.2.2.1],.row .i64 3 r_1.2]⟩)) r
def zDGC4:=(qAb (dRow .i64 3) (qAb (dRow .i64 3) dNil))
def zao_d5:=(dQS (qAb (dSO 2 (dH 0 0)) (qAb (dSO 4 (dH 1 0)) (qAb (dSO 7 dS) (qAb (dSO 11 dZ) dNil)))) (qAb zDGC1 (qAb (dCells 123 (qAb dB (qAb (dO 2) (qAb dZ (qAb dB (qAb (dO 3) (qAb dB (qAb dS dNil)))))))) zDGC4)))
def zao_l5:SubQ:=mkL zao_d5 (λx=>zao_p5 x.1.2.2.1 x.1.2.2.2.1 x.2.2.1.2.2.1 x.2.2.2.1) λx r R kn kx kr=>kx 2 ⟨[sL 2 (.hd 0 0),sL 4 (.hd 1 0)],[],[.cells 123 [.vB x.2.1.1,.val (.slice none 0 0),.vI x.2.1.2.2.1,.vB x.2.1.2.2.2.1,.val (.slice none 0 0),.vB x.2.1.2.2.2.2.2.1,.vS x.2.1.2.2.2.2.2.2.1],.cells 123 [.vB x.2.2.1.1,.own 2,.vI r.1,.vB x.2.2.1.2.2.2.1,.own 3,.vB x.2.2.1.2.2.2.2.2.1,.vS x.2.2.1.2.2.2.2.2.2.1],.row .i64 3 r.2,.row .i64 3 x.2.2.2.2.1]⟩
def zao_d6:=(dQS (qAb (dSO 2 (dH 0 0)) (qAb (dSO 4 (dH 1 0)) dNil)) (qAb zDGC1 (qAb (dCells 123 (qAb dB (qAb (dO 2) (qAb dZ (qAb dB (qAb (dO 3) (qAb dB (qAb dS dNil)))))))) zDGC4)))
def zao_l6:SubQ:=mkL zao_d6 (λx=>zao_p6 x.2.2.2.1) λx r R kn kx kr=>kx 4 ⟨[sL 2 (.hd 0 0),sL 4 (.hd 1 0)],[],[.cells 123 [.vB x.2.1.1,.val (.slice none 0 0),.vI x.2.1.2.2.1,.vB x.2.1.2.2.2.1,.val (.slice none 0 0),.vB x.2.1.2.2.2.2.2.1,.vS x.2.1.2.2.2.2.2.2.1],.cells 123 [.vB x.2.2.1.1,.own 2,.vI x.2.2.1.2.2.1,.vB x.2.2.1.2.2.2.1,.own 3,.vB x.2.2.1.2.2.2.2.2.1,.vS x.2.2.1.2.2.2.2.2.2.1],.row .i64 3 r,.row .i64 3 x.2.2.2.2.1]⟩
def zao_d4:=(dQS zDGC2 (qAb zDGC1 (qAb (dCells 123 (qAb dB (qAb dNS zDGC3))) (qAb (dRow .i64 3) dNil))))
def zao_l4:SubQ:=mkL zao_d4 (λx=>zao_p4 x.1.1 x.1.2.2.2.1 x.1.2.2.2.2.1 x.2.2.1.2.2.1) λx r R kn kx kr=>kr ⟨[sL 2 (.hd 0 0),sL 3 (.vB r.1)],[],[.cells 123 [.vB x.2.2.1.1,.own 1,.vI r.2.1,.vB x.2.2.1.2.2.2.1,.own 2,.vB x.2.2.1.2.2.2.2.2.1,.vS x.2.2.1.2.2.2.2.2.2.1],.row .i64 3 r.2.2,.row .i64 3 x.2.2.2.1]⟩
def zao_d1:=(dQS zDGC2 zDGC5)
def zao_l1:SubQ:=mkL zao_d1 (λx=>zao_p1 x.1.1 x.1.2.2.2.1 x.1.2.2.2.2.1 x.2.2.1.2.2.1 x.2.2.1.2.2.2.1 x.2.2.1.2.2.2.2.2.1) λx r R kn kx kr=>kr ⟨[sL 2 (.hd 0 0),sL 3 (.vB r.1)],[],[.cells 123 [.vB x.2.2.1.1,.own 1,.vI r.2.1,.vB r.2.2.1,.own 2,.vB r.2.2.2.1,.vS x.2.2.1.2.2.2.2.2.2.1],.row .i64 3 r.2.2.2.2.1,.row .i64 3 r.2.2.2.2.2]⟩
def zao_d0:=(dQS (qAb (dSO 0 dS) (qAb (dSO 2 (dH 0 0)) (qAb (dSO 4 (dH 1 0)) (qAb (dSO 5 dZ) dNil)))) zDGC5)
def zao_l0:SubQ:=mkL zao_d0 (λx=>zao_p0 x.1.1 x.1.2.2.2.1 x.2.2.1.2.2.1 x.2.2.1.2.2.2.1 x.2.2.1.2.2.2.2.2.1 x.2.2.1.2.2.2.2.2.2.1) λx r R kn kx kr=>kr ⟨[sL 2 (.hd 0 0),sL 3 (.vB r.1)],[],[.cells 123 [.vB x.2.2.1.1,.own 1,.vI r.2.1,.vB r.2.2.1,.own 2,.vB r.2.2.2.1,.vS r.2.2.2.2.1],.row .i64 3 r.2.2.2.2.2.1,.row .i64 3 r.2.2.2.2.2.2]⟩
def zao_L:Nat->SubQ:=tblL [(3,zao_l3),(2,zao_l2),(5,zao_l5),(6,zao_l6),(4,zao_l4),(1,zao_l1),(0,zao_l0)]
theorem zao_sub3:qBr zao_L zao_G 0 13 222 3 zao_b3:=qAu (show zao_L 3=zao_l3 from by kernel_rfl) λx R kn kx kr=>qAk (step:=λy=>zao_p3_step x.1.1 x.1.2.2.2.2.1 y.1 y.2) (enc:=λ(y:Int × (List Int))=>zao_d3.e ((x.1.1,x.1.2.1,x.1.2.2.1,x.1.2.2.2.1,x.1.2.2.2.2.1,y.1,x.1.2.2.2.2.2.2),(x.2.1,x.2.2.1,y.2,x.2.2.2.2))) (λy=>by kernel_rfl) (λy ki=>by simp only[zao_p3_step,-eq_self,sZ];kernel_rfl) (x.1.2.2.2.2.2.1,x.2.2.2.1)
theorem zao_sub2:qBr zao_L zao_G 0 13 222 2 zao_b2:=qAu (show zao_L 2=zao_l2 from by kernel_rfl) λx R kn kx kr=>by
 simp only[zao_p2,-eq_self,sZ];kernel_rfl
theorem zao_sub5:qBr zao_L zao_G 0 13 222 5 zao_b5:=qAu (show zao_L 5=zao_l5 from by kernel_rfl) λx R kn kx kr=>qAk (step:=λy=>zao_p5_step x.1.2.2.1 y.1 y.2.1 y.2.2) (enc:=λ(y:Int × Int × (List Int))=>zao_d5.e ((x.1.1,x.1.2.1,x.1.2.2.1,y.1,x.1.2.2.2.2),(x.2.1,(x.2.2.1.1,x.2.2.1.2.1,y.2.1,x.2.2.1.2.2.2),y.2.2,x.2.2.2.2))) (λy=>by kernel_rfl) (λy ki=>by simp only[zao_p5_step,-eq_self,sZ];kernel_rfl) (x.1.2.2.2.1,x.2.2.1.2.2.1,x.2.2.2.1)
theorem zao_sub6:qBr zao_L zao_G 0 13 222 6 zao_b6:=qAu (show zao_L 6=zao_l6 from by kernel_rfl) λx R kn kx kr=>qAk (step:=λy=>zao_p6_step y) (enc:=λ(y:(List Int))=>zao_d6.e (x.1,(x.2.1,x.2.2.1,y,x.2.2.2.2))) (λy=>by kernel_rfl) (λy ki=>by simp only[zao_p6_step,-eq_self,sZ];kernel_rfl) x.2.2.2.1
theorem zao_sub4:qBr zao_L zao_G 0 13 222 4 zao_b4:=qAu (show zao_L 4=zao_l4 from by kernel_rfl) λx R kn kx kr=>by
 simp only[zao_p4,-eq_self,sZ];kernel_rfl
theorem zao_sub1:qBr zao_L zao_G 0 13 222 1 zao_b1:=qAu (show zao_L 1=zao_l1 from by kernel_rfl) λx R kn kx kr=>by
 simp only[zao_p1,-eq_self,sZ];kernel_rfl
theorem zao_sub0:qBr zao_L zao_G 0 13 222 0 zao_b0:=qAu (show zao_L 0=zao_l0 from by kernel_rfl) λx R kn kx kr=>by
 simp only[zao_p0,-eq_self,sZ];kernel_rfl
def zao_c:CS:=mkC (qAb (dVC (dCO dS)) dNil) dNil (λx y=>zao_s x.1) (λx y r=>.tup [.agg [.vB r.1.minus,.own 0,.vI r.1.off,.vB r.1.down,.own 1,.vB r.1.plain,.vS r.1.text],.o (.vB r.2)]) λx y r=>[.row .i64 3 r.1.digits,.row .i64 3 r.1.exp_]
theorem zao_val:qAj Tryd.prog 78 zao_c:=vl1 zao_q [.cell 2 (some 7),.tmp 3] 222 13 0 (show qA6 zao_L zao_G 0 13 222 [(0,zao_b0),(1,zao_b1),(2,zao_b2),(3,zao_b3),(4,zao_b4),(5,zao_b5),(6,zao_b6)] from⟨zao_sub0,zao_sub1,zao_sub2,zao_sub3,zao_sub4,zao_sub5,zao_sub6,tV⟩) (qA1 ⟨zas_ok,tV⟩) λx y=>by
 simp only[zao_s,-eq_self,sZ];kernel_rfl
def zao_w:CQ:=liftQ [] zao_c
theorem zao_ok:qAg Tryd.prog 78 zao_w:=liftQ_valid zao_val
def zap_q:IQ:=(.seq (rg 2 [oP 2 (.mv vF)]) (.seq (rg 4 [oM 6 t0,oP 7 (.call 78 [t6]),oM 5 t7,oP 8 (.extract t5 0),oP 9 (.extract t5 1),oP 3 (.alloc 123 [.bool false,.slice none 0 0,.int .i64 0,.bool false,.slice none 0 0,.bool false,.string ⟨#[]⟩]),oN (.store 7 t3 t8),oM 4 t9]) (.seq (rg 2 [oM 10 t4,oM 2 t10]) (.cn [2] .ret))))
def zap_s(text:BA):Option Bool :=
 (zao_s text).bind λr1 =>some r1.2
def zap_c:CS:=mkC (qAb (dVC (dCO dS)) dNil) dNil (λx y=>zap_s x.1) (λx y r=>.c (.o (.vB r))) λx y r=>[]
theorem zap_val:qAj Tryd.prog 61 zap_c:=vl0 zap_q [.tmp 2] 11 5 0 [(78,zao_w)] ⟨zao_ok,tV⟩ λx y=>by
 simp only[zap_s,-eq_self,sZ];kernel_rfl
def zap_w:CQ:=qCm [] zap_c
theorem zap_ok:qAg Tryd.prog 61 zap_w:=qA5 zap_val
def zaq_b0:IQ:=(.loop [4,6,7] (.seq (.seq (rg 25 [oM 21 t7,oP 22 (.faddr 6 t4),oP 23 (.load none t22),oP 24 (.lenS t23),oP 25 (.bi .lss t21 t24)]) (.cond t25 .skip (.cn [4,6] (.exit 0)))) (.seq (.block 1 (.seq (rg 8 [oP 28 (.faddr 6 t4),oP 29 (.load none t28),oM 30 t7,oP 31 (.index t29 t30),oP 32 (.bi .sub t31 (vC 48)),oP 33 (.conv false .i64 t32),oM 8 t33]) (.seq (.seq (rg 38 [oM 34 t6,oM 35 t8,oP 36 (.bi .add (.v (.int .i64 (-9223372036854775808))) t35),oP 37 (.bin true .quo t36 (vI 10)),oP 38 (.bi .lss t34 t37)]) (.cond t38 (.seq (rg 3 [oP 2 (.mv (vI 0)),oP 3 (.mv vF)]) (.cn [2,3] .ret)) .skip)) (rg 6 [oM 39 t6,oP 40 (.bi .mul (vI 10) t39),oM 41 t8,oP 42 (.bi .sub t40 t41),oM 6 t42])))) (rg 7 [oM 26 t7,oP 27 (.bi .add t26 (vI 1)),oM 7 t27]))))
def zaq_q:IQ:=(.seq (rg 3 [oP 2 (.mv (vI 0)),oP 3 (.mv vF)]) (.seq (rg 5 [oM 10 t0,oP 11 (.call 78 [t10]),oM 9 t11,oP 12 (.extract t9 0),oP 13 (.extract t9 1),oP 4 (.alloc 123 [.bool false,.slice none 0 0,.int .i64 0,.bool false,.slice none 0 0,.bool false,.string ⟨#[]⟩]),oN (.store 7 t4 t12),oM 5 t13]) (.seq (.seq (rg 20 [oM 14 t5,oP 15 (.un .not t14),oM 16 t15,oE 17 (.faddr 5 t4) 16,oE 18 (.load none t17) 16,oE 19 (.un .not t18) 16,oP 20 (.pick t16 vT t19)]) (.cond t20 (.seq (rg 3 [oP 2 (.mv (vI 0)),oP 3 (.mv vF)]) (.cn [2,3] .ret)) .skip)) (.seq (rg 6 [oP 6 (.mv (vI 0))]) (.seq (.seq (rg 7 [oP 7 (.mv (vI 0))]) (.block 0 (.cn [4,6,7] (.sub 0 zaq_b0)))) (.seq (.seq (rg 44 [oP 43 (.faddr 0 t4),oP 44 (.load none t43)]) (.cond t44 (.seq (rg 3 [oM 45 t6,oM 2 t45,oP 3 (.mv vT)]) (.cn [2,3] .ret)) .skip)) (.seq (.seq (rg 47 [oM 46 t6,oP 47 (.bi .eql t46 (.v (.int .i64 (-9223372036854775808))))]) (.cond t47 (.seq (rg 3 [oP 2 (.mv (vI 0)),oP 3 (.mv vF)]) (.cn [2,3] .ret)) .skip)) (.seq (rg 3 [oM 48 t6,oP 49 (.un .neg t48),oM 2 t49,oP 3 (.mv vT)]) (.cn [2,3] .ret)))))))))
def qC7(v i:Int)(qFd:BA):Option ((Int × Int) ⊕ ((Int × Bool) ⊕ Int)) :=
 bif decide (i<(qFd.size:Int)) then(gd (0<=i/\i<qFd.size)<|gd (qAd (((bAt qFd i) - (48:Int)) % 256))<|gd (qAd ((-9223372036854775808:Int)+(((bAt qFd i) - (48:Int)) % 256)))<|gd ((10:Int)≠0/\qAd (Int.tdiv ((-9223372036854775808:Int)+(((bAt qFd i) - (48:Int)) % 256)) (10:Int)))<|bif decide (v<(Int.tdiv ((-9223372036854775808:Int)+(((bAt qFd i) - (48:Int)) % 256)) (10:Int))) then(some (.inr (.inl ((0:Int),false)))) else(gd (qAd ((10:Int)*v))<|gd (qAd (((10:Int)*v) - (((bAt qFd i) - (48:Int)) % 256)))<|gd (qAd (i+(1:Int)))<|some (.inl ((((10:Int)*v) - (((bAt qFd i) - (48:Int)) % 256)),(i+(1:Int)))))) else(some (.inr (.inr v)))
def zaq_p0(v i:Int)(qFd:BA):Option ((Int × Bool) ⊕ Int) :=
 qBa (λx:(Int × Int)=>qC7 x.1 x.2 qFd) (v,i)
def zaq_s(text:BA):Option (Int × Bool) :=
 (zao_s text).bind λr3 =>bif((!r3.2) || (!r3.1.plain)) then(some ((0:Int),false)) else((zaq_p0 (0:Int) (0:Int) r3.1.text).bind λo4=>(Sum.elim (λ(o4_0:Int × Bool) =>some (o4_0.1,o4_0.2)) (λ(o4_1:Int) =>bif r3.1.minus then(some (o4_1,true)) else(bif decide (o4_1=(-9223372036854775808:Int)) then(some ((0:Int),false)) else(gd (qAd (0 - o4_1))<|some ((0 - o4_1),true))))) o4)
def zaq_G:Nat->Option CQ:=tblQ [(78,zao_w)]
def zaq_d0:=(dQS (qAb (dSO 4 (dH 0 0)) (qAb (dSO 6 dZ) (qAb (dSO 7 dZ) dNil))) (qAb (dCells 123 (qAb dB (qAb (dO 1) zDGC3))) zDGC4))
def zaq_l0:SubQ:=mkL zaq_d0 (λx=>zaq_p0 x.1.2.1 x.1.2.2.1 x.2.1.2.2.2.2.2.2.1) λx r R kn kx kr=>(Sum.elim (λ(r_0:Int × Bool)=>kr ⟨[sL 2 (.vI r_0.1),sL 3 (.vB r_0.2)],[],[]⟩) (λ(r_1:Int)=>kx 0 ⟨[sL 4 (.hd 0 0),sL 6 (.vI r_1)],[],[.cells 123 [.vB x.2.1.1,.own 1,.vI x.2.1.2.2.1,.vB x.2.1.2.2.2.1,.own 2,.vB x.2.1.2.2.2.2.2.1,.vS x.2.1.2.2.2.2.2.2.1],.row .i64 3 x.2.2.1,.row .i64 3 x.2.2.2.1]⟩)) r
def zaq_L:Nat->SubQ:=tblL [(0,zaq_l0)]
theorem zaq_sub0:qBr zaq_L zaq_G 0 9 50 0 zaq_b0:=qAu (show zaq_L 0=zaq_l0 from by kernel_rfl) λx R kn kx kr=>qAk (step:=λy=>qC7 y.1 y.2 x.2.1.2.2.2.2.2.2.1) (enc:=λ(y:Int × Int)=>zaq_d0.e ((x.1.1,y.1,y.2,x.1.2.2.2),x.2)) (λy=>by kernel_rfl) (λy ki=>by simp only[qC7,-eq_self,sZ];kernel_rfl) (x.1.2.1,x.1.2.2.1)
def zaq_c:CS:=mkC (qAb (dVC (dCO dS)) dNil) dNil (λx y=>zaq_s x.1) (λx y r=>.tup [.o (.vI r.1),.o (.vB r.2)]) λx y r=>[]
theorem zaq_val:qAj Tryd.prog 66 zaq_c:=vl1 zaq_q [.tmp 2,.tmp 3] 50 9 0 (raws:=[37]) (show qA6 zaq_L zaq_G 0 9 50 [(0,zaq_b0)] from⟨zaq_sub0,tV⟩) (qA1 ⟨zao_ok,tV⟩) λx y=>by
 simp only[zaq_s,-eq_self,sZ];kernel_rfl
def zaq_w:CQ:=qCm [] zaq_c
theorem zaq_ok:qAg Tryd.prog 66 zaq_w:=qA5 zaq_val
end
theorem dV_range(s:BA)(i:Nat):0<=dV s i/\dV s i<256:=by unfold dV;omega
structure DKey where
 ds:List Int
 pow:Int
def Dig(l:List Int):Prop:=∀d∈l,0<=d/\d<=9
def LastNZ:List Int->Prop
 | []=>True
 | [d]=>d≠0
 | _::l=>LastNZ l
structure Norm (a:DKey):Prop where
 dig:Dig a.ds
 last:LastNZ a.ds
 first:∀d,a.ds.head?=some d->d≠0
def chr(d:Int):UInt8:=UInt8.ofNat ((48+d) % 256).toNat
def byteD(l:List Int):List UInt8:=l.map chr
def dotF(F:List Int):List UInt8:=if F=[] then [] else 46::byteD F
structure NumTxt (t:BA) (W F:List Int):Prop where
 txt:t.data.toList=byteD W++dotF F
 dw:Dig W
 df:Dig F
 ne:W≠[]
 head:W.head?≠some 0\/W.length=1
section
variable {t:BA} {W F:List Int} (h:NumTxt t W F)
include h
end
theorem p_digit(s:BA)(k:Nat):zar_s s k=some (digS s k):=by
 unfold zar_s;refine(qAa (λh=>by have:=of_decide_eq_true h;omega) _).trans ?_;refine(qAa (λh=>by have:=of_decide_eq_true (Bool.and_eq_true _ _ ▸ h).1;omega) _).trans ?_;congr 1
 unfold digS;by_cases hlt:(k:Int)<s.size
 ·simp[hlt]
 ·have:=bAt_out hlt;simp[hlt,this]
theorem p_many(s:BA)(hsz:s.size<4000000000000000000)(k:Nat)(hk:k<=s.size):zas_s s k=some (qEs s k:Int):=by
 unfold zas_s zas_p0;rw[whileO_rule (λx:Int=>∃j:Nat,x=j/\j<=s.size/\qEs s j=qEs s k) (λx=>s.size - x.toNat) (λ_=>(qEs s k:Int)) ?_ (x:=(k:Int)) ⟨k,rfl,hk,rfl⟩]
 ·rfl
 rintro _ ⟨j,rfl,hj,hm⟩
 unfold zas_p0_step;rw[p_digit,obS];cases hd:digS s j with
 | true =>
  left;have hlt:=digS_lt hd;refine⟨((j+1:Nat):Int),?_,⟨j+1,rfl,by omega,by rw[<-hm,manyS_yes hd]⟩,by omega,rfl⟩;refine(qAa (by unfold qAd;omega) _).trans ?_;rfl
 | false =>
  right;show some (Sum.inr (j:Int))=_;rw[<-hm,manyS_no hd]
theorem dV_ne(s:BA)(i:Nat)(h:i<s.size):((!decide (bAt s i=48)):Bool)=decide (dV s i≠0):=by
 have h1:=bAt_range s i;have h2:=bAt_nn (s:=s) (i:=i) (by omega) (by omega);rw[<-decide_not,decide_eq_decide];unfold dV;omega
theorem bias_or(a:Prop)[Decidable a](n:Nat):(decide a || decide ((0:Int)<(n:Int)))=decide (a\/0<n):=by
 rw[Bool.eq_iff_iff];simp
section
variable (s:BA) (hsz:s.size<1000000000)
include hsz
theorem p_ref3(a k:Nat)(hak:a<=k)(hk:k<=s.size):zao_p3 s k a []=some (lead (qBe s a (k - a))):=by
 unfold zao_p3;rw[whileO_rule (λx:Int × List Int=>∃j:Nat,x=(((a+j:Nat):Int),lead (qBe s a j))/\a+j<=k) (λx=>k - x.1.toNat) (λ_=>lead (qBe s a (k - a))) ?_ (x:=((a:Int),[])) ⟨0,rfl,by omega⟩];rintro _ ⟨j,rfl,hj⟩
 unfold zao_p3_step;have hl:=lead_le (qBe s a j);rw[dsFrom_length] at hl;by_cases hlt:a+j<k
 ·left;have hs:=lead_snoc (qBe s a j) (dV s (a+j));rw[<-dsFrom_succ] at hs;have hr:=dV_range s (a+j);refine⟨(((a+(j+1):Nat):Int),lead (qBe s a (j+1))),?_,⟨j+1,rfl,by omega⟩,by simp only;omega,rfl⟩;simp only;rw[deT (by omega),cnT];refine(qAa (by omega) _).trans ?_;rw[dV_ne s (a+j) (by omega),bias_or,hs];by_cases hc:dV s (a+j)≠0\/0<(lead (qBe s a j)).length
  ·rw[deT hc,cnT,if_pos hc];refine(qAa (by omega) _).trans ?_;refine(qAa (by unfold qAd;have:=hr;unfold dV at this;omega) _).trans ?_;refine(qAa (by simp only[List.length_singleton];omega) _).trans ?_;refine(qAa (by unfold qAd;omega) _).trans ?_;rfl
  ·rw[deF hc,cnF,if_neg hc];refine(qAa (by unfold qAd;omega) _).trans ?_;have:lead (qBe s a j)=[]:=by
    apply List.eq_nil_of_length_eq_zero;omega
   rw[this];rfl
 ·right;simp only;rw[deF (by omega),cnF,show k - a=j by omega]
theorem p_ref2(a:Nat)(ha:a<=s.size):zao_p2 s a=some (if decide (qEs s a=a)=true then .inl (false,[],[]) else .inr ((qEs s a:Int),lead (qBe s a (qEs s a - a)))):=by
 unfold zao_p2;rw[p_many s (by omega) a ha,obS];have:decide ((qEs s a:Int)=(a:Int))=decide (qEs s a=a):=by rw[decide_eq_decide];omega
 rw[this];cases hd:decide (qEs s a=a) with
 | true=>rfl
 | false =>
  simp only[cnF];rw[p_ref3 s hsz a (qEs s a) (manyS_ge s a) (manyS_le s a ha)];rfl
end
theorem p_ref5(t:BA)(ht:t.size<4000000000)(o:Int)(ho : -4000000000<=o/\o<=4000000000):zao_p5 t 0 o []=some (o - ((t.size:Int) - (lead (qBe t 0 t.size)).length),lead (qBe t 0 t.size)):=by
 unfold zao_p5;rw[whileO_rule (λx:Int × Int × List Int=>∃j:Nat,x=((j:Int),o - ((j:Int) - (lead (qBe t 0 j)).length),lead (qBe t 0 j))/\j<=t.size) (λx=>t.size - x.1.toNat) (λ_=>(o - ((t.size:Int) - (lead (qBe t 0 t.size)).length),lead (qBe t 0 t.size))) ?_ (x:=((0:Int),o,[])) ⟨0,by simp[qBe,lead],by omega⟩];rintro _ ⟨j,rfl,hj⟩
 unfold zao_p5_step;have hl:=lead_le (qBe t 0 j);rw[dsFrom_length] at hl;by_cases hlt:j<t.size
 ·left;have hs:=lead_snoc (qBe t 0 j) (dV t (0+j));rw[<-dsFrom_succ] at hs;rw[Nat.zero_add] at hs;have hr:=dV_range t j;refine⟨(((j+1:Nat):Int),o - (((j+1:Nat):Int) - (lead (qBe t 0 (j+1))).length),lead (qBe t 0 (j+1))),?_,⟨j+1,rfl,by omega⟩,by simp only;omega,rfl⟩;simp only;rw[deT (by omega),cnT];refine(qAa (by omega) _).trans ?_;refine(qAa (by unfold qAd;have:=hr;unfold dV at this;omega) _).trans ?_;have e:(!decide ((bAt t (j:Int) - 48) % 256=0))=decide (dV t j≠0):=by rw[<-decide_not];rfl
  rw[e,bias_or,hs];by_cases hc:dV t j≠0\/0<(lead (qBe t 0 j)).length
  ·rw[deT hc,cnT,if_pos hc];refine(qAa (by simp only[List.length_singleton];omega) _).trans ?_;refine(qAa (by unfold qAd;omega) _).trans ?_;congr 3
   rw[List.length_append,List.length_singleton];congr 1
   omega
  ·rw[deF hc,cnF,if_neg hc];have:lead (qBe t 0 j)=[]:=by
    apply List.eq_nil_of_length_eq_zero;omega
   rw[this];refine(qAa (by unfold qAd;simp only[List.length_nil];omega) _).trans ?_;refine(qAa (by unfold qAd;omega) _).trans ?_;congr 3
   simp only[List.length_nil];congr 1
   omega
 ·right;simp only;rw[deF (by omega),cnF,show t.size=j by omega]
theorem p_ref6(l0:List Int)(hl:l0.length<4000000000):zao_p6 l0=some (trail l0):=by
 unfold zao_p6;rw[whileO_rule (λl:List Int=>l.length<=l0.length/\trail l=trail l0) (λl=>l.length) (λ_=>trail l0) ?_ (x:=l0) ⟨by omega,rfl⟩];rintro l ⟨hle,ht⟩
 unfold zao_p6_step;rcases List.eq_nil_or_concat l with rfl | ⟨m,d,rfl⟩
 ·right;refine(qAa (λh=>by simp at h) _).trans ?_;refine(qAa (λh=>by simp at h) _).trans ?_;refine(qAa (λh=>by simp at h) _).trans ?_;rw[<-ht];rfl
 ·rw[List.concat_eq_append] at hle ht ⊢;have hz:(m++[d]).length=m.length+1:=by simp
  rw[hz] at hle;have hN:Int.toNat (((m++[d]).length:Int) - 1)=m.length:=by rw[hz];omega
  have hg:(m++[d]).getD m.length (ET.dft .i64)=d:=by simp
  rw[hN,hg,hz];rw[deT (show(0:Int)<((m.length+1:Nat):Int) by omega)];by_cases hd:d=0
  ·left;subst hd;refine⟨m,?_,⟨by omega,by rw[<-ht,trail_snoc_zero]⟩,by omega,rfl⟩;refine(qAa (λ_=>by unfold qAd;omega) _).trans ?_;refine(qAa (λ_=>by omega) _).trans ?_;refine(qAa (λ_=>by omega) _).trans ?_;simp only[decide_true,Bool.and_true,cnT];refine(qAa (by unfold qAd;omega) _).trans ?_;refine(qAa (by omega) _).trans ?_;simp
  ·right;refine(qAa (λ_=>by unfold qAd;omega) _).trans ?_;refine(qAa (λ_=>by omega) _).trans ?_;refine(qAa (λ_=>by omega) _).trans ?_;rw[deF hd];simp only[Bool.and_false,cnF];rw[<-ht,trail_snoc m d hd]
def rnum(r:RNum):qFe:=⟨r.minus,r.digits,r.off,r.down,r.exp,r.plain,r.text⟩
section
variable (s:BA) (hsz:s.size<1000000000)
include hsz
theorem allS_size:(allS s).size<=s.size+s.size:=by
 unfold allS;split <;> simp <;> omega
theorem p_ref4(a:Nat)(o:Int)(ho : -4000000000<=o/\o<=4000000000):zao_p4 s a (allS s) o=some (if decide (a=s.size)=true then(true,o - (((allS s).size:Int) - (lead (qBe (allS s) 0 (allS s).size)).length),(readS s).digits) else(false,o,[])):=by
 have hz:=allS_size s hsz;have hl:=lead_le (qBe (allS s) 0 (allS s).size);rw[dsFrom_length] at hl;unfold zao_p4;have:(!decide ((a:Int)=(s.size:Int)))=!decide (a=s.size):=by congr 1;rw[decide_eq_decide];omega
 rw[this];cases hd:decide (a=s.size) with
 | false=>rfl
 | true =>
  simp only[Bool.not_true,cnF,if_true];rw[p_ref5 (allS s) (by omega) o ho,obS];simp only;rw[p_ref6 _ (by omega),obS];rfl
theorem p_ref1(hbd:badA s=false)(hdk:(dotS s && decide (atK s=atB s+1))=false):zao_p1 s (atC s) (allS s) ((atB s:Int) - atA s) false (!dotS s)=some (qD9 s,(qAn s).off,(qAn s).down,(qAn s).plain,(qAn s).digits,(qAn s).exp):=by
 have hC:=atC_le s;have hA:=atA_le s;have hB:=atB_le s;have hAB:=atA_le_atB s;have hro:qD9 s=(!(expS s && decide (atF s=atE s)) && decide (atG s=s.size)):=by
  unfold qD9;rw[hbd,hdk];rfl
 have hexp:(decide ((atC s:Int)<(s.size:Int)) && (decide (bAt s (atC s)=101) || decide (bAt s (atC s)=69)))=expS s:=by
  unfold expS;by_cases h:atC s<s.size
  ·simp[h]
  ·have:bAt s (atC s) = -1:=bAt_out (by omega);simp[this]
 unfold zao_p1;refine(qAa (λh=>by have:=of_decide_eq_true h;omega) _).trans ?_;refine(qAa (λ_ h=>by have:=of_decide_eq_true h;omega) _).trans ?_;rw[hexp];cases he:expS s with
 | false =>
  have hG:atG s=atC s:=by simp[atG,he]
  have h3:(expS s && decide (atF s=atE s))=false:=by simp[he]
  simp only[cnF];rw[p_ref4 s hsz (atC s) _ (by omega),obS,hro,h3,hG];cases hd:decide (atC s=s.size) with
  | false =>
   rw[readAll_4 hbd hdk h3 (by rw[hG];exact hd)];simp[readS,he]
  | true =>
   have:qD9 s=true:=by rw[hro,h3,hG,hd];rfl
   rw[readAll_ok this];simp[readS,he]
 | true =>
  have hCl:=atC_lt he;have hEl:=atE_le he;have hF:=atF_le he;have hsg:(decide ((atC s:Int)+1<(s.size:Int)) && (decide (bAt s ((atC s:Int)+1)=43) || decide (bAt s ((atC s:Int)+1)=45)))=sgnS s:=by
   unfold sgnS;by_cases h:(atC s:Int)+1<s.size
   ·simp[h]
   ·have:bAt s ((atC s:Int)+1) = -1:=bAt_out h;simp[this]
  have hG:atG s=atF s:=by simp[atG,he]
  have common:∀(dn:Bool),dn=decide (bAt s ((atC s:Int)+1)=45)->((zao_p2 s (atE s)).bind λo83=>(Sum.elim (λ(o83_0:Bool × (List Int) × (List Int)) =>
    some (o83_0.1,((atB s:Int) - atA s),dn,false,o83_0.2.1,o83_0.2.2)) (λ(o83_1:Int × (List Int)) =>
    (zao_p4 s o83_1.1 (allS s) ((atB s:Int) - atA s)).bind λo86 =>
    some (o86.1,o86.2.1,dn,false,o86.2.2,o83_1.2))) o83)=some (qD9 s,(qAn s).off,(qAn s).down,(qAn s).plain,(qAn s).digits,(qAn s).exp):=by
   intro dn hdn;subst hdn;rw[p_ref2 s hsz (atE s) hEl,obS];show(Sum.elim _ _ (if decide (atF s=atE s)=true then _ else _))=_;cases hd:decide (atF s=atE s) with
   | true =>
    have h3:(expS s && decide (atF s=atE s))=true:=by rw[he,hd];rfl
    rw[readAll_3 hbd hdk h3,hro,h3];simp[readS,he]
   | false =>
    have h3:(expS s && decide (atF s=atE s))=false:=by rw[he,hd];rfl
    simp only[Bool.false_eq_true,if_false,Sum.elim_inr];show((zao_p4 s (atF s:Int) _ _).bind _)=_;rw[p_ref4 s hsz (atF s) _ (by omega),obS,hro,h3,hG];cases hq:decide (atF s=s.size) with
    | false =>
     rw[readAll_4 hbd hdk h3 (by rw[hG];exact hq)];simp[readS,he,atF]
    | true =>
     have:qD9 s=true:=by rw[hro,h3,hG,hq];rfl
     rw[readAll_ok this];simp[readS,he,atF]
  simp only[cnT];refine(qAa (by unfold qAd;omega) _).trans ?_;refine(qAa (λh=>by have:=of_decide_eq_true h;omega) _).trans ?_;refine(qAa (λ_ h=>by have:=of_decide_eq_true h;omega) _).trans ?_;rw[hsg];cases hs:sgnS s with
  | true =>
   have hsl:=sgn_lt hs;have hE:(atC s:Int)+1+1=(atE s:Int):=by simp[atE,hs];omega
   simp only[cnT];refine(qAa (by omega) _).trans ?_;refine(qAa (by unfold qAd;omega) _).trans ?_;rw[hE];exact common _ rfl
  | false =>
   have hnd:¬bAt s ((atC s:Int)+1)=45:=λe=>by simp[sgnS,e] at hs
   have hE:(atC s:Int)+1=(atE s:Int):=by simp[atE,hs]
   simp only[cnF];have:=common false (by simp[hnd]);rw[<-hE] at this;exact this
theorem p_ref0:zao_p0 s (atA s) 0 false true (⟨#[]⟩:BA)=some (qD9 s,(qAn s).off,(qAn s).down,(qAn s).plain,(qAn s).text,(qAn s).digits,(qAn s).exp):=by
 have hC:=atC_le s;have hA:=atA_le s;have hB:=atB_le s;have hAB:=atA_le_atB s;unfold zao_p0;rw[p_many s (by omega) (atA s) hA,obS];show gd (decide ((atB s:Int)=(atA s:Int))=false->_) _=_;have e1:decide ((atB s:Int)=(atA s:Int))=decide (atB s=atA s):=by rw[decide_eq_decide];omega
 have e2:decide ((atA s:Int)+1<(atB s:Int))=decide (atA s+1<atB s):=by rw[decide_eq_decide];omega
 have hbad:(decide (atB s=atA s) || decide (bAt s (atA s)=48) && decide (atA s+1<atB s))=badA s:=rfl
 refine(qAa (λh=>by have:=of_decide_eq_false h;omega) _).trans ?_;refine(qAa (λ_ _=>by unfold qAd;omega) _).trans ?_;show(bif(decide ((atB s:Int)=(atA s:Int)) || decide (bAt s (atA s)=48) && decide ((atA s:Int)+1<(atB s:Int))) then _ else _)=_
 rw[e1,e2,hbad];cases hbd:badA s with
 | true =>
  have hro:qD9 s=false:=by simp[qD9,hbd]
  rw[readAll_1 hbd,hro];rfl
 | false =>
  simp only[cnF];show gd ((0:Int)<=(atA s:Int)/\(atA s:Int)<=(atB s:Int)/\(atB s:Int)<=(s.size:Int)) _=_;refine(qAa (by omega) _).trans ?_;refine(qAa (by show(0:Int)<=(atA s:Int)/\(atA s:Int)<=(atB s:Int)/\(atB s:Int)<=(s.size:Int);omega) _).trans ?_;refine(qAa (by show qAd ((atB s:Int) - atA s);unfold qAd;omega) _).trans ?_;refine(qAa (λh=>by have:=of_decide_eq_true h;show(0:Int)<=(atB s:Int)/\(atB s:Int)<(s.size:Int);exact⟨by omega,this⟩) _).trans ?_;show(bif decide ((atB s:Int)<(s.size:Int)) && decide (bAt s (atB s)=46) then _ else _)=_;have hdot:(decide ((atB s:Int)<(s.size:Int)) && decide (bAt s (atB s)=46))=dotS s:=by
   unfold dotS;by_cases h:atB s<s.size
   ·simp[h]
   ·have:bAt s (atB s) = -1:=bAt_out (by omega);simp[this]
  rw[hdot];cases hd:dotS s with
  | false =>
   have hc:atC s=atB s:=by simp[atC,hd]
   have ha:allS s=s.extract (atA s) (atB s):=by simp[allS,hd]
   have hdk:(dotS s && decide (atK s=atB s+1))=false:=by rw[hd];rfl
   have h1:=p_ref1 s hsz hbd hdk;rw[hc,ha,hd] at h1;simp only[cnF];show((zao_p1 s (atB s:Int) (s.extract (Int.toNat (atA s:Int)) (Int.toNat (atB s:Int))) ((atB s:Int) - atA s) false true).bind _)=_;rw[Int.toNat_natCast,Int.toNat_natCast];have h1':zao_p1 s (atB s:Int) (s.extract (atA s) (atB s)) ((atB s:Int) - atA s) false true=_:=h1;rw[h1',obS];have ht:(qAn s).text=s.extract (atA s) (atB s):=by
    unfold qAn;rw[hbd,hdk];simp only[Bool.false_eq_true,if_false];split
    ·rfl
    ·split <;> rfl
   rw[ht];rfl
  | true =>
   have hBl:=atB_lt hd;have hKl:=atK_le hd;have hKg:=atK_ge s;have hc:atC s=atK s:=by simp[atC,hd]
   have ha:allS s=s.extract (atA s) (atB s)++s.extract (atB s+1) (atK s):=by simp[allS,hd]
   simp only[cnT];show gd (qAd ((atB s:Int)+1)) _=_;refine(qAa (by unfold qAd;omega) _).trans ?_;show((zas_s s ((atB s+1:Nat):Int)).bind _)=_;rw[p_many s (by omega) (atB s+1) (by omega),obS];refine(qAa (by show qAd ((atB s:Int)+1);unfold qAd;omega) _).trans ?_;show(bif decide ((atK s:Int)=(atB s:Int)+1) then _ else _)=_;have e3:decide ((atK s:Int)=(atB s:Int)+1)=decide (atK s=atB s+1):=by rw[decide_eq_decide];omega
   rw[e3];cases hk:decide (atK s=atB s+1) with
   | true =>
    have hdk:(dotS s && decide (atK s=atB s+1))=true:=by rw[hd,hk];rfl
    have hro:qD9 s=false:=by simp only[qD9,hbd,hdk,Bool.not_true,Bool.not_false,Bool.and_false,Bool.false_and]
    rw[readAll_2 hbd hdk,hro];rfl
   | false =>
    have hdk:(dotS s && decide (atK s=atB s+1))=false:=by rw[hd,hk];rfl
    have h1:=p_ref1 s hsz hbd hdk;rw[hc,ha,hd] at h1;simp only[cnF];refine(qAa (by show qAd ((atB s:Int)+1);unfold qAd;omega) _).trans ?_;refine(qAa (by show(0:Int)<=(atB s:Int)+1/\(atB s:Int)+1<=(atK s:Int)/\(atK s:Int)<=(s.size:Int);omega) _).trans ?_;have hx:(s.extract (atA s) (atB s)).size<=s.size:=by rw[ByteArray.size_extract];omega
    have hy:(s.extract (atB s+1) (atK s)).size<=s.size:=by rw[ByteArray.size_extract];omega
    show gd ((s.extract (Int.toNat (atA s:Int)) (Int.toNat (atB s:Int))).size+(s.extract (Int.toNat ((atB s+1:Nat):Int)) (Int.toNat (atK s:Int))).size<=9223372036854775807) ((zao_p1 s (atK s:Int) (s.extract (Int.toNat (atA s:Int)) (Int.toNat (atB s:Int))++s.extract (Int.toNat ((atB s+1:Nat):Int)) (Int.toNat (atK s:Int))) ((atB s:Int) - atA s) false false).bind _)=_;rw[Int.toNat_natCast,Int.toNat_natCast,Int.toNat_natCast,Int.toNat_natCast];refine(qAa (by omega) _).trans ?_;have h1':zao_p1 s (atK s:Int) (s.extract (atA s) (atB s)++s.extract (atB s+1) (atK s)) ((atB s:Int) - atA s) false false=_:=h1;rw[h1',obS];have ht:(qAn s).text=s.extract (atA s) (atB s):=by
     unfold qAn;rw[hbd,hdk];simp only[Bool.false_eq_true,if_false];split
     ·rfl
     ·split <;> rfl
    rw[ht];rfl
theorem p_Read:zao_s s=some (rnum (qAn s),qD9 s):=by
 have hm:(qAn s).minus=decide (bAt s 0=45):=by
  unfold qAn;split
  ·rfl
  ·split
   ·rfl
   ·split
    ·rfl
    ·split <;> rfl
 have h0:=p_ref0 s hsz;unfold zao_s;refine(qAa (λh=>by have:=of_decide_eq_true h;omega) _).trans ?_;have e:(decide ((0:Int)<(s.size:Int)) && decide (bAt s 0=45))=decide (bAt s 0=45):=by
  by_cases h:0<s.size
  ·simp[h]
  ·have:bAt s 0 = -1:=bAt_out (by omega);simp[this]
 rw[e];by_cases h:bAt s 0=45
 ·have ha:atA s=1:=by simp[atA,h]
  rw[ha] at h0;rw[deT h,cnT];refine(qAa (by unfold qAd;omega) _).trans ?_;have h0':zao_p0 s ((0:Int)+1) 0 false true (⟨#[]⟩:BA)=_:=h0;rw[h0',obS];unfold rnum;rw[hm,deT h]
 ·have ha:atA s=0:=by simp[atA,h]
  rw[ha] at h0;rw[deF h,cnF];have h0':zao_p0 s (0:Int) 0 false true (⟨#[]⟩:BA)=_:=h0;rw[h0',obS];unfold rnum;rw[hm,deF h]
end
end Go.Proofs.YtngikdcgcakaaaaDoor
