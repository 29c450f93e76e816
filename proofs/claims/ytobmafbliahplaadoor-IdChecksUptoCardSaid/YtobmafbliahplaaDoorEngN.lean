/-
  Texts of a claim.
-/
import Derived.Test.YtobmafbliahplaaDoorEngM
namespace Go.Eng
set_option linter.unusedVariables false
set_option linter.unusedSimpArgs false
section
variable {τ ω R:Type}
def runW (step:τ→Option (τ ⊕ ω)):Nat→τ→Option ω
 | 0,_=>none
 | n+1,x=>match step x with
  | none=>none
  | some (.inl y)=>runW step n y
  | some (.inr o)=>some o
noncomputable def qAn (step:τ→Option (τ ⊕ ω)) (x:τ):Option ω:=lfp fun n=>runW step n x
theorem runW_mono {step:τ→Option (τ ⊕ ω)}:∀ {n m:Nat} {x:τ} {o:ω},runW step n x=some o→n≤m→runW step m x=some o
 | 0,_,_,_,h,_=>by cases h
 | n+1,0,_,_,_,hle=>by omega
 | n+1,m+1,x,o,h,hle=>by
  simp only [runW] at h ⊢;split at h
  ·cases h
  ·exact runW_mono h (by omega)
  ·exact h
theorem qGt {step:τ→Option (τ ⊕ ω)} {n:Nat} {x:τ} {o:ω} (h:runW step n x=some o):qAn step x=some o :=
 lfp_eq (fun _ _ _ h hle=>runW_mono h hle) h
theorem whileO_some {step:τ→Option (τ ⊕ ω)} {x:τ} {o:ω} (h:qAn step x=some o):∃n,runW step n x=some o:=lfp_some h
theorem whileO_rule {step:τ→Option (τ ⊕ ω)} (P:τ→Prop) (μ:τ→Nat) (F:τ→ω) (h:∀x,P x→(∃y,step x=some (.inl y)∧P y∧μ y<μ x∧F y=F x)∨step x=some (.inr (F x))) {x:τ} (hx:P x):qAn step x=some (F x):=by
 suffices hg:∀(n:Nat) (x:τ),μ x≤n→P x→∃m,runW step m x=some (F x) by
  obtain ⟨m,hm⟩:=hg (μ x) x (Nat.le_refl _) hx;exact qGt hm
 intro n;induction n with
 | zero =>
  intro x hn hx;rcases h x hx with ⟨y,_,_,hlt,_⟩ | h
  ·omega
  ·exact ⟨1,by simp only [runW,h]⟩
 | succ n ih =>
  intro x hn hx;rcases h x hx with ⟨y,hs,hy,hlt,hF⟩ | h
  ·obtain ⟨m,hm⟩:=ih y (by omega) hy;exact ⟨m+1,by simp only [runW,hs,hm,hF]⟩
  ·exact ⟨1,by simp only [runW,h]⟩
theorem qAh {step:τ→Option (τ ⊕ ω)} {x y:τ} (h:step x=some (.inl y)):qAn step x=qAn step y:=by
 cases hw:qAn step y with
 | some o =>
  obtain ⟨n,hn⟩:=whileO_some hw;exact qGt (n:=n+1) (by simp only [runW,h,hn])
 | none =>
  cases hx:qAn step x with
  | none=>rfl
  | some o =>
   obtain ⟨n,hn⟩:=whileO_some hx;cases n with
   | zero=>cases hn
   | succ n =>
    simp only [runW,h] at hn;rw [qGt hn] at hw;cases hw
theorem qAe {step:τ→Option (τ ⊕ ω)} {x:τ} {o:ω} (h:step x=some (.inr o)):qAn step x=some o:=qGt (n:=1) (by simp only [runW,h])
theorem loop_eq {step:τ→Option (τ ⊕ ω)} {enc:τ→QS} {ko:ω→Option R} {body:QS→(QS→Option R)→Option R} {cn:QS→Option QS}
  (hb:∀(x:τ) (ki:QS→Option R),body (enc x) (fun S'=>(cn S').bind ki)=(step x).bind fun s=>Sum.elim (fun y=>ki (enc y)) ko s) (x:τ):lfp (fun n=>loopN body cn n (enc x))=(qAn step x).bind ko:=by
 have key:∀(n:Nat) (x:τ),loopN body cn n (enc x)=(runW step n x).bind ko:=by
  intro n;induction n with
  | zero=>intro x; rfl
  | succ n ih =>
   intro x;simp only [loopN,runW];rw [hb x (loopN body cn n)];cases step x with
   | none=>rfl
   | some s =>
    cases s with
    | inl y=>exact ih y
    | inr o=>rfl
 have e:(fun n=>loopN body cn n (enc x))=fun n=>(runW step n x).bind ko:=funext fun n=>key n x
 rw [e];cases hw:qAn step x with
 | some o =>
  obtain ⟨n,hn⟩:=whileO_some hw;cases hk:ko o with
  | some r =>
   show _=ko o;rw [hk];refine lfp_eq (f:=fun n=>(runW step n x).bind ko) (n:=n) (fun a b r' h hle=>?_) (by simp only [hn]; exact hk);cases ha:runW step a x with
   | none=>simp [ha] at h
   | some o' =>
    simp only [ha] at h;simp only [runW_mono ha hle];exact h
  | none =>
   show _=ko o;rw [hk];cases hl:lfp (fun n=>(runW step n x).bind ko) with
   | none=>rfl
   | some r =>
    obtain ⟨m,hm⟩:=lfp_some hl;cases ha:runW step m x with
    | none=>rw [ha] at hm; cases hm
    | some o' =>
     have:=qGt ha;rw [hw] at this;cases this;rw [ha] at hm;simp only [obS] at hm;rw [hk] at hm;cases hm
 | none =>
  cases hl:lfp (fun n=>(runW step n x).bind ko) with
  | none=>rfl
  | some r =>
   obtain ⟨m,hm⟩:=lfp_some hl;cases ha:runW step m x with
   | none=>rw [ha] at hm; cases hm
   | some o' =>
    rw [qGt ha] at hw;cases hw
end
theorem qAf {τ ω R:Type} {step:τ→Option (τ ⊕ ω)} {enc:τ→QS} {ko:ω→Option R} {Λ:Nat→SubQ} {Γ:Nat→Option CQ} {n0 nv nt:Nat} {keep:List Nat} {b:IQ} {kn:QS→Option R} {kx:Nat→QS→Option R} {kr:QS→Option R}
  (hc:∀x,canonQ n0 keep (enc x)=some (enc x))
  (hb:∀(x:τ) (ki:QS→Option R),qA7 Λ Γ n0 nv nt b (enc x) (fun S'=>(canonQ n0 keep S').bind ki) kx kr=(step x).bind fun s=>Sum.elim (fun y=>ki (enc y)) ko s) (x:τ) :
  qA7 Λ Γ n0 nv nt (.loop keep b) (enc x) kn kx kr=(qAn step x).bind ko:=by
 simp only [qA7,hc];exact loop_eq (body:=fun S kk=>qA7 Λ Γ n0 nv nt b S kk kx kr) (cn:=canonQ n0 keep) hb x
def qDj (m:Bool) (sb:SB):Option SB :=
 match m,sb with
 | true,.cells e l=>some (.cells e l)
 | true,.row t e l=>some (.row t e l)
 | true,.map m=>some (.map m)
 | true,.bag ks e l=>some (.bag ks e l)
 | false,.row t _ l=>some (.view t l)
 | false,.view t l=>some (.view t l)
 | false,.vrow t l=>some (.view t l)
 | false,.part h lo n sz=>some (.part h lo n sz)
 | false,.clo f k l=>some (.clo f k l)
 | false,.dead=>some .dead
 | _,_=>none
def lendL:List Bool→List SB→Option (List SB)
 | [],[]=>some []
 | m::ms,sb::s=>match qDj m sb,lendL ms s with
  | some x,some r=>some (x::r)
  | _,_=>none
 | _,_=>none
def mvArgs (θ:List Nat):List SV→Option (List SV)
 | []=>some []
 | v::r=>match mvArgs θ r with
  | some l=>bif v.inB θ then some (v.mv θ::l) else none
  | none=>none
def renL (θ:List Nat):List S0→List S0
 | []=>[]
 | x::r=>x.ren θ::renL θ r
def SC.renQ (θ:List Nat):SC→SC
 | .o x=>.o (x.ren θ)
 | .agg l=>.agg (renL θ l)
def renCs (θ:List Nat):List SC→List SC
 | []=>[]
 | x::r=>x.renQ θ::renCs θ r
def SV.renQ (θ:List Nat):SV→SV
 | .c x=>.c (x.renQ θ)
 | .tup l=>.tup (renCs θ l)
def SB.renQ (θ:List Nat):SB→SB
 | .cells e l=>.cells e (renL θ l)
 | .row t e l=>.row t e l
 | .view _ _=>.dead
 | .part h lo n sz=>.part (θ.getD h 0) lo n sz
 | .map m=>.map m
 | .bag ks e l=>.bag ks e l
 | .slc _ _ _=>.dead
 | .clo _ _ _=>.dead
 | .vrow t l=>.vrow t l
 | .dead=>.dead
def SB.ltB (n:Nat):SB→Bool
 | .cells _ l=>l.all (S0.ltB n)
 | .part h _ _ _=>Nat.blt h n
 | _=>true
def qCw (θ':List Nat):List Bool→List Nat→List SB→List SB→List SB
 | true::ms,h::θ,sb::s,hp=>qCw θ' ms θ s (hp.set h (sb.renQ θ'))
 | false::ms,_::θ,_::s,hp=>qCw θ' ms θ s hp
 | _,_,_,hp=>hp
def newB (θ':List Nat):List SB→List SB
 | []=>[]
 | sb::r=>sb.renQ θ'::newB θ' r
def backQ (modes:List Bool) (θ:List Nat) (hp:List SB) (v:SV) (hpv:List SB):Option (SV × List SB) :=
 let θ':=θ++List.range' hp.length (hpv.length - θ.length)
 bif (bif Nat.ble θ.length hpv.length then (bif v.ltB hpv.length then hpv.all (SB.ltB hpv.length) else false) else false) then
  some (v.renQ θ',qCw θ' modes θ hpv hp++newB θ' (hpv.drop θ.length))
 else none
abbrev CS:=List SV→List SB→(R:Type)→(SV→List SB→Option R)→Option R
def qGm:List SB→List SB
 | []=>[]
 | .part ..::r=>.dead::qGm r
 | sb::r=>sb::qGm r
def lentW (k:Nat):List Bool→List Nat→Bool
 | true::ms,h::θ=>bif Nat.beq h k then true else lentW k ms θ
 | false::ms,_::θ=>lentW k ms θ
 | _,_=>false
def showP (hp:List SB) (k lo n sz:Nat):Option (Prop × SB) :=
 match hp[k]? with
 | some (.row t _ l)=>bif Nat.beq sz t.sz then some (lo+n≤l.length,.view t ((l.drop lo).take n)) else none
 | some (.view t l)=>bif Nat.beq sz t.sz then some (lo+n≤l.length,.view t ((l.drop lo).take n)) else none
 | some (.bag ks _ l)=>bif Nat.beq sz 0 then (match qBz ks (l.getD lo (NT.dft ks)) n with
  | some v=>some (lo<l.length,v)
  | none=>none) else none
 | _=>none
def upP (hp:List SB) (modes:List Bool) (θ0:List Nat):List Nat→List SB→Option (List Prop × List SB)
 | [],[]=>some ([],[])
 | h::θ,sb::s=>match upP hp modes θ0 θ s with
  | some (ps,r)=>match sb with
   | .dead=>match hp[h]? with
    | some (.part k lo n sz)=>bif lentW k modes θ0 then none else (match showP hp k lo n sz with
     | some (p,v)=>some (p::ps,v::r)
     | none=>none)
    | _=>none
   | sb=>some (ps,sb::r)
  | none=>none
 | _,_=>none
def qF9 (deep:Bool) (modes:List Bool) (args:List SV) (hp:List SB):Option (List Nat × List Prop × List SV × List SB) :=
 let hpK:=bif deep then hp else qGm hp
 let θ:=closeH hpK 60 0 (hsVs args [])
 bif qEd θ then
  (match mvArgs θ args,mvHp hpK θ θ with
  | some args',some hp1=>match lendL modes hp1 with
   | some hpv0=>match upP hp modes θ θ hpv0 with
    | some (ps,hpv)=>some (θ,ps,args',hpv)
    | none=>none
   | none=>none
  | _,_=>none)
 else none
noncomputable def liftG (deep:Bool) (modes:List Bool) (C:CS):CQ:=.loud fun args hp R k =>
 match qF9 deep modes args hp with
 | some (θ,ps,args',hpv)=>gds ps (C args' hpv R fun v hpv'=>match backQ modes θ hp v hpv' with
  | some (v',hp')=>k v' hp'
  | none=>none)
 | none=>none
noncomputable def qDb (modes:List Bool) (C:CS):CQ:=liftG false modes C
noncomputable def liftH (deep:Bool) (modes:List Bool) (C:CS):CQ:=.quiet fun args hp R k =>
 bif modes.all (fun b=>bif b then false else true) then
  (match qF9 deep modes args hp with
  | some (θ,ps,args',hpv)=>gds ps (C args' hpv R fun v hpv'=>bif v.shut then k v else none)
  | none=>none)
 else none
noncomputable def qBu (modes:List Bool) (C:CS):CQ:=liftH false modes C
def natS (C:CS):Prop:=∀args hp (R:Type) (k:SV→List SB→Option R),C args hp R k=(C args hp (SV × List SB) (fun v hp'=>some (v,hp'))).bind fun x=>k x.1 x.2
def qAl (P:Program) (f:Nat) (C:CS):Prop:=natS C∧∀(args:List SV) (hp:List SB) (v:SV) (hp':List SB),C args hp (SV × List SB) (fun v hp'=>some (v,hp'))=some (v,hp')→(∀v∈args,v.lt hp.length) →
 ∀(X:Nat→Prop) (w:World) (ρ:Nat→Value),HpSat X w w ρ hp→Calls P f (args.map (SV.den ρ)).toArray w fun e w'=>∃ρ',(∀i<hp.length,ρ' i=ρ i)∧hp.length≤hp'.length∧e=.returned (v.den ρ')∧v.lt hp'.length∧HpSat X w w' ρ' hp'∧Stays X w w'
theorem mvArgs_spec {θ:List Nat} {ρ:Nat→Value}:∀ {args args':List SV},mvArgs θ args=some args'→args'.map (SV.den fun i=>ρ (θ.getD i 0))=args.map (SV.den ρ)∧∀v∈args',v.lt θ.length
 | [],args',h=>by
  simp only [mvArgs,snJ] at h;subst h;exact ⟨rfl,fun v hv=>by simp at hv⟩
 | x::r,args',h=>by
  simp only [mvArgs] at h;split at h
  ·rename_i l hl;cases hx:x.inB θ with
   | false=>rw [hx] at h; simp at h
   | true =>
    rw [hx] at h;simp only [cnT,snJ] at h;subst h;obtain ⟨h1,h2⟩:=mvArgs_spec (ρ:=ρ) hl;refine ⟨by simp only [List.map_cons,SV.mv_den hx,h1],fun v hv=>?_⟩;rcases List.mem_cons.1 hv with rfl | hv
    ·exact SV.mv_lt hx
    ·exact h2 v hv
  ·cases h
theorem lendL_spec:∀ {ms:List Bool} {hp hpv:List SB},lendL ms hp=some hpv→ms.length=hp.length∧hpv.length=hp.length∧∀(i:Nat) (sb':SB),hpv[i]?=some sb'→∃m sb,ms[i]?=some m∧hp[i]?=some sb∧qDj m sb=some sb'
 | [],[],hpv,h=>by
  simp only [lendL,snJ] at h;subst h;exact ⟨rfl,rfl,fun i sb' hi=>by simp at hi⟩
 | m::ms,sb::s,hpv,h=>by
  simp only [lendL] at h;split at h
  ·rename_i x r h1 h2;simp only [snJ] at h;subst h;obtain ⟨l1,l2,l3⟩:=lendL_spec h2;refine ⟨by simp [l1],by simp [l2],fun i sb' hi=>?_⟩;cases i with
   | zero =>
    simp at hi;subst hi;exact ⟨m,sb,rfl,rfl,h1⟩
   | succ i=>simpa using l3 i sb' (by simpa using hi)
  ·cases h
 | [],_::_,_,h=>by simp [lendL] at h
 | _::_,[],_,h=>by simp [lendL] at h
def lentX (ρ:Nat→Value) (hp:List SB) (modes:List Bool) (θ:List Nat) (b:Nat):Prop:=∃(i h:Nat) (sb:SB),modes[i]?=some true∧θ[i]?=some h∧hp[h]?=some sb∧sb.ex=true∧b∈fp (ρ h)
theorem lent_sat {X:Nat→Prop} {w0 w:World} {ρ:Nat→Value} {hp hp1 hpv:List SB} {θ:List Nat} {modes:List Bool} (h:HpSat X w0 w ρ hp) (hf:Stays X w0 w) (hn:qEd θ=true) (hm:mvHp hp θ θ=some hp1) (hl:lendL modes hp1=some hpv) :
  HpSat (lentX ρ hp modes θ) w w (fun i=>ρ (θ.getD i 0)) hpv∧hpv.length=θ.length∧modes.length=θ.length:=by
 obtain ⟨g1,g2⟩:=heap_mv h hn hm;obtain ⟨l1,l2,l3⟩:=lendL_spec hl;obtain ⟨_,hsp⟩:=mvHp_spec hm;have hg:∀(j i:Nat),θ[j]?=some i→θ.getD j 0=i:=fun j i h=>by simp [List.getD,h]
 refine ⟨⟨fun j hj=>g1.ref j (by omega),fun j sb' hj=>?_,fun j sb' hj=>?_,fun i j sb1 sb2 b hij hi hj e1 e2 f1 f2=>?_,tab_stable h.tab hf.block fun k hk ⟨i,hh,sb,_,_,h3,h4,h5⟩=>?_⟩,by omega,by omega⟩
 ·obtain ⟨m,sb,hmj,hsb,hlend⟩:=l3 j sb' hj;obtain ⟨i,sb0,a1,a2,rfl,a4⟩:=hsp j sb hsb;have hs:=g1.sat j _ hsb;show sb'.sat _ w w (fun i=>ρ (θ.getD i 0)) (ρ (θ.getD j 0));have hs0:=h.sat i sb0 a2;cases m with
  | true =>
   cases sb0 with
   | cells e l =>
    simp only [SB.mv,qDj,snJ] at hlend;subst hlend;obtain ⟨b,hv,hb,hx⟩:=hs;refine ⟨b,hv,hb,.inr ⟨j,i,_,hmj,a1,a2,rfl,?_⟩⟩;rw [←hg j i a1,hv]; exact List.mem_singleton.2 rfl
   | row t e l =>
    simp only [SB.mv,qDj,snJ] at hlend;subst hlend;refine ⟨hs.1,fun b hb=>.inr ⟨j,i,_,hmj,a1,a2,rfl,?_⟩⟩;rw [←hg j i a1];exact fp_own hb
   | map m =>
    simp only [SB.mv,qDj,snJ] at hlend;subst hlend;refine qF6.excl hs fun b hb _=>.inr ⟨j,i,_,hmj,a1,a2,rfl,?_⟩
    rw [←hg j i a1];exact fp_of_fp1 hb
   | bag ks e l =>
    simp only [SB.mv,qDj,snJ] at hlend;subst hlend;obtain ⟨u,rs,hv,hb⟩:=hs;refine ⟨u,rs,hv,hb.exclude fun b hb' _=>.inr ⟨j,i,_,hmj,a1,a2,rfl,?_⟩⟩;rw [←hg j i a1,hv];exact hb'
   | view t l=>simp [SB.mv,qDj] at hlend
   | part k lo n sz=>simp [SB.mv,qDj] at hlend
   | slc k n sz=>simp [SB.mv,qDj] at hlend
   | clo f k l=>simp [SB.mv,qDj] at hlend
   | vrow t l=>simp [SB.mv,qDj] at hlend
   | dead=>simp [SB.mv,qDj] at hlend
  | false =>
   have hview:∀(t:ET) (l:List t.T),((∃e,sb0=.row t e l)∨sb0=.view t l∨sb0=.vrow t l)→qB8 (lentX ρ hp modes θ) w w t (ρ i) l:=by
    intro t l hor;have hva:qB8 noX w w t (ρ i) l:=h.viewOf3 hf (by
     rcases hor with ⟨e,rfl⟩ | rfl | rfl
     ·exact .inl ⟨e,a2⟩
     ·exact .inr (.inl a2)
     ·exact .inr (.inr a2))
    obtain ⟨ad,cap,hv,hc,hcell⟩:=hva;refine ⟨ad,cap,hv,hc,fun k u hu=>?_⟩;obtain ⟨ad',had,c1,c2⟩:=hcell k u hu;refine ⟨ad',had,c1,.inl ⟨Fixed.lt c2,?_⟩⟩;rintro ⟨i2,h2,sb2,m1,m2,m3,m4,m5⟩
    rcases hor with ⟨e,rfl⟩ | rfl | rfl
    ·have hne:i≠h2:=by
      rintro rfl
      have:=nodup_spec hn j i2 i a1 m2;subst this;rw [hmj] at m1;cases m1
     refine h.apart i h2 _ sb2 ad'.block hne a2 m3 rfl m4 ?_ m5;rw [hv,had]; exact List.mem_singleton.2 rfl
    rotate_left
    ·have hne:i≠h2:=by
      rintro rfl
      have:=nodup_spec hn j i2 i a1 m2;subst this;rw [hmj] at m1;cases m1
     refine h.apart i h2 _ sb2 ad'.block hne a2 m3 rfl m4 ?_ m5;rw [hv,had]; exact List.mem_singleton.2 rfl
    ·obtain ⟨ad2,cap2,hv2,_,hcell2⟩:=hs0;obtain ⟨ad3,had3,d1,d2⟩:=hcell2 k u hu;rw [hv] at hv2;simp only [Value.slice.injEq] at hv2;rw [←hv2.1,had] at had3;cases had3;exact h.fixed_no d2 m3 m4 m5
   cases sb0 with
   | cells e l=>simp [SB.mv,qDj] at hlend
   | slc k n sz=>simp [SB.mv,qDj] at hlend
   | clo f k l =>
    simp only [SB.mv,qDj,snJ] at hlend;subst hlend;exact hs
   | map m=>simp [SB.mv,qDj] at hlend
   | bag ks e l=>simp [SB.mv,qDj] at hlend
   | row t e l =>
    simp only [SB.mv,qDj,snJ] at hlend;subst hlend;rw [hg j i a1];exact hview t l (.inl ⟨e,rfl⟩)
   | view t l =>
    simp only [SB.mv,qDj,snJ] at hlend;subst hlend;rw [hg j i a1];exact hview t l (.inr (.inl rfl))
   | vrow t l =>
    simp only [SB.mv,qDj,snJ] at hlend;subst hlend;rw [hg j i a1];exact hview t l (.inr (.inr rfl))
   | part k lo n sz =>
    simp only [SB.mv,qDj,snJ] at hlend;subst hlend;exact hs
   | dead =>
    simp only [SB.mv,qDj,snJ] at hlend;subst hlend;trivial
 ·obtain ⟨m,sb,hmj,hsb,hlend⟩:=l3 j sb' hj;have hlt:=g1.lt j sb hsb;cases sb' with
  | cells e l =>
   cases m <;> cases sb <;> simp only [qDj,reduceCtorEq,snJ] at hlend
   cases hlend;rw [l2];exact hlt
  | row t e l=>trivial
  | view t l=>trivial
  | map m=>trivial
  | bag ks e l=>trivial
  | part k lo n sz =>
   cases m <;> cases sb <;> simp only [qDj,reduceCtorEq,snJ] at hlend
   cases hlend;rw [l2];exact hlt
  | slc k n sz=>cases m <;> cases sb <;> simp [qDj] at hlend
  | clo f k l =>
   cases m <;> cases sb <;> simp only [qDj,reduceCtorEq,snJ] at hlend
   cases hlend;rw [l2];exact hlt
  | vrow t l=>trivial
  | dead=>trivial
 ·obtain ⟨m1,s1,_,hs1,hl1⟩:=l3 i sb1 hi;obtain ⟨m2,s2,_,hs2,hl2⟩:=l3 j sb2 hj;have x1:s1.ex=true:=by
   cases m1 <;> cases s1 <;> simp only [qDj,reduceCtorEq,snJ] at hl1 <;> first | rfl | (subst hl1; cases e1)
  have x2:s2.ex=true:=by
   cases m2 <;> cases s2 <;> simp only [qDj,reduceCtorEq,snJ] at hl2 <;> first | rfl | (subst hl2; cases e2)
  exact g1.apart i j s1 s2 b hij hs1 hs2 x1 x2 f1 f2
 ·rcases (h.fp_lt h3 h4 h5).2 with hx | hx
  ·omega
  ·exact hx
theorem renL_eq (θ:List Nat):∀(l:List S0),renL θ l=l.map (S0.ren θ)
 | []=>rfl
 | x::r=>by simp only [renL,List.map_cons,renL_eq θ r]
theorem SC.renQ_eq (θ:List Nat) (x:SC):x.renQ θ=x.ren θ:=by
 cases x with
 | o y=>rfl
 | agg l=>simp only [SC.renQ,SC.ren,renL_eq]
theorem renCs_eq (θ:List Nat):∀(l:List SC),renCs θ l=l.map (SC.ren θ)
 | []=>rfl
 | x::r=>by simp only [renCs,List.map_cons,renCs_eq θ r,SC.renQ_eq]
theorem SV.renQ_eq (θ:List Nat) (x:SV):x.renQ θ=x.ren θ:=by
 cases x with
 | c y=>simp only [SV.renQ,SV.ren,SC.renQ_eq]
 | tup l=>simp only [SV.renQ,SV.ren,renCs_eq]
theorem S0.ren_lt {θ:List Nat} {n m:Nat} {x:S0} (h:x.lt n) (hθ:∀i<n,θ.getD i 0<m):(x.ren θ).lt m:=by
 cases x <;> simp only [S0.ren,S0.lt] at * <;> first | trivial | exact hθ _ h
theorem SC.ren_lt {θ:List Nat} {n m:Nat} {x:SC} (h:x.lt n) (hθ:∀i<n,θ.getD i 0<m):(x.ren θ).lt m:=by
 cases x with
 | o y=>exact S0.ren_lt h hθ
 | agg l =>
  intro y hy;simp only [List.mem_map] at hy;obtain ⟨z,hz,rfl⟩:=hy;exact S0.ren_lt (h z hz) hθ
theorem SV.ren_lt {θ:List Nat} {n m:Nat} {x:SV} (h:x.lt n) (hθ:∀i<n,θ.getD i 0<m):(x.ren θ).lt m:=by
 cases x with
 | c y=>exact SC.ren_lt h hθ
 | tup l =>
  intro y hy;simp only [List.mem_map] at hy;obtain ⟨z,hz,rfl⟩:=hy;exact SC.ren_lt (h z hz) hθ
theorem qF5 (θ':List Nat):∀(ms:List Bool) (θ:List Nat) (s hp:List SB),qEd θ=true→θ.length≤s.length→ms.length=θ.length→(∀(i h:Nat),θ[i]?=some h→h<hp.length) →
  (qCw θ' ms θ s hp).length=hp.length∧(∀(i h:Nat) (sb:SB),ms[i]?=some true→θ[i]?=some h→s[i]?=some sb→(qCw θ' ms θ s hp)[h]?=some (sb.renQ θ')) ∧
  (∀(h:Nat),(∀(i:Nat),ms[i]?=some true→θ[i]?≠some h)→(qCw θ' ms θ s hp)[h]?=hp[h]?)
 | [],[],s,hp,_,_,_,_=>⟨by simp [qCw],fun i h sb hm=>by simp at hm,fun h _=>by simp [qCw]⟩
 | [],_::_,s,hp,_,_,hl,_=>by simp at hl
 | _::_,[],s,hp,_,_,hl,_=>by simp at hl
 | m::ms,h0::θ,[],hp,_,hls,_,_=>by simp at hls
 | false::ms,h0::θ,sb0::s,hp,hn,hls,hl,hlt=>by
  simp only [qEd,Bool.and_eq_true,Bool.not_eq_true'] at hn;obtain ⟨i1,i2,i3⟩:=qF5 θ' ms θ s hp hn.2 (by simpa using hls) (by simpa using hl) (fun i h hi=>hlt (i+1) h (by simpa using hi));refine ⟨i1,fun i h sb hm ht hs=>?_,fun h hh=>?_⟩
  ·cases i with
   | zero=>simp at hm
   | succ i=>exact i2 i h sb (by simpa using hm) (by simpa using ht) (by simpa using hs)
  ·exact i3 h fun i hm=>by simpa using hh (i+1) (by simpa using hm)
 | true::ms,h0::θ,sb0::s,hp,hn,hls,hl,hlt=>by
  simp only [qEd,Bool.and_eq_true,Bool.not_eq_true'] at hn;obtain ⟨i1,i2,i3⟩:=qF5 θ' ms θ s (hp.set h0 (sb0.renQ θ')) hn.2 (by simpa using hls) (by simpa using hl) (fun i h hi=>by rw [List.length_set]; exact hlt (i+1) h (by simpa using hi));have hnot:∀i,θ[i]?≠some h0:=fun i hi=>by
   have:=List.mem_of_getElem? hi;simp_all
  refine ⟨by rw [qCw,i1,List.length_set],fun i h sb hm ht hs=>?_,fun h hh=>?_⟩
  ·cases i with
   | zero =>
    simp at ht hs;subst ht hs;rw [qCw,i3 h0 fun i _=>hnot i,List.getElem?_set_self (hlt 0 h0 rfl)]
   | succ i=>exact i2 i h sb (by simpa using hm) (by simpa using ht) (by simpa using hs)
  ·have hne:h0≠h:=by
    intro e;exact hh 0 rfl (by simp [e])
   rw [qCw,i3 h fun i hm=>by simpa using hh (i+1) (by simpa using hm),List.getElem?_set_ne hne]
theorem newB_spec {θ':List Nat}:∀(s:List SB),(newB θ' s).length=s.length∧∀(i:Nat) (sb':SB),(newB θ' s)[i]?=some sb'→∃sb,s[i]?=some sb∧sb'=sb.renQ θ'
 | []=>⟨rfl,fun i sb' hi=>by simp [newB] at hi⟩
 | sb::r=>by
  obtain ⟨h1,h2⟩:=newB_spec (θ':=θ') r;refine ⟨by simp [newB,h1],fun i sb' hi=>?_⟩;cases i with
  | zero =>
   simp [newB] at hi;exact ⟨sb,rfl,hi.symm⟩
  | succ i=>simpa [newB] using h2 i sb' (by simpa [newB] using hi)
theorem SB.renQ_ex (θ:List Nat) (sb:SB):(sb.renQ θ).ex=true→sb.ex=true:=by cases sb <;> simp [SB.renQ,SB.ex]
theorem SB.sat_back {X X':Nat→Prop} {w0 w w':World} {ρ' ρ'':Nat→Value} {v:Value} {sb:SB} {θ':List Nat} {m:Nat} (h:sb.sat X' w w' ρ' v) (hlt:sb.lt m) (hρ:∀i<m,ρ'' (θ'.getD i 0)=ρ' i) (hx:∀b,Excl X' w b→Excl X w0 b):(sb.renQ θ').sat X w0 w' ρ'' v:=by
 cases sb with
 | cells e l =>
  obtain ⟨b,hv,hb,hxx⟩:=h;refine ⟨b,hv,?_,hx b hxx⟩;rw [hb,renL_eq,List.map_map];congr 3
  refine (List.map_congr_left fun x hx=>?_).symm;simp only [Function.comp,S0.ren_den];exact S0.den_congr hρ (hlt x hx)
 | row t e l=>exact ⟨h.1,fun b hb=>hx b (h.2 b hb)⟩
 | map m=>exact qF6.excl h fun b _ hb=>hx b hb
 | bag ks e l =>
  obtain ⟨u,rs,hv,hb⟩:=h;exact ⟨u,rs,hv,hb.exclude fun b _ hb=>hx b hb⟩
 | view t l=>trivial
 | part k lo n sz =>
  show qCh (ρ'' (θ'.getD k 0)) v lo n sz;rw [hρ k hlt];exact h
 | slc k n sz=>trivial
 | clo f k l=>trivial
 | vrow t l =>
  rcases h with h | ⟨b,cap,hv,hc,h1,h2,h3,h4⟩
  ·exact .inl h
  exact .inr ⟨b,cap,hv,hc,h1,h2,hx b h3,h4⟩
 | dead=>trivial
theorem back_sat {X:Nat→Prop} {w0 w w':World} {ρ ρ':Nat→Value} {hp hpv hpv' hp':List SB} {θ:List Nat} {modes:List Bool} {v v':SV} (h:HpSat X w0 w ρ hp) (hf:Stays X w0 w) (hn:qEd θ=true) (hlt0:∀(i hh:Nat),θ[i]?=some hh→hh<hp.length) (hpvl:hpv.length=θ.length) (hml:modes.length=θ.length)
  (hb:backQ modes θ hp v hpv'=some (v',hp')) (hag:∀i<hpv.length,ρ' i=ρ (θ.getD i 0)) (hvt:v.lt hpv'.length) (hs:HpSat (lentX ρ hp modes θ) w w' ρ' hpv') (hst:Stays (lentX ρ hp modes θ) w w') :
  ∃ρ'',(∀i<hp.length,ρ'' i=ρ i)∧v'.den ρ''=v.den ρ'∧HpSat X w0 w' ρ'' hp'∧Stays X w0 w':=by
 unfold backQ at hb;simp only at hb;generalize hθ':θ++List.range' hp.length (hpv'.length - θ.length)=θ' at hb
 cases hc:(bif Nat.ble θ.length hpv'.length then (bif v.ltB hpv'.length then hpv'.all (SB.ltB hpv'.length) else false) else false) with
 | false=>rw [hc] at hb; simp at hb
 | true =>
  rw [hc] at hb;simp only [cnT] at hb;have hle:θ.length≤hpv'.length:=by
   cases hq:Nat.ble θ.length hpv'.length with
   | false=>rw [hq] at hc; simp at hc
   | true=>exact Nat.le_of_ble_eq_true hq
  ·simp only [snJ,Prod.mk.injEq] at hb;obtain ⟨rfl,rfl⟩:=hb;obtain ⟨s,hnew⟩:∃s,s=newB θ' (hpv'.drop θ.length):=⟨_,rfl⟩;rw [←hnew];obtain ⟨q1,q2,q3⟩:=qF5 θ' modes θ hpv' hp hn hle hml hlt0;obtain ⟨r1,r2⟩:=newB_spec (θ':=θ') (hpv'.drop θ.length);rw [←hnew] at r1 r2;rw [List.length_drop] at r1;have hget:∀i,i<hpv'.length→θ'.getD i 0=if i<θ.length then θ.getD i 0 else hp.length+(i - θ.length):=by
    intro i hi;rw [←hθ'];by_cases hit:i<θ.length
    ·simp [List.getD,List.getElem?_append_left hit,hit]
    ·rw [if_neg hit];simp only [List.getD];rw [List.getElem?_append_right (by omega),List.getElem?_range' (by omega)];simp
   obtain ⟨ρ2,hagree,ha2⟩:∃ρ2:Nat→Value,(∀i<hp.length,ρ2 i=ρ i)∧(∀i,ρ2 (hp.length+i)=ρ' (θ.length+i)) :=
    ⟨fun i=>if i<hp.length then ρ i else ρ' (θ.length+(i - hp.length)),fun i hi=>by simp [hi],fun i=>by
     have:¬hp.length+i<hp.length:=by omega
     simp only [this,if_false];congr 1
     omega⟩
   have hρ:∀i<hpv'.length,ρ2 (θ'.getD i 0)=ρ' i:=by
    intro i hi;rw [hget i hi];by_cases hit:i<θ.length
    ·have hh:θ[i]?=some (θ.getD i 0):=by simp [List.getD,hit]
     have:=hlt0 i _ hh;rw [if_pos hit,hagree _ this];exact (hag i (by omega)).symm
    ·rw [if_neg hit,ha2];congr 1
     omega
   refine ⟨ρ2,hagree,?_,?_,?_⟩
   ·rw [SV.renQ_eq,SV.ren_den];exact SV.den_congr (n:=hpv'.length) hρ hvt
   ·
    have hXex:∀b,Excl (lentX ρ hp modes θ) w b→Excl X w0 b:=by
     rintro b (hb | ⟨i,hh,sb,m1,m2,m3,m4,m5⟩)
     ·exact .inl (Nat.le_trans hf.size hb)
     ·exact (h.fp_lt m3 m4 m5).2
    have hXno:∀k,k<w0.heap.size→¬X k→¬lentX ρ hp modes θ k:=by
     rintro k h1 h2 ⟨i,hh,sb,m1,m2,m3,m4,m5⟩
     rcases (h.fp_lt m3 m4 m5).2 with hx | hx
     ·omega
     ·exact h2 hx
    have hview:∀k,k<w0.heap.size→¬X k→Same w w' k:=fun k h1 h2=>hst.block k (Nat.lt_of_lt_of_le h1 hf.size) (hXno k h1 h2)
    have hfz:∀k,Froz w k→Same w w' k:=fun k hk=>hst.block k hk.lt (by
     rintro ⟨i,hh,sb,m1,m2,m3,m4,m5⟩
     exact h.thaw m3 m4 m5 hk)
    have kind:∀(hh:Nat) (sb:SB),(qCw θ' modes θ hpv' hp++s)[hh]?=some sb →
      (hh<hp.length∧hp[hh]?=some sb∧(∀(i:Nat),modes[i]?=some true→θ[i]?≠some hh)) ∨
      (∃(i:Nat) (sb0:SB),i<hpv'.length∧hpv'[i]?=some sb0∧sb=sb0.renQ θ'∧hh=θ'.getD i 0):=by
     intro hh sb hsb;by_cases hlt:hh<hp.length
     ·rw [List.getElem?_append_left (by rw [q1]; exact hlt)] at hsb;by_cases hex:∃(i:Nat),modes[i]?=some true∧θ[i]?=some hh
      ·obtain ⟨i,m1,m2⟩:=hex;have hi:i<θ.length:=(List.getElem?_eq_some_iff.1 m2).1;have hi2:i<hpv'.length:=by omega
       refine .inr ⟨i,hpv'[i],hi2,List.getElem?_eq_getElem hi2,?_,?_⟩
       ·have:=q2 i hh _ m1 m2 (List.getElem?_eq_getElem hi2);rw [this] at hsb;exact (Option.some.inj hsb).symm
       ·rw [hget i hi2,if_pos hi];simp [List.getD,m2]
      ·have hno:∀(i:Nat),modes[i]?=some true→θ[i]?≠some hh:=fun i m1 m2=>hex ⟨i,m1,m2⟩
       rw [q3 hh hno] at hsb;exact .inl ⟨hlt,hsb,hno⟩
     ·rw [List.getElem?_append_right (by rw [q1]; omega),q1] at hsb;obtain ⟨sb0,c1,c2⟩:=r2 _ _ hsb;rw [List.getElem?_drop] at c1;have hi2:=(List.getElem?_eq_some_iff.1 c1).1;refine .inr ⟨θ.length+(hh - hp.length),sb0,hi2,c1,c2,?_⟩;rw [hget _ hi2,if_neg (by omega)];omega
    have hlen':(qCw θ' modes θ hpv' hp++s).length=hp.length+(hpv'.length - θ.length):=by rw [List.length_append,q1,r1]
    have hθlt:∀i<hpv'.length,θ'.getD i 0<(qCw θ' modes θ hpv' hp++s).length:=by
     intro i hi;rw [hget i hi,hlen'];by_cases hit:i<θ.length
     ·rw [if_pos hit];have hh:θ[i]?=some (θ.getD i 0):=by simp [List.getD,hit]
      have:=hlt0 i _ hh;omega
     ·rw [if_neg hit];omega
    have hunt:∀(hh:Nat) (sb:SB),hp[hh]?=some sb→(∀(i:Nat),modes[i]?=some true→θ[i]?≠some hh)→sb.ex=true→∀k,k∈fp (ρ hh)→k<w.heap.size∧¬lentX ρ hp modes θ k:=by
     intro hh sb hsb hno hex k hk;refine ⟨(h.fp_lt hsb hex hk).1,?_⟩;rintro ⟨i,h2,sb2,m1,m2,m3,m4,m5⟩
     have hne:hh≠h2:=by
      rintro rfl
      exact hno i m1 m2
     exact h.apart hh h2 sb sb2 k hne hsb m3 hex m4 hk m5
    refine ⟨fun hh hlt=>?_,fun hh sb hsb=>?_,fun hh sb hsb=>?_,fun h1 h2 sb1 sb2 b hne hs1 hs2 e1 e2 f1 f2=>?_,h.tab⟩
    ·rcases kind hh _ (List.getElem?_eq_getElem hlt) with ⟨k1,k2,_⟩ | ⟨i,sb0,k1,k2,_,k4⟩
     ·rw [hagree hh k1];exact h.ref hh k1
     ·rw [k4];rw [hρ i k1];exact hs.ref i k1
    ·rcases kind hh _ hsb with ⟨k1,k2,k3⟩ | ⟨i,sb0,k1,k2,rfl,k4⟩
     ·rw [hagree hh k1];exact SB.sat_ren (SB.sat_keep (h.sat hh sb k2) hview hfz fun hx k hk=>by
       obtain ⟨u1,u2⟩:=hunt hh sb k2 k3 hx k hk;exact hst.block k u1 u2) (h.lt hh sb k2) hagree
     ·have hv:ρ2 hh=ρ' i:=by rw [k4]; exact hρ i k1
      rw [hv];have hsat:=hs.sat i sb0 k2;exact SB.sat_back hsat (hs.lt i sb0 k2) hρ hXex
    ·rcases kind hh _ hsb with ⟨k1,k2,_⟩ | ⟨i,sb0,k1,k2,rfl,k4⟩
     ·exact SB.lt_mono (by rw [hlen']; omega) (h.lt hh sb k2)
     ·have:=hs.lt i sb0 k2;cases sb0 with
      | cells e l =>
       intro x hx;rw [renL_eq] at hx;simp only [List.mem_map] at hx;obtain ⟨y,hy,rfl⟩:=hx;exact S0.ren_lt (this y hy) hθlt
      | part k lo n sz=>exact hθlt k this
      | _=>trivial
    ·rcases kind h1 _ hs1 with ⟨k1,k2,k3⟩ | ⟨i,sb0,k1,k2,rfl,k4⟩ <;> rcases kind h2 _ hs2 with ⟨l1,l2,l3⟩ | ⟨j,sb0',l1,l2,rfl,l4⟩
     ·rw [hagree h1 k1] at f1;rw [hagree h2 l1] at f2;exact h.apart h1 h2 sb1 sb2 b hne k2 l2 e1 e2 f1 f2
     ·rw [hagree h1 k1] at f1;have hv:ρ2 h2=ρ' j:=by rw [l4]; exact hρ j l1
      rw [hv] at f2;obtain ⟨u1,u2⟩:=hunt h1 sb1 k2 k3 e1 b f1;have e2:=SB.renQ_ex _ _ e2;rcases (hs.fp_lt l2 e2 f2).2 with hx | hx
      ·omega
      ·exact u2 hx
     ·rw [hagree h2 l1] at f2;have hv:ρ2 h1=ρ' i:=by rw [k4]; exact hρ i k1
      rw [hv] at f1;obtain ⟨u1,u2⟩:=hunt h2 sb2 l2 l3 e2 b f2;have e1:=SB.renQ_ex _ _ e1;rcases (hs.fp_lt k2 e1 f1).2 with hx | hx
      ·omega
      ·exact u2 hx
     ·have hv1:ρ2 h1=ρ' i:=by rw [k4]; exact hρ i k1
      have hv2:ρ2 h2=ρ' j:=by rw [l4]; exact hρ j l1
      rw [hv1] at f1;rw [hv2] at f2;have e1:=SB.renQ_ex _ _ e1;have e2:=SB.renQ_ex _ _ e2;refine hs.apart i j _ _ b ?_ k2 l2 e1 e2 f1 f2;rintro rfl
      exact hne (by rw [k4,l4])
   ·refine hf.keep hst.os hst.output hst.size fun k h1 h2=>hst.block k (Nat.lt_of_lt_of_le h1 hf.size) ?_
    rintro ⟨i,hh,sb,m1,m2,m3,m4,m5⟩
    rcases (h.fp_lt m3 m4 m5).2 with hx | hx
    ·omega
    ·exact h2 hx
theorem SV.ltB_of {n:Nat} {v:SV} {b c:Bool} (h:(bif b then (bif v.ltB n then c else false) else false)=true):b=true∧v.lt n∧c=true:=by
 cases b with
 | false=>simp at h
 | true =>
  simp only [cnT] at h;cases hv:v.ltB n with
  | false=>rw [hv] at h; simp at h
  | true =>
   rw [hv] at h;exact ⟨rfl,SV.lt_of hv,by simpa using h⟩
theorem back_lt {modes:List Bool} {θ:List Nat} {hp hpv' hp':List SB} {v v':SV} (hb:backQ modes θ hp v hpv'=some (v',hp')) (hn:qEd θ=true) (hml:modes.length=θ.length) (hlt:∀(i h:Nat),θ[i]?=some h→h<hp.length) :
  v'.lt hp'.length∧hp.length≤hp'.length∧v.lt hpv'.length:=by
 unfold backQ at hb;simp only at hb;cases hc:(bif Nat.ble θ.length hpv'.length then (bif v.ltB hpv'.length then hpv'.all (SB.ltB hpv'.length) else false) else false) with
 | false=>rw [hc] at hb; simp at hb
 | true =>
  rw [hc] at hb;simp only [cnT,snJ,Prod.mk.injEq] at hb;obtain ⟨hle,hv,_⟩:=SV.ltB_of hc;have hle:=Nat.le_of_ble_eq_true hle;obtain ⟨rfl,rfl⟩:=hb;obtain ⟨q1,_,_⟩:=qF5 (θ++List.range' hp.length (hpv'.length - θ.length)) modes θ hpv' hp hn hle hml hlt;obtain ⟨r1,_⟩:=newB_spec (θ':=θ++List.range' hp.length (hpv'.length - θ.length)) (hpv'.drop θ.length);have hlen:(qCw (θ++List.range' hp.length (hpv'.length - θ.length)) modes θ hpv' hp++newB (θ++List.range' hp.length (hpv'.length - θ.length)) (hpv'.drop θ.length)).length=hp.length+(hpv'.length - θ.length):=by
   rw [List.length_append,q1,r1,List.length_drop]
  refine ⟨?_,by rw [hlen]; omega,hv⟩;rw [SV.renQ_eq];refine SV.ren_lt hv fun i hi=>?_
  rw [hlen];by_cases hit:i<θ.length
  ·simp only [List.getD,List.getElem?_append_left hit];have:=hlt i _ (List.getElem?_eq_getElem hit);simp only [List.getElem?_eq_getElem hit,Option.getD_some];omega
  ·simp only [List.getD];rw [List.getElem?_append_right (by omega),List.getElem?_range' (by omega)];simp;omega
theorem mvHp_lt {hp hp1:List SB} {θ:List Nat} (hm:mvHp hp θ θ=some hp1):∀(i h:Nat),θ[i]?=some h→h<hp.length:=fun i hh hi=>by
 obtain ⟨hl1,hsp⟩:=mvHp_spec hm;have hi2:i<hp1.length:=by rw [←hl1]; exact (List.getElem?_eq_some_iff.1 hi).1
 obtain ⟨i',sb0,b1,b2,_⟩:=hsp i _ (List.getElem?_eq_getElem hi2);rw [hi] at b1;cases b1;exact (List.getElem?_eq_some_iff.1 b2).1
theorem lend_len {hp hp1 hpv:List SB} {θ:List Nat} {modes:List Bool} (hm:mvHp hp θ θ=some hp1) (hl:lendL modes hp1=some hpv):modes.length=θ.length∧hpv.length=θ.length:=by
 obtain ⟨l1,l2,_⟩:=lendL_spec hl;obtain ⟨l3,_⟩:=mvHp_spec hm;omega
theorem killP_spec:∀(hp:List SB),(qGm hp).length=hp.length∧∀(i:Nat) (sb:SB),(qGm hp)[i]?=some sb→hp[i]?=some sb∨(sb=.dead∧∃k lo n sz,hp[i]?=some (.part k lo n sz))
 | []=>⟨rfl,fun i sb h=>by simp [qGm] at h⟩
 | x::r=>by
  obtain ⟨h1,h2⟩:=killP_spec r;have tail:∀y,(∀(i:Nat) (sb:SB),(y::qGm r)[i+1]?=some sb→(x::r)[i+1]?=some sb∨(sb=.dead∧∃k lo n sz,(x::r)[i+1]?=some (.part k lo n sz))):=fun y i sb h=>by
   simp only [List.getElem?_cons_succ] at h ⊢;exact h2 i sb h
  cases x with
  | part k lo n sz =>
   refine ⟨by simp [qGm,h1],fun i sb h=>?_⟩;cases i with
   | zero =>
    simp only [qGm,List.getElem?_cons_zero,snJ] at h;exact .inr ⟨h.symm,k,lo,n,sz,rfl⟩
   | succ i=>exact tail _ i sb h
  | cells e l =>
   refine ⟨by simp [qGm,h1],fun i sb h=>?_⟩;cases i with
   | zero=>exact .inl h
   | succ i=>exact tail _ i sb h
  | row t e l =>
   refine ⟨by simp [qGm,h1],fun i sb h=>?_⟩;cases i with
   | zero=>exact .inl h
   | succ i=>exact tail _ i sb h
  | map m =>
   refine ⟨by simp [qGm,h1],fun i sb h=>?_⟩;cases i with
   | zero=>exact .inl h
   | succ i=>exact tail _ i sb h
  | slc k n sz =>
   refine ⟨by simp [qGm,h1],fun i sb h=>?_⟩;cases i with
   | zero=>exact .inl h
   | succ i=>exact tail _ i sb h
  | clo f k l =>
   refine ⟨by simp [qGm,h1],fun i sb h=>?_⟩;cases i with
   | zero=>exact .inl h
   | succ i=>exact tail _ i sb h
  | bag ks e l =>
   refine ⟨by simp [qGm,h1],fun i sb h=>?_⟩;cases i with
   | zero=>exact .inl h
   | succ i=>exact tail _ i sb h
  | view t l =>
   refine ⟨by simp [qGm,h1],fun i sb h=>?_⟩;cases i with
   | zero=>exact .inl h
   | succ i=>exact tail _ i sb h
  | vrow t l =>
   refine ⟨by simp [qGm,h1],fun i sb h=>?_⟩;cases i with
   | zero=>exact .inl h
   | succ i=>exact tail _ i sb h
  | dead =>
   refine ⟨by simp [qGm,h1],fun i sb h=>?_⟩;cases i with
   | zero=>exact .inl h
   | succ i=>exact tail _ i sb h
def Struck (hp hpK:List SB):Prop:=hpK.length=hp.length∧∀(i:Nat) (sb:SB),hpK[i]?=some sb→hp[i]?=some sb∨(sb=.dead∧∃k lo n sz,hp[i]?=some (.part k lo n sz))
theorem struck_of (deep:Bool) (hp:List SB):Struck hp (bif deep then hp else qGm hp):=by
 cases deep
 ·exact killP_spec hp
 ·exact ⟨rfl,fun i sb h=>.inl h⟩
theorem Struck.sat {X:Nat→Prop} {w0 w:World} {ρ:Nat→Value} {hp hpK:List SB} (hs:Struck hp hpK) (h:HpSat X w0 w ρ hp):HpSat X w0 w ρ hpK:=by
 obtain ⟨s1,s2⟩:=hs;refine ⟨fun i hi=>h.ref i (by omega),fun i sb hi=>?_,fun i sb hi=>?_,fun i j sb1 sb2 b hij hi hj e1 e2 f1 f2=>?_,h.tab⟩
 ·rcases s2 i sb hi with hi | ⟨rfl,_⟩
  ·exact h.sat i sb hi
  ·trivial
 ·rcases s2 i sb hi with hi | ⟨rfl,_⟩
  ·rw [s1]; exact h.lt i sb hi
  ·trivial
 ·rcases s2 i sb1 hi with hi | ⟨rfl,_⟩
  ·rcases s2 j sb2 hj with hj | ⟨rfl,_⟩
   ·exact h.apart i j sb1 sb2 b hij hi hj e1 e2 f1 f2
   ·cases e2
  ·cases e1
theorem Struck.lentX {hp hpK:List SB} (hs:Struck hp hpK) (ρ:Nat→Value) (modes:List Bool) (θ:List Nat):lentX ρ hpK modes θ=lentX ρ hp modes θ:=by
 obtain ⟨s1,s2⟩:=hs;funext b
 apply propext;constructor
 ·rintro ⟨i,h,sb,m1,m2,m3,m4,m5⟩
  rcases s2 h sb m3 with m3 | ⟨rfl,_⟩
  ·exact ⟨i,h,sb,m1,m2,m3,m4,m5⟩
  ·cases m4
 ·rintro ⟨i,h,sb,m1,m2,m3,m4,m5⟩
  have hl:=(List.getElem?_eq_some_iff.1 m3).1;have hk:=List.getElem?_eq_getElem (l:=hpK) (i:=h) (by omega);refine ⟨i,h,sb,m1,m2,?_,m4,m5⟩;rcases s2 h _ hk with h0 | ⟨_,k,lo,n,sz,h0⟩
  ·rw [hk,←h0,m3]
  ·rw [m3] at h0;cases h0;cases m4
theorem lentW_spec {k:Nat}:∀ {ms:List Bool} {θ:List Nat},lentW k ms θ=false→∀(i:Nat),ms[i]?=some true→θ[i]?≠some k
 | [],θ,_,i,h=>by simp at h
 | true::ms,[],_,i,_=>by simp
 | false::ms,[],_,i,_=>by simp
 | true::ms,x::θ,h,i,hi=>by
  simp only [lentW] at h;cases hx:Nat.beq x k with
  | true=>rw [hx] at h; simp at h
  | false =>
   rw [hx] at h;cases i with
   | zero =>
    simp only [List.getElem?_cons_zero,ne_eq,snJ];rintro rfl
    rw [nbeq.2 rfl] at hx;cases hx
   | succ i=>simpa using lentW_spec (by simpa using h) i (by simpa using hi)
 | false::ms,x::θ,h,i,hi=>by
  simp only [lentW] at h;cases i with
  | zero=>simp at hi
  | succ i=>simpa using lentW_spec h i (by simpa using hi)
theorem part_view {X:Nat→Prop} {w0 w:World} {t:ET} {u v:Value} {l:List t.T} {lo n:Nat} (hu:qB8 X w0 w t u l) (hp:qCh u v lo n t.sz) (hle:lo+n≤l.length):qB8 X w0 w t v ((l.drop lo).take n):=by
 obtain ⟨ad,cap,h1,h2,h3⟩:=hu;obtain ⟨ad1,len,cap1,ad',p1,p2,p3,p4,_⟩:=hp.1 t.sz_pos;rw [h1] at p1;simp only [Value.slice.injEq] at p1;obtain ⟨rfl,rfl,rfl⟩:=p1;have hlen:((l.drop lo).take n).length=n:=by rw [List.length_take,List.length_drop]; omega
 refine ⟨ad',cap - lo,by rw [hlen]; exact p2,by rw [hlen]; omega,fun j u hj=>?_⟩;have hj2:j<n*t.sz:=by
  have:=(List.getElem?_eq_some_iff.1 hj).1;rwa [qA3 t.enc_len,hlen] at this
 have hn:0<n:=by
  rcases Nat.eq_zero_or_pos n with h0 | h0
  ·rw [h0] at hj2; omega
  ·exact h0
 obtain ⟨x,hx1,hx2⟩:=p4 (by omega);have hsplit:l.flatMap t.enc=(l.take lo).flatMap t.enc++(((l.drop lo).take n).flatMap t.enc++((l.drop lo).drop n).flatMap t.enc):=by
  rw [←List.flatMap_append,←List.flatMap_append,List.take_append_drop,List.take_append_drop]
 have hil:((l.take lo).flatMap t.enc).length=lo*t.sz:=by rw [qA3 t.enc_len,List.length_take,Nat.min_eq_left (by omega)]
 obtain ⟨a,ha,c1,c2⟩:=h3 (lo*t.sz+j) u (by
  rw [hsplit,List.getElem?_append_right (by omega),hil,Nat.add_sub_cancel_left,List.getElem?_append_left (by rw [qA3 t.enc_len,hlen]; exact hj2)];exact hj)
 rw [hx1] at ha;cases ha;exact ⟨_,hx2,by rw [add_add]; exact c1,by rw [add_block]; exact c2⟩
theorem showP_spec {hp:List SB} {k lo n sz:Nat} {p:Prop} {sb:SB} (h:showP hp k lo n sz=some (p,sb)) :
  (∃(t:ET) (l:List t.T),((∃e,hp[k]?=some (.row t e l))∨hp[k]?=some (.view t l))∧sz=t.sz∧p=(lo+n≤l.length)∧sb=.view t ((l.drop lo).take n)) ∨
  ∃ks e l,hp[k]?=some (.bag ks e l)∧sz=0∧qBz ks (l.getD lo (NT.dft ks)) n=some sb∧p=(lo<l.length):=by
 unfold showP at h;split at h
 ·rename_i t e l hk;cases hb:Nat.beq sz t.sz with
  | false=>rw [hb] at h; simp at h
  | true =>
   rw [hb] at h;simp only [cnT,snJ,Prod.mk.injEq] at h;exact .inl ⟨t,l,.inl ⟨e,hk⟩,Nat.eq_of_beq_eq_true hb,h.1.symm,h.2.symm⟩
 ·rename_i t l hk;cases hb:Nat.beq sz t.sz with
  | false=>rw [hb] at h; simp at h
  | true =>
   rw [hb] at h;simp only [cnT,snJ,Prod.mk.injEq] at h;exact .inl ⟨t,l,.inr hk,Nat.eq_of_beq_eq_true hb,h.1.symm,h.2.symm⟩
 ·rename_i ks e l hk;cases hb:Nat.beq sz 0 with
  | false=>rw [hb] at h; simp at h
  | true =>
   rw [hb,cnT] at h;split at h
   ·rename_i v hv;simp only [snJ,Prod.mk.injEq] at h;refine .inr ⟨ks,e,l,hk,Nat.eq_of_beq_eq_true hb,?_,h.1.symm⟩;rw [hv,h.2]
   ·cases h
 ·cases h
theorem qDq:∀ {ks:List NK} {x:NT ks} {j:Nat} {sb:SB},qBz ks x j=some sb→∃(t:ET) (l:List t.T),sb=.view t l
 | [],x,j,sb,h=>by simp [qBz] at h
 | .int _::r,x,j,sb,h=>qDq (ks:=r) (x:=x.2) (by simpa [qBz] using h)
 | .bool::r,x,j,sb,h=>qDq (ks:=r) (x:=x.2) (by simpa [qBz] using h)
 | .str::r,x,j,sb,h=>qDq (ks:=r) (x:=x.2) (by simpa [qBz] using h)
 | .map::r,x,0,sb,h=>by simp [qBz] at h
 | .map::r,x,j+1,sb,h=>qDq (ks:=r) (x:=x.2) (by simpa [qBz] using h)
 | .rw q::r,x,0,sb,h=>by
  simp only [qBz,snJ] at h;exact ⟨_,_,h.symm⟩
 | .rw _::r,x,j+1,sb,h=>qDq (ks:=r) (x:=x.2) (by simpa [qBz] using h)
theorem showP_view {hp:List SB} {k lo n sz:Nat} {p:Prop} {sb:SB} (h:showP hp k lo n sz=some (p,sb)):∃(t:ET) (l:List t.T),sb=.view t l:=by
 rcases showP_spec h with ⟨t,l,_,_,_,h⟩ | ⟨ks,e,l,_,_,h,_⟩
 ·exact ⟨_,_,h⟩
 ·exact qDq h
theorem upP_spec {hp:List SB} {modes:List Bool} {θ0:List Nat}:∀ {θ:List Nat} {hpv0 hpv:List SB} {ps:List Prop},upP hp modes θ0 θ hpv0=some (ps,hpv)→hpv.length=hpv0.length∧∀(i:Nat) (sb:SB),hpv[i]?=some sb→hpv0[i]?=some sb ∨
  (hpv0[i]?=some .dead∧∃(h k lo n sz:Nat) (p:Prop),θ[i]?=some h∧hp[h]?=some (.part k lo n sz)∧lentW k modes θ0=false∧showP hp k lo n sz=some (p,sb)∧(AllP ps→p))
 | [],[],hpv,ps,h=>by
  simp only [upP,snJ,Prod.mk.injEq] at h;obtain ⟨_,rfl⟩:=h;exact ⟨rfl,fun i sb hi=>by simp at hi⟩
 | [],_::_,_,_,h=>by simp [upP] at h
 | _::_,[],_,_,h=>by simp [upP] at h
 | h0::θ,sb0::s,hpv,ps,h=>by
  simp only [upP] at h;split at h
  ·rename_i ps' r hr;obtain ⟨i1,i2⟩:=upP_spec hr;have plainC:∀hpv,hpv=sb0::r→ps'=ps→hpv.length=(sb0::s).length∧∀(i:Nat) (sb:SB),hpv[i]?=some sb→(sb0::s)[i]?=some sb ∨
     ((sb0::s)[i]?=some .dead∧∃(h k lo n sz:Nat) (p:Prop),(h0::θ)[i]?=some h∧hp[h]?=some (.part k lo n sz)∧lentW k modes θ0=false∧showP hp k lo n sz=some (p,sb)∧(AllP ps→p)):=by
    rintro hpv rfl rfl
    refine ⟨by simp [i1],fun i sb hi=>?_⟩;cases i with
    | zero=>exact .inl hi
    | succ i =>
     simp only [List.getElem?_cons_succ] at hi ⊢;exact i2 i sb hi
   split at h
   ·split at h
    ·rename_i k lo n sz hk;cases hw:lentW k modes θ0 with
     | true=>rw [hw] at h; simp at h
     | false =>
      rw [hw] at h;simp only [cnF] at h;split at h
      ·rename_i p v hv;simp only [snJ,Prod.mk.injEq] at h;obtain ⟨rfl,rfl⟩:=h;refine ⟨by simp [i1],fun i sb hi=>?_⟩;cases i with
       | zero =>
        simp only [List.getElem?_cons_zero,snJ] at hi;subst hi;exact .inr ⟨rfl,h0,k,lo,n,sz,p,rfl,hk,hw,hv,fun hA=>hA.1⟩
       | succ i =>
        simp only [List.getElem?_cons_succ] at hi ⊢;rcases i2 i sb hi with h1 | ⟨h1,h',k',lo',n',sz',p',q1,q2,q3,q4,q5⟩
        ·exact .inl h1
        ·exact .inr ⟨h1,h',k',lo',n',sz',p',q1,q2,q3,q4,fun hA=>q5 hA.2⟩
      ·cases h
    ·cases h
   ·simp only [snJ,Prod.mk.injEq] at h;obtain ⟨rfl,rfl⟩:=h;exact plainC _ rfl rfl
  ·cases h
theorem view_lent {X:Nat→Prop} {w0 w:World} {ρ:Nat→Value} {hp:List SB} {θ:List Nat} {modes:List Bool} (h:HpSat X w0 w ρ hp) (hf:Stays X w0 w) {k:Nat} {t:ET} {l:List t.T} (hor:(∃e,hp[k]?=some (.row t e l))∨hp[k]?=some (.view t l))
  (hno:∀(i:Nat),modes[i]?=some true→θ[i]?≠some k):qB8 (lentX ρ hp modes θ) w w t (ρ k) l:=by
 obtain ⟨ad,cap,hv,hc,hcell⟩:=h.viewOf hf hor;refine ⟨ad,cap,hv,hc,fun j u hu=>?_⟩;obtain ⟨ad',had,c1,c2⟩:=hcell j u hu;refine ⟨ad',had,c1,.inl ⟨Fixed.lt c2,?_⟩⟩;rintro ⟨i2,h2,sb2,m1,m2,m3,m4,m5⟩
 rcases hor with ⟨e,hsb⟩ | hsb
 ·have hne:k≠h2:=by
   rintro rfl
   exact hno i2 m1 m2
  refine h.apart k h2 _ sb2 ad'.block hne hsb m3 rfl m4 ?_ m5;rw [hv,had]; exact List.mem_singleton.2 rfl
 ·obtain ⟨ad2,cap2,hv2,_,hcell2⟩:=h.sat k _ hsb;obtain ⟨ad3,had3,d1,d2⟩:=hcell2 j u hu;rw [hv] at hv2;simp only [Value.slice.injEq] at hv2;rw [←hv2.1,had] at had3;cases had3;exact h.fixed_no d2 m3 m4 m5
theorem nest_lent {X:Nat→Prop} {w0 w:World} {ρ ρ':Nat→Value} {hp:List SB} {θ:List Nat} {modes:List Bool} (h:HpSat X w0 w ρ hp) (hf:Stays X w0 w) {k:Nat} {ks:List NK} {e:Nat} {l:List (NT ks)} (hsb:hp[k]?=some (.bag ks e l))
  (hno:∀(i:Nat),modes[i]?=some true→θ[i]?≠some k) {v:Value} {lo n:Nat} (hpt:qCh (ρ k) v lo n 0) {sb:SB} (hv:qBz ks (l.getD lo (NT.dft ks)) n=some sb) (hlo:lo<l.length):sb.sat (lentX ρ hp modes θ) w w ρ' v:=by
 obtain ⟨u,rs,hu,hb⟩:=h.sat k _ hsb;obtain ⟨r,hr,hok⟩:=hb.refs.at (NT.dft ks) hlo;obtain ⟨v1,q,m,h1,rfl,h3⟩:=qCt hv hok;have hpv:v=v1:=by
  rw [hpt.2 rfl,hu];exact qGq u hr h1 h3.one
 subst hpv;have hfpv:∀b,fp1 v=some b→b∈fp (ρ k):=fun b hbv=>by
  rw [hu,fp_bag];exact List.mem_append.2 (.inr (qEs.2 ⟨lo,n,v,by simp only [qB2,hr,obS,h1],hbv⟩))
 obtain ⟨⟨e1,o1⟩,o2⟩:=h3;show qB8 _ w w q.et v (q.l m);rcases o1.2 with ⟨hv0,hn0⟩ | ⟨g,cap,cur,hv0,hbz,hg,hnc,hcm,hcs,htake⟩
 ·have hnil:q.l m=[]:=List.eq_nil_of_length_eq_zero hn0;rw [hnil];exact ⟨none,0,hv0,Nat.le_refl _,fun j u hu=>by simp at hu⟩
 ·refine ⟨_,cap,hv0,hnc,fun j u' hu'=>⟨_,rfl,World.ownsRow.cells o1 (g:=g) (by rw [hv0]; rfl) j u' hu',.inl ⟨(Array.getElem?_eq_some_iff.1 hg).1,?_⟩⟩⟩;rintro ⟨i2,h2,sb2,m1,m2,m3,m4,m5⟩
  have hne:k≠h2:=by
   rintro rfl
   exact hno i2 m1 m2
  exact h.apart k h2 _ sb2 g hne hsb m3 rfl m4 (hfpv g (by rw [hv0]; rfl)) m5
theorem lendAll_spec {deep:Bool} {modes:List Bool} {args args':List SV} {hp hpv:List SB} {θ:List Nat} {ps:List Prop} (h:qF9 deep modes args hp=some (θ,ps,args',hpv)) :
  qEd θ=true∧modes.length=θ.length∧hpv.length=θ.length∧(∀(i hh:Nat),θ[i]?=some hh→hh<hp.length)∧(∀v∈args',v.lt θ.length) ∧
  ∀(X:Nat→Prop) (w0 w:World) (ρ:Nat→Value),HpSat X w0 w ρ hp→Stays X w0 w→AllP ps→args'.map (SV.den fun i=>ρ (θ.getD i 0))=args.map (SV.den ρ)∧HpSat (lentX ρ hp modes θ) w w (fun i=>ρ (θ.getD i 0)) hpv:=by
 unfold qF9 at h;simp only at h;have hst:=struck_of deep hp;generalize (bif deep then hp else qGm hp)=hpK at h hst
 generalize closeH hpK 60 0 (hsVs args [])=θ' at h
 cases hn:qEd θ' with
 | false=>rw [hn] at h; simp at h
 | true =>
  rw [hn] at h;simp only [cnT] at h;cases h1:mvArgs θ' args with
  | none=>rw [h1] at h; simp at h
  | some a =>
   rw [h1] at h;cases h2:mvHp hpK θ' θ' with
   | none=>rw [h2] at h; simp at h
   | some hp1 =>
    rw [h2] at h;simp only at h;cases h3:lendL modes hp1 with
    | none=>rw [h3] at h; simp at h
    | some hpv0 =>
     rw [h3] at h;simp only at h;cases h4:upP hp modes θ' θ' hpv0 with
     | none=>rw [h4] at h; simp at h
     | some y =>
      obtain ⟨ps',hpv'⟩:=y;rw [h4] at h;simp only [snJ,Prod.mk.injEq] at h;obtain ⟨rfl,rfl,rfl,rfl⟩:=h;obtain ⟨m1,m2⟩:=lend_len h2 h3;obtain ⟨u1,u2⟩:=upP_spec h4;refine ⟨hn,m1,by omega,fun i hh hi=>by rw [←hst.1]; exact mvHp_lt h2 i hh hi,(mvArgs_spec (ρ:=fun _=>undef) h1).2,fun X w0 w ρ hh hf hps=>⟨(mvArgs_spec h1).1,?_⟩⟩;obtain ⟨g,_,_⟩:=lent_sat (hst.sat hh) hf hn h2 h3;rw [hst.lentX] at g;refine ⟨fun i hi=>g.ref i (by omega),fun i sb hi=>?_,fun i sb hi=>?_,fun i j sb1 sb2 b hij hi hj e1 e2 f1 f2=>?_,g.tab⟩
      ·rcases u2 i sb hi with h5 | ⟨_,h',k,lo,n,sz,p,q1,q2,q3,q4,q5⟩
       ·exact g.sat i sb h5
       ·have hg:θ'.getD i 0=h':=by simp [List.getD,q1]
        rcases showP_spec q4 with ⟨t,l,k1,rfl,rfl,rfl⟩ | ⟨ks,e,l,k1,rfl,k2,rfl⟩
        ·show qB8 _ w w t (ρ (θ'.getD i 0)) _;rw [hg];exact part_view (view_lent hh hf k1 (lentW_spec q3)) (hh.sat h' _ q2) (q5 hps)
        ·show sb.sat _ w w _ (ρ (θ'.getD i 0));rw [hg];exact nest_lent hh hf k1 (lentW_spec q3) (hh.sat h' _ q2) k2 (q5 hps)
      ·rcases u2 i sb hi with h5 | ⟨_,h',k,lo,n,sz,p,q1,q2,q3,q4,q5⟩
       ·rw [u1]; exact g.lt i sb h5
       ·obtain ⟨t,l,rfl⟩:=showP_view q4;trivial
      ·rcases u2 i sb1 hi with h5 | ⟨_,h',k,lo,n,sz,p,q1,q2,q3,q4,q5⟩
       ·rcases u2 j sb2 hj with h6 | ⟨_,h',k,lo,n,sz,p,q1,q2,q3,q4,q5⟩
        ·exact g.apart i j sb1 sb2 b hij h5 h6 e1 e2 f1 f2
        ·obtain ⟨t,l,rfl⟩:=showP_view q4;cases e2
       ·obtain ⟨t,l,rfl⟩:=showP_view q4;cases e1
theorem liftG_valid {P:Program} {f:Nat} {deep:Bool} {modes:List Bool} {C:CS} (hC:qAl P f C):qAi P f (liftG deep modes C):=by
 obtain ⟨hnat,hval⟩:=hC;refine ⟨?_,?_,tV⟩
 ·intro args hp R k r h;simp only at h ⊢;cases h1:qF9 deep modes args hp with
  | none=>rw [h1] at h; simp at h
  | some x =>
   obtain ⟨θ,ps,args',hpv⟩:=x;rw [h1] at h;simp only at h ⊢;obtain ⟨hps,h⟩:=qA6.1 h;rw [hnat] at h;obtain ⟨⟨v,hpv'⟩,h4,h5⟩:=Option.bind_eq_some_iff.1 h;simp only at h5;split at h5
   ·rename_i v' hp' h6;refine ⟨v',hp',qA6.2 ⟨hps,?_⟩,h5⟩;rw [hnat,h4];simp only [obS,h6]
   ·cases h5
 ·intro args hp p r q hq hp0 hlt;simp only [oldC,liftG] at hq;cases h1:qF9 deep modes args hp with
  | none=>rw [h1] at hq; simp at hq
  | some x =>
   obtain ⟨θ,ps,args',hpv⟩:=x;rw [h1] at hq;simp only at hq;obtain ⟨hn,m1,m2,hlt0,hlta,hsat⟩:=lendAll_spec h1;cases h0:gds ps (C args' hpv (SV × List SB) fun v hpv'=>match backQ modes θ hp v hpv' with
    | some (v',hp')=>some (v',hp')
    | none=>none) with
   | none=>rw [h0] at hq; simp at hq
   | some y =>
    rw [h0] at hq;obtain ⟨hps,h0⟩:=qA6.1 h0;rw [hnat] at h0;obtain ⟨⟨v,hpv'⟩,h4,h5⟩:=Option.bind_eq_some_iff.1 h0;simp only at h5;split at h5
    ·rename_i v' hp' h6;simp only [snJ] at h5;subst h5;simp only [snJ,Prod.mk.injEq] at hq;obtain ⟨_,rfl,rfl⟩:=hq;obtain ⟨b1,b2,b3⟩:=back_lt h6 hn m1 hlt0;refine ⟨b1,b2,fun X w0 w ρ hhp hf=>?_⟩;obtain ⟨e1,s1⟩:=hsat X w0 w ρ hhp hf hps;have:=hval args' hpv v hpv' h4 (fun v hv=>by rw [m2]; exact hlta v hv) (lentX ρ hp modes θ) w _ s1;rw [e1] at this;refine this.mono ?_;rintro e w' ⟨ρ',a1,a2,rfl,a4,a5,a6⟩
     obtain ⟨ρ2,c1,c2,c3,c4⟩:=back_sat hhp hf hn hlt0 m2 m1 h6 a1 a4 a5 a6;exact ⟨ρ2,c1,by rw [c2],c3,c4⟩
    ·cases h5
theorem qB3 {P:Program} {f:Nat} {modes:List Bool} {C:CS} (hC:qAl P f C):qAi P f (qDb modes C):=liftG_valid hC
theorem liftH_valid {P:Program} {f:Nat} {deep:Bool} {modes:List Bool} {C:CS} (hC:qAl P f C):qAi P f (liftH deep modes C):=by
 obtain ⟨hnat,hval⟩:=hC;refine ⟨?_,?_,tV⟩
 ·intro args hp R k r h;simp only at h ⊢;cases ha:modes.all (fun b=>bif b then false else true) with
  | false=>rw [ha] at h; simp at h
  | true =>
   rw [ha] at h;simp only [cnT] at h ⊢;cases h1:qF9 deep modes args hp with
   | none=>rw [h1] at h; simp at h
   | some x =>
    obtain ⟨θ,ps,args',hpv⟩:=x;rw [h1] at h;simp only at h ⊢;obtain ⟨hps,h⟩:=qA6.1 h;rw [hnat] at h;obtain ⟨⟨v,hpv'⟩,h4,h5⟩:=Option.bind_eq_some_iff.1 h;simp only at h5;cases hs:v.shut with
    | false=>rw [hs] at h5; simp at h5
    | true =>
     rw [hs] at h5;refine ⟨v,qA6.2 ⟨hps,?_⟩,h5⟩;rw [hnat,h4];simp only [obS,hs,cnT]
 ·intro args hp p r q hq hp0 hlt;simp only [oldC,liftH] at hq;cases ha:modes.all (fun b=>bif b then false else true) with
  | false=>rw [ha] at hq; simp at hq
  | true =>
   rw [ha] at hq;simp only [cnT] at hq;cases h1:qF9 deep modes args hp with
   | none=>rw [h1] at hq; simp at hq
   | some x =>
    obtain ⟨θ,ps,args',hpv⟩:=x;rw [h1] at hq;simp only at hq;obtain ⟨hn,m1,m2,hlt0,hlta,hsat⟩:=lendAll_spec h1;cases h0:gds ps (C args' hpv SV fun v hpv'=>bif v.shut then some v else none) with
    | none=>rw [h0] at hq; simp at hq
    | some y =>
     rw [h0] at hq;obtain ⟨hps,h0⟩:=qA6.1 h0;rw [hnat] at h0;obtain ⟨⟨v,hpv'⟩,h4,h5⟩:=Option.bind_eq_some_iff.1 h0;simp only at h5;cases hs:v.shut with
     | false=>rw [hs] at h5; simp at h5
     | true =>
      rw [hs] at h5;simp only [cnT,snJ] at h5;subst h5;simp only [snJ,Prod.mk.injEq] at hq;obtain ⟨_,rfl,rfl⟩:=hq;refine ⟨SV.shut_lt hs _,fun X w0 w ρ hhp hf=>?_⟩;obtain ⟨e1,s1⟩:=hsat X w0 w ρ hhp hf hps;have:=hval args' hpv v hpv' h4 (fun v hv=>by rw [m2]; exact hlta v hv) (lentX ρ hp modes θ) w _ s1;rw [e1] at this;refine this.mono ?_;rintro e w' ⟨ρ',a1,a2,rfl,a4,a5,a6⟩
      refine ⟨by rw [SV.shut_den hs ρ' ρ],hhp.past hf ⟨a6.os,a6.output,a6.size,fun k hk _=>a6.block k hk ?_⟩⟩;rintro ⟨i,hh,sb,g1,_⟩
      have:=List.all_eq_true.1 ha _ (List.mem_of_getElem? g1);simp at this
theorem qAw {P:Program} {f:Nat} {modes:List Bool} {C:CS} (hC:qAl P f C):qAi P f (qBu modes C):=liftH_valid hC
theorem qAl.of {P:Program} {f:Nat} {raws:List Nat} {ic:IQ} {rv:List RV} {nt:Nat} (hc:chk P f raws=some (ic.erase,rv,nt)) (nv:Nat) {Λ:Nat→SubQ} {Γ:Nat→Option CQ} (hΓ:∀f C,Γ f=some C→qAi P f C) {C:CS}
  (hnat:natS C) (h:∀args hp v hp',C args hp (SV × List SB) (fun v hp'=>some (v,hp'))=some (v,hp')→args.length≤nt∧qDh Λ Γ hp.length nv nt ic∧fnQ Λ Γ nv nt ic rv args hp (fun v hp'=>some (v,hp'))=some (v,hp')):qAl P f C:=by
 refine ⟨hnat,fun args hp v hp' hC hlt X w ρ hhp=>?_⟩;obtain ⟨h1,h2,h3⟩:=h args hp v hp' hC;exact fn_sound hc nv hΓ h2 h1 hhp hlt h3
def tblQ:List (Nat × CQ)→Nat→Option CQ
 | [],_=>none
 | (n,C)::r,f=>bif Nat.beq n f then some C else tblQ r f
def ValidsQ (P:Program):List (Nat × CQ)→Prop
 | []=>True
 | (n,C)::r=>qAi P n C∧ValidsQ P r
theorem qAs {P:Program}:∀ {l:List (Nat × CQ)},ValidsQ P l→∀f C,tblQ l f=some C→qAi P f C
 | [],_,f,C,h=>by simp [tblQ] at h
 | (n,D)::r,hv,f,C,h=>by
  simp only [tblQ] at h;by_cases hn:n=f
  ·subst hn;rw [nbeq.2 rfl] at h;simp only [cnT,snJ] at h;subst h;exact hv.1
  ·rw [qDe hn] at h;exact qAs hv.2 f C (by simpa using h)
def tblL:List (Nat × SubQ)→Nat→SubQ
 | [],_=>fun _ _ _ _ _=>none
 | (n,C)::r,f=>bif Nat.beq n f then C else tblL r f
theorem bind_cond {α β:Type} (c:Bool) (x y:Option α) (k:α→Option β):(bif c then x else y).bind k=bif c then x.bind k else y.bind k:=by cases c <;> rfl
theorem bind_elim {α β γ δ:Type} (s:α ⊕ β) (f:α→Option γ) (g:β→Option γ) (k:γ→Option δ):(Sum.elim f g s).bind k=Sum.elim (fun x=>(f x).bind k) (fun y=>(g y).bind k) s:=by cases s <;> rfl
theorem bind_gd {α β:Type} (p:Prop) (x:Option α) (k:α→Option β):(gd p x).bind k=gd p (x.bind k):=by
 unfold gd;by_cases h:p <;> simp [h]
structure Dec (α β:Type) where
 d:β→Option α
 e:α→β
 ok:∀b a,d b=some a→b=e a
def kindB (k:IntKind):IntKind→Bool:=fun k'=>decide (k'=k)
def dI (k:IntKind):Dec Int S0 where
 d | .val (.int k' n)=>bif kindB k k' then some n else none
   | _=>none
 e n:=.val (.int k n)
 ok b a h:=by
  split at h
  ·rename_i k' n;cases hk:kindB k k' with
   | false=>rw [hk] at h; simp at h
   | true =>
    rw [hk] at h;simp only [cnT,snJ] at h;rw [h,of_decide_eq_true hk]
  ·cases h
def dB:Dec Bool S0 where
 d | .val (.bool n)=>some n
   | _=>none
 e n:=.val (.bool n)
 ok b a h:=by
  split at h
  ·simp only [snJ] at h; rw [h]
  ·cases h
def dS:Dec BA S0 where
 d | .val (.string n)=>some n
   | _=>none
 e n:=.val (.string n)
 ok b a h:=by
  split at h
  ·simp only [snJ] at h; rw [h]
  ·cases h
def dO (i:Nat):Dec Unit S0 where
 d | .own h=>bif Nat.beq i h then some () else none
   | _=>none
 e _:=.own i
 ok b a h:=by
  split at h
  ·rename_i j;by_cases hj:i=j
   ·rw [hj]
   ·rw [qDe hj] at h; simp at h
  ·cases h
def dH (i off:Nat):Dec Unit S0 where
 d | .hd h o=>bif Nat.beq i h then (bif Nat.beq off o then some () else none) else none
   | _=>none
 e _:=.hd i off
 ok b a h:=by
  split at h
  ·rename_i j q;by_cases hj:i=j
   ·rw [nbeq.2 hj] at h;by_cases hq:off=q
    ·rw [hj,hq]
    ·rw [qDe hq] at h; simp at h
   ·rw [qDe hj] at h; simp at h
  ·cases h
def dNS:Dec Unit S0 where
 d | .val (.slice none 0 0)=>some ()
   | _=>none
 e _:=.val (.slice none 0 0)
 ok b a h:=by
  split at h
  ·rfl
  ·cases h
section
variable {α β γ:Type}
def dNil:Dec Unit (List β) where
 d | []=>some ()
   | _::_=>none
 e _:=[]
 ok b a h:=by
  split at h
  ·rfl
  ·cases h
def qAa (A:Dec α β) (B:Dec γ (List β)):Dec (α × γ) (List β) where
 d | []=>none
   | x::r=>(A.d x).bind fun a=>(B.d r).bind fun c=>some (a,c)
 e x:=A.e x.1::B.e x.2
 ok b a h:=by
  split at h
  ·cases h
  ·obtain ⟨y,h1,h2⟩:=Option.bind_eq_some_iff.1 h;obtain ⟨c,h3,h4⟩:=Option.bind_eq_some_iff.1 h2;simp only [snJ] at h4;rw [←h4,A.ok _ _ h1,B.ok _ _ h3]
def dCO (A:Dec α S0):Dec α SC where
 d | .o x=>A.d x
   | _=>none
 e x:=.o (A.e x)
 ok b a h:=by
  split at h
  ·rw [A.ok _ _ h]
  ·cases h
def dCA (A:Dec α (List S0)):Dec α SC where
 d | .agg x=>A.d x
   | _=>none
 e x:=.agg (A.e x)
 ok b a h:=by
  split at h
  ·rw [A.ok _ _ h]
  ·cases h
def dVC (A:Dec α SC):Dec α SV where
 d | .c x=>A.d x
   | _=>none
 e x:=.c (A.e x)
 ok b a h:=by
  split at h
  ·rw [A.ok _ _ h]
  ·cases h
def dSl (i:Nat) (A:Dec α SV):Dec α (Nat × GL × SV) where
 d | (j,[],v)=>bif Nat.beq i j then A.d v else none
   | _=>none
 e x:=(i,[],A.e x)
 ok b a h:=by
  split at h
  ·rename_i j v;by_cases hj:i=j
   ·rw [nbeq.2 hj] at h;rw [hj,A.ok _ _ h]
   ·rw [qDe hj] at h; simp at h
  ·cases h
def qAy (i:Nat) (A:Dec α (List S0)):Dec α SB where
 d | .cells j v=>bif Nat.beq i j then A.d v else none
   | _=>none
 e x:=.cells i (A.e x)
 ok b a h:=by
  split at h
  ·rename_i j v;by_cases hj:i=j
   ·rw [nbeq.2 hj] at h;rw [hj,A.ok _ _ h]
   ·rw [qDe hj] at h; simp at h
  ·cases h
def dRow (t:ET) (i:Nat):Dec (List t.T) SB where
 d | .row t' j l=>bif Nat.beq i j then (if h:t'=t then some (h ▸ l) else none) else none
   | _=>none
 e x:=.row t i x
 ok b a h:=by
  split at h
  ·rename_i t' j l;by_cases hj:i=j
   ·rw [nbeq.2 hj] at h;simp only [cnT] at h;split at h
    ·rename_i ht;subst ht hj;simp only [snJ] at h;rw [h]
    ·cases h
   ·rw [qDe hj] at h; simp at h
  ·cases h
theorem sprI_of {k:IntKind}:∀ {l:List S0} {cs:List Int},intsOf k l=some cs→∀(pre:List Int),sprI k (pre++cs) cs.length pre.length=l
 | [],cs,h,pre=>by simp only [intsOf,snJ] at h; subst h; rfl
 | x::r,cs,h,pre=>by
  unfold intsOf at h;split at h
  ·rename_i heq; cases heq
  ·rename_i k' n r' heq;simp only [List.cons.injEq] at heq;obtain ⟨rfl,rfl⟩:=heq;cases hk:decide (k'=k) with
   | false=>rw [hk] at h; cases h
   | true =>
    rw [hk,cnT] at h;have hk:=of_decide_eq_true hk;subst hk;split at h
    ·rename_i l hl;simp only [snJ] at h;subst h;have ih:=sprI_of hl (pre++[n]);simp only [List.append_assoc,List.singleton_append,List.length_append,List.length_cons,List.length_nil,Nat.zero_add] at ih;simp only [List.length_cons,sprI,ih,List.cons.injEq,and_true];rw [List.getD_eq_getElem?_getD,List.getElem?_append_right (Nat.le_refl _),Nat.sub_self];rfl
    ·cases h
  ·cases h
def dSpr (k:IntKind) (n:Nat) (B:Dec γ (List S0)):Dec (List Int × γ) (List S0) where
 d l:=match intsOf k (l.take n) with
  | some cs=>bif Nat.beq cs.length n then (B.d (l.drop n)).bind fun c=>some (cs,c) else none
  | none=>none
 e x:=spr k n x.1++B.e x.2
 ok b a h:=by
  split at h
  ·rename_i cs hcs;cases hb:Nat.beq cs.length n with
   | false=>rw [hb] at h; cases h
   | true =>
    rw [hb] at h;obtain ⟨c,h3,h4⟩:=Option.bind_eq_some_iff.1 h;simp only [snJ] at h4;have hn:=Nat.eq_of_beq_eq_true hb;have h5:=sprI_of hcs [];rw [List.nil_append,hn] at h5;rw [←h4];show b=spr k n cs++B.e c;rw [←B.ok _ _ h3];unfold spr;rw [show sprI k cs n 0=b.take n from h5,List.take_append_drop]
  ·cases h
def dAsl (i off n:Nat):Dec (Nat × Nat) S0 where
 d | .asl h o m lo len=>bif Nat.beq i h then (bif Nat.beq off o then (bif Nat.beq n m then some (lo,len) else none) else none) else none
   | _=>none
 e x:=.asl i off n x.1 x.2
 ok b a h:=by
  split at h
  ·rename_i j o m lo len;by_cases hj:i=j
   ·rw [nbeq.2 hj] at h;by_cases ho:off=o
    ·rw [nbeq.2 ho] at h;by_cases hm:n=m
     ·rw [nbeq.2 hm] at h;simp only [cnT,snJ] at h;rw [←h,hj,ho,hm]
     ·rw [qDe hm] at h; simp at h
    ·rw [qDe ho] at h; simp at h
   ·rw [qDe hj] at h; simp at h
  ·cases h
def dClo (f k:Nat) (A:Dec α (List S0)):Dec α SB where
 d | .clo g m v=>bif Nat.beq f g then (bif Nat.beq k m then A.d v else none) else none
   | _=>none
 e x:=.clo f k (A.e x)
 ok b a h:=by
  split at h
  ·rename_i g m v;by_cases hf:f=g
   ·rw [nbeq.2 hf] at h;by_cases hk:k=m
    ·rw [nbeq.2 hk] at h;rw [hf,hk,A.ok _ _ h]
    ·rw [qDe hk] at h; simp at h
   ·rw [qDe hf] at h; simp at h
  ·cases h
def qAt (t:ET):Dec (List t.T) SB where
 d | .view t' l=>if h:t'=t then some (h ▸ l) else none
   | _=>none
 e x:=.view t x
 ok b a h:=by
  split at h
  ·rename_i t' l;split at h
   ·rename_i ht;subst ht;simp only [snJ] at h;rw [h]
   ·cases h
  ·cases h
def dPart0 (i z:Nat):Dec Nat SB where
 d | .part h lo n sz=>bif Nat.beq i h then (bif Nat.beq z sz then (bif Nat.beq lo 0 then some n else none) else none) else none
   | _=>none
 e x:=.part i 0 x z
 ok b a h:=by
  split at h
  ·rename_i j lo n sz;by_cases hj:i=j
   ·rw [nbeq.2 hj] at h;by_cases hz:z=sz
    ·rw [nbeq.2 hz] at h;by_cases hl:lo=0
     ·subst hl;have h:some n=some a:=h;simp only [snJ] at h;rw [←h,hj,hz]
     ·rw [qDe hl] at h; simp at h
    ·rw [qDe hz] at h; simp at h
   ·rw [qDe hj] at h; simp at h
  ·cases h
def dQS (A:Dec α (List (Nat × GL × SV))) (B:Dec γ (List SB)):Dec (α × γ) QS where
 d | ⟨sl,[],hp⟩=>(A.d sl).bind fun a=>(B.d hp).bind fun c=>some (a,c)
   | _=>none
 e x:=⟨A.e x.1,[],B.e x.2⟩
 ok b a h:=by
  split at h
  ·obtain ⟨y,h1,h2⟩:=Option.bind_eq_some_iff.1 h;obtain ⟨c,h3,h4⟩:=Option.bind_eq_some_iff.1 h2;simp only [snJ] at h4;rw [←h4,A.ok _ _ h1,B.ok _ _ h3]
  ·cases h
end
theorem sub_ok' {α:Type} {Λ:Nat→SubQ} {Γ:Nat→Option CQ} {n0 nv nt i:Nat} {b:IQ} (D:Dec α QS) (f:α→(R:Type)→(QS→Option R)→(Nat→QS→Option R)→(QS→Option R)→Option R)
  (hl:Λ i=fun S R kn kx kr=>(D.d S).bind fun x=>f x R kn kx kr) (hb:∀(x:α) (R:Type) (kn:QS→Option R) (kx:Nat→QS→Option R) (kr:QS→Option R),qA7 Λ Γ n0 nv nt b (D.e x) kn kx kr=f x R kn kx kr):qA2 Λ Γ n0 nv nt i b:=by
 intro S R kn kx kr r h;rw [hl] at h;obtain ⟨x,h1,h2⟩:=Option.bind_eq_some_iff.1 h;rw [D.ok _ _ h1,hb];exact h2
theorem val_ok {α β:Type} {P:Program} {f:Nat} {raws:List Nat} {ic:IQ} {rv:List RV} {nt:Nat} (hc:chk P f raws=some (ic.erase,rv,nt)) (nv:Nat) {Λ:Nat→SubQ} {Γ:Nat→Option CQ} (hΓ:∀f C,Γ f=some C→qAi P f C) {C:CS}
  (A:Dec α (List SV)) (B:Dec β (List SB)) (n0:Nat) (g:α→β→(R:Type)→(SV→List SB→Option R)→Option R)
  (hC:C=fun args hp R k=>(A.d args).bind fun x=>(B.d hp).bind fun y=>g x y R k)
  (hg:∀x y (R:Type) (k:SV→List SB→Option R),g x y R k=(g x y (SV × List SB) (fun v hp'=>some (v,hp'))).bind fun z=>k z.1 z.2)
  (hl:∀x,(A.e x).length≤nt) (hn:∀y,(B.e y).length=n0) (hs:qDh Λ Γ n0 nv nt ic)
  (he:∀x y,fnQ Λ Γ nv nt ic rv (A.e x) (B.e y) (fun v hp'=>some (v,hp'))=g x y (SV × List SB) (fun v hp'=>some (v,hp'))):qAl P f C:=by
 subst hC;refine qAl.of hc nv hΓ (Λ:=Λ) ?_ ?_
 ·intro args hp R k;show ((A.d args).bind fun x=>(B.d hp).bind fun y=>g x y R k)=(((A.d args).bind fun x=>(B.d hp).bind fun y=>g x y (SV × List SB) fun v hp'=>some (v,hp')):Option (SV × List SB)).bind fun x=>k x.1 x.2
  cases A.d args with
  | none=>rfl
  | some x =>
   cases B.d hp with
   | none=>rfl
   | some y=>exact hg x y R k
 ·intro args hp v hp' h;obtain ⟨x,h1,h2⟩:=Option.bind_eq_some_iff.1 h;obtain ⟨y,h3,h4⟩:=Option.bind_eq_some_iff.1 h2;rw [A.ok _ _ h1,B.ok _ _ h3];exact ⟨hl x,by rw [hn]; exact hs,(he x y).trans h4⟩
noncomputable def mkL {α ρ:Type} (D:Dec α QS) (F:α→Option ρ) (K:α→ρ→(R:Type)→(QS→Option R)→(Nat→QS→Option R)→(QS→Option R)→Option R):SubQ:=fun S R kn kx kr=>(D.d S).bind fun x=>(F x).bind fun r=>K x r R kn kx kr
theorem qAm {α ρ:Type} {Λ:Nat→SubQ} {Γ:Nat→Option CQ} {n0 nv nt i:Nat} {b:IQ} {D:Dec α QS} {F:α→Option ρ} {K:α→ρ→(R:Type)→(QS→Option R)→(Nat→QS→Option R)→(QS→Option R)→Option R}
  (hl:Λ i=mkL D F K) (hb:∀(x:α) (R:Type) (kn:QS→Option R) (kx:Nat→QS→Option R) (kr:QS→Option R),qA7 Λ Γ n0 nv nt b (D.e x) kn kx kr=(F x).bind fun r=>K x r R kn kx kr):qA2 Λ Γ n0 nv nt i b :=
 sub_ok' D (fun x R kn kx kr=>(F x).bind fun r=>K x r R kn kx kr) hl hb
noncomputable def mkC {α β ρ:Type} (A:Dec α (List SV)) (B:Dec β (List SB)) (F:α→β→Option ρ) (V:α→β→ρ→SV) (H:α→β→ρ→List SB):CS:=fun args hp R k=>(A.d args).bind fun x=>(B.d hp).bind fun y=>(F x y).bind fun r=>k (V x y r) (H x y r)
theorem val_okC {α β ρ:Type} {P:Program} {f:Nat} {raws:List Nat} {ic:IQ} {rv:List RV} {nt:Nat} (hc:chk P f raws=some (ic.erase,rv,nt)) (nv:Nat) {Λ:Nat→SubQ} {Γ:Nat→Option CQ} (hΓ:∀f C,Γ f=some C→qAi P f C)
  {A:Dec α (List SV)} {B:Dec β (List SB)} (n0:Nat) {F:α→β→Option ρ} {V:α→β→ρ→SV} {H:α→β→ρ→List SB}
  (hl:∀x,(A.e x).length≤nt) (hn:∀y,(B.e y).length=n0) (hs:qDh Λ Γ n0 nv nt ic)
  (he:∀x y,fnQ Λ Γ nv nt ic rv (A.e x) (B.e y) (fun v hp'=>some (v,hp'))=(F x y).bind fun r=>some (V x y r,H x y r)):qAl P f (mkC A B F V H) :=
 val_ok hc nv hΓ A B n0 (fun x y R k=>(F x y).bind fun r=>k (V x y r) (H x y r)) rfl (fun x y R k=>by cases F x y <;> rfl) hl hn hs he
noncomputable def evt {R:Type} (f:Nat→Option R):Option R:=@dite _ (∃r N,∀n,N≤n→f n=some r) (Classical.propDecidable _) (fun h=>some h.choose) (fun _=>none)
theorem evt_some {R:Type} {f:Nat→Option R} {r:R} (h:evt f=some r):∃n,f n=some r:=by
 unfold evt at h;split at h
 ·rename_i hx;simp only [snJ] at h;subst h;obtain ⟨N,hN⟩:=hx.choose_spec;exact ⟨N,hN N (Nat.le_refl _)⟩
 ·cases h
theorem evt_eq {R:Type} {f:Nat→Option R} {N:Nat} {r:R} (h:∀n,N≤n→f n=some r):evt f=some r:=by
 have hx:∃r N,∀n,N≤n→f n=some r:=⟨r,N,h⟩;unfold evt;rw [dif_pos hx];obtain ⟨M,hM⟩:=hx.choose_spec;have h1:=hM (max N M) (Nat.le_max_right _ _);rw [h _ (Nat.le_max_left _ _)] at h1;exact h1.symm
theorem qAl.zero {P:Program} {f:Nat} {C:CS} (h:∀args hp (R:Type) (k:SV→List SB→Option R),C args hp R k=none):qAl P f C:=by
 refine ⟨fun args hp R k=>?_,fun args hp v hp' hC=>?_⟩
 ·rw [h,h]; rfl
 ·rw [h] at hC; cases hC
theorem qAl.evt {P:Program} {f:Nat} {C:Nat→CS} (hv:∀n,qAl P f (C n)) {D:CS} (hnat:natS D)
  (h:∀args hp v hp',D args hp (SV × List SB) (fun v hp'=>some (v,hp'))=some (v,hp')→∃n,C n args hp (SV × List SB) (fun v hp'=>some (v,hp'))=some (v,hp')):qAl P f D:=by
 refine ⟨hnat,fun args hp v hp' hD=>?_⟩;obtain ⟨n,hn⟩:=h args hp v hp' hD;exact (hv n).2 args hp v hp' hn
end Go.Eng
