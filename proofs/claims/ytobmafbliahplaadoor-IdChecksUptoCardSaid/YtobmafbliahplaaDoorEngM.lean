/-
  Texts of a claim.
-/
import Derived.Test.YtobmafbliahplaaDoorEngL
namespace Go.Eng
set_option linter.unusedVariables false
set_option linter.unusedSimpArgs false
inductive IQ where
 | bad
 | skip
 | reg (last:Nat) (draw:Option (List Nat)) (ops:List IOp)
 | regT (last:Nat) (t:DT)
 | regL (last:Nat) (d:List Nat) (k:Nat) (ops:List IOp) (o:IOp)
 | seq (a b:IQ)
 | cond (c:Arg) (a b:IQ)
 | block (id:Nat) (b:IQ)
 | loop (keep:List Nat) (b:IQ)
 | unroll (n:Nat) (b:IQ)
 | exit (id:Nat)
 | ret
 | canon (co:List (Nat × Option Nat × ET × Nat)) (keep:List Nat) (a:IQ)
 | join (co:List (Nat × Option Nat × ET × Nat)) (keep:List Nat) (a:IQ)
 | sub (i:Nat) (a:IQ)
def IQ.erase:IQ→IC
 | .bad=>.bad
 | .skip=>.skip
 | .reg l d o=>.reg l d o
 | .regT l t=>.regT l t
 | .regL l d k ops o=>.regL l d k ops o
 | .seq a b=>.seq a.erase b.erase
 | .cond c a b=>.cond c a.erase b.erase
 | .block i b=>.block i b.erase
 | .loop _ b=>.loop b.erase
 | .unroll _ b=>.loop b.erase
 | .exit i=>.exit i
 | .ret=>.ret
 | .canon _ _ a=>a.erase
 | .join _ _ a=>a.erase
 | .sub _ a=>a.erase
def nilB:S0→Bool
 | .val (.slice none 0 0)=>true
 | _=>false
def nilK (t:ET) (x:S0):Bool :=
 match t with
 | .mp=>match x with
  | .val (.map none)=>true
  | _=>false
 | .bag []=>false
 | _=>nilB x
def nilH (t:ET) (n:Nat):S0 :=
 match t with
 | .bag _=>.bsl n
 | _=>.own n
def nilSB (t:ET) (e:Nat):SB :=
 match t with
 | .mp=>.map none
 | .bag ks=>.bag ks e []
 | t=>.row t e []
def nilVal (t:ET):Value :=
 match t with
 | .mp=>.map none
 | .bag _=>bagV (.slice none 0 0) []
 | _=>.slice none 0 0
def coerQ (S:QS) (d:Nat) (off:Option Nat) (t:ET) (e:Nat):Option QS :=
 match getQ S.sl d,off with
 | some ([],.c (.o x)),none=>bif nilK t x then some ⟨putS S.sl d ([],.c (.o (nilH t S.hp.length))),S.kn,S.hp++[nilSB t e]⟩ else some S
 | some ([],.c (.agg l)),some k=>match l[k]? with
  | some x=>bif nilK t x then some ⟨putS S.sl d ([],.c (.agg (l.set k (nilH t S.hp.length)))),S.kn,S.hp++[nilSB t e]⟩ else some S
  | none=>none
 | some ([],.c (.o (.hd h 0))),some k=>match S.hp[h]? with
  | some (.cells e' l)=>match l[k]? with
   | some x=>bif nilK t x then some ⟨S.sl,S.kn,S.hp.set h (.cells e' (l.set k (nilH t S.hp.length)))++[nilSB t e]⟩ else some S
   | none=>none
  | _=>none
 | _,_=>none
def mvB (hp:List SB):S0→Option (S0 × List SB)
 | .own q=>match hp[q]? with
  | some (.row t e l)=>some (.own hp.length,hp.set q .dead++[.row t e l])
  | some (.map m)=>some (.own hp.length,hp.set q .dead++[.map m])
  | some (.view t l)=>some (.own hp.length,hp++[.view t l])
  | _=>none
 | .bsl q=>match hp[q]? with
  | some (.bag ks e l)=>some (.bsl hp.length,hp.set q .dead++[.bag ks e l])
  | _=>none
 | _=>none
def mvQ (S:QS) (d:Nat) (off:Option Nat):Option QS :=
 match getQ S.sl d,off with
 | some ([],.c (.o (.hd h 0))),some k=>match S.hp[h]? with
  | some (.cells e l)=>match l[k]? with
   | some x=>match mvB S.hp x with
    | some (y,hp')=>some ⟨S.sl,S.kn,hp'.set h (.cells e (l.set k y))⟩
    | none=>none
   | none=>none
  | _=>none
 | some ([],.c (.o x)),none=>match mvB S.hp x with
  | some (y,hp')=>some ⟨putS S.sl d ([],.c (.o y)),S.kn,hp'⟩
  | none=>none
 | _,_=>none
def selfP (h:Nat):S0→Option S0
 | .hd h' 0=>bif Nat.beq h' h then some (.opt true h 0) else none
 | .val (.pointer none)=>some (.opt false h 0)
 | .opt c h' 0=>bif Nat.beq h' h then some (.opt c h 0) else none
 | _=>none
def selfQ (S:QS) (d:Nat) (off:Option Nat):Option QS :=
 match getQ S.sl d,off with
 | some ([],.c (.o (.hd h 0))),some k=>match S.hp[h]? with
  | some (.cells e l)=>match l[k]? with
   | some x=>(selfP h x).bind fun y=>some ⟨S.sl,S.kn,S.hp.set h (.cells e (l.set k y))⟩
   | none=>none
  | _=>none
 | _,_=>none
def thinQ (S:QS) (d:Nat):Option QS :=
 match getQ S.sl d with
 | some ([],.c (.o (.own h)))=>match S.hp[h]? with
  | some (.row t e l)=>some ⟨putS S.sl d ([],.c (.o (.own (S.hp.length+1)))),S.kn,S.hp++[.dead]++[.part S.hp.length 0 l.length t.sz]⟩
  | some (.part k lo n z)=>some S
  | _=>none
 | _=>none
def aliasQ (S:QS) (d:Nat) (off:Option Nat):Option QS :=
 match getQ S.sl d,off with
 | some ([],.c (.o (.hd h 0))),some k=>match S.hp[h]? with
  | some (.cells e l)=>match l[k]? with
   | some (.own q)=>match S.hp[q]? with
    | some (.row t e' r)=>some ⟨S.sl,S.kn,(S.hp++[SB.part q 0 r.length t.sz]).set h (.cells e (l.set k (.own S.hp.length)))⟩
    | _=>none
   | _=>none
  | _=>none
 | _,_=>none
def vrowQ (S:QS) (d:Nat):Option QS :=
 match getQ S.sl d with
 | some ([],.c (.o (.own h)))=>match S.hp[h]? with
  | some (.row t e l)=>some ⟨S.sl,S.kn,S.hp.set h (.vrow t l)⟩
  | some (.vrow _ _)=>some S
  | _=>none
 | _=>none
def coersQ:List (Nat × Option Nat × ET × Nat)→QS→Option QS
 | [],S=>some S
 | (d,off,t,e)::r,S=>(bif Nat.ble 6000000 d then vrowQ S (d - 6000000) else bif Nat.ble 5000000 d then aliasQ S (d - 5000000) off else bif Nat.ble 4000000 d then thinQ S (d - 4000000) else bif Nat.ble 3000000 d then some ⟨S.sl,S.kn,S.hp.set (d - 3000000) .dead⟩ else bif Nat.ble 2000000 d then selfQ S (d - 2000000) off else bif Nat.ble 1000000 d then mvQ S (d - 1000000) off else coerQ S d off t e).bind (coersQ r)
def postQ (n0:Nat) (co:List (Nat × Option Nat × ET × Nat)) (keep:List Nat) (S:QS):Option QS:=(coersQ co S).bind (canonQ n0 keep)
noncomputable def lfp {R:Type} (f:Nat→Option R):Option R:=@dite _ (∃n r,f n=some r) (Classical.propDecidable _) (fun h=>f h.choose) (fun _=>none)
theorem lfp_some {R:Type} {f:Nat→Option R} {r:R} (h:lfp f=some r):∃n,f n=some r:=by
 unfold lfp at h;split at h
 ·exact ⟨_,h⟩
 ·cases h
theorem lfp_eq {R:Type} {f:Nat→Option R} {n:Nat} {r:R} (hm:∀n m r,f n=some r→n≤m→f m=some r) (h:f n=some r):lfp f=some r:=by
 have hex:∃n r,f n=some r:=⟨n,r,h⟩;unfold lfp;rw [dif_pos hex];obtain ⟨r',hr'⟩:=hex.choose_spec;rcases Nat.le_total n hex.choose with hle | hle
 ·exact hm _ _ _ h hle
 ·have:=hm _ _ _ hr' hle;rw [h] at this;rw [hr',←this]
noncomputable def loopN {R:Type} (body:QS→(QS→Option R)→Option R) (cn:QS→Option QS):Nat→QS→Option R
 | 0,_=>none
 | n+1,S=>body S fun S'=>(cn S').bind (loopN body cn n)
abbrev SubQ:=QS→(R:Type)→(QS→Option R)→(Nat→QS→Option R)→(QS→Option R)→Option R
noncomputable def qA7 {R:Type} (Λ:Nat→SubQ) (Γ:Nat→Option CQ) (n0 nv nt:Nat):IQ→QS→(QS→Option R)→(Nat→QS→Option R)→(QS→Option R)→Option R
 | .bad,S,kn,kx,kr=>none
 | .skip,S,kn,kx,kr=>kn S
 | .reg last none ops,S,kn,kx,kr=>opsQ Γ nv nt (fun p=>kx PANB (panS p)) ops S fun S'=>kn ⟨qBr nv last S'.sl,[],S'.hp⟩
 | .reg last (some _) ops,S,kn,kx,kr=>match S.kn with
  | []=>bif nodSl S.sl then drawQ Γ nv nt S.hp ops [] ⟨qBr 1000000 0 S.sl,[],S.hp⟩ fun S'=>kn ⟨qBr nv last S'.sl,[],S'.hp⟩ else none
  | _::_=>none
 | .regT last t,S,kn,kx,kr=>match S.kn with
  | []=>bif nodSl S.sl then treeQ Γ nv nt S.hp t ⟨qBr 1000000 0 S.sl,[],S.hp⟩ fun S'=>kn ⟨qBr nv last S'.sl,[],S'.hp⟩ else none
  | _::_=>none
 | .regL last d k ops o,S,kn,kx,kr=>match S.kn with
  | []=>bif nodSl S.sl then drawQ Γ nv nt S.hp ops [] ⟨qBr 1000000 0 S.sl,[],S.hp⟩ fun S'=>opQ Γ nv nt (fun _=>none) o ⟨qBr 1000000 0 S'.sl,[],S'.hp⟩ fun S2=>kn ⟨qBr nv last S2.sl,[],S2.hp⟩ else none
  | _::_=>none
 | .seq a b,S,kn,kx,kr=>qA7 Λ Γ n0 nv nt a S (fun S'=>qA7 Λ Γ n0 nv nt b S' kn kx kr) kx kr
 | .cond c a b,S,kn,kx,kr=>match argQ S [] c with
  | some (.c (.o (.val (.bool t))))=>bif t then qA7 Λ Γ n0 nv nt a S kn kx kr else qA7 Λ Γ n0 nv nt b S kn kx kr
  | _=>none
 | .block id b,S,kn,kx,kr=>bif Nat.beq PANB id then none else qA7 Λ Γ n0 nv nt b S kn (fun i S'=>bif Nat.beq i id then kn S' else kx i S') kr
 | .loop keep b,S,kn,kx,kr=>match canonQ n0 keep S with
  | some S0=>lfp fun n=>loopN (fun S kk=>qA7 Λ Γ n0 nv nt b S kk kx kr) (canonQ n0 keep) n S0
  | none=>none
 | .unroll n b,S,kn,kx,kr=>loopN (fun S kk=>qA7 Λ Γ n0 nv nt b S kk kx kr) some n S
 | .exit id,S,kn,kx,kr=>bif Nat.beq id PANB then none else kx id S
 | .ret,S,kn,kx,kr=>kr S
 | .canon co keep a,S,kn,kx,kr=>(postQ n0 co keep S).bind fun S'=>qA7 Λ Γ n0 nv nt a S' kn kx kr
 | .join co keep a,S,kn,kx,kr=>qA7 Λ Γ n0 nv nt a S (fun S'=>(postQ n0 co keep S').bind kn) kx kr
 | .sub i a,S,kn,kx,kr=>Λ i S R kn kx kr
def qDh (Λ:Nat→SubQ) (Γ:Nat→Option CQ) (n0 nv nt:Nat):IQ→Prop
 | .seq a b=>qDh Λ Γ n0 nv nt a∧qDh Λ Γ n0 nv nt b
 | .cond _ a b=>qDh Λ Γ n0 nv nt a∧qDh Λ Γ n0 nv nt b
 | .block _ b=>qDh Λ Γ n0 nv nt b
 | .loop _ b=>qDh Λ Γ n0 nv nt b
 | .unroll _ b=>qDh Λ Γ n0 nv nt b
 | .canon _ _ a=>qDh Λ Γ n0 nv nt a
 | .join _ _ a=>qDh Λ Γ n0 nv nt a
 | .sub i a=>(∀(S:QS) (R:Type) (kn:QS→Option R) (kx:Nat→QS→Option R) (kr:QS→Option R) (r:R),Λ i S R kn kx kr=some r→qA7 Λ Γ n0 nv nt a S kn kx kr=some r)∧qDh Λ Γ n0 nv nt a
 | _=>True
def subsL:IQ→List (Nat × IQ)
 | .seq a b=>subsL a++subsL b
 | .cond _ a b=>subsL a++subsL b
 | .block _ b=>subsL b
 | .loop _ b=>subsL b
 | .unroll _ b=>subsL b
 | .canon _ _ a=>subsL a
 | .join _ _ a=>subsL a
 | .sub i a=>(i,a)::subsL a
 | _=>[]
def qA2 (Λ:Nat→SubQ) (Γ:Nat→Option CQ) (n0 nv nt:Nat) (i:Nat) (a:IQ):Prop :=
 ∀(S:QS) (R:Type) (kn:QS→Option R) (kx:Nat→QS→Option R) (kr:QS→Option R) (r:R),Λ i S R kn kx kr=some r→qA7 Λ Γ n0 nv nt a S kn kx kr=some r
def qA8 (Λ:Nat→SubQ) (Γ:Nat→Option CQ) (n0 nv nt:Nat):List (Nat × IQ)→Prop
 | []=>True
 | (i,a)::r=>qA2 Λ Γ n0 nv nt i a∧qA8 Λ Γ n0 nv nt r
theorem qA8.app {Λ:Nat→SubQ} {Γ:Nat→Option CQ} {n0 nv nt:Nat}:∀ {l m:List (Nat × IQ)},qA8 Λ Γ n0 nv nt (l++m)→qA8 Λ Γ n0 nv nt l∧qA8 Λ Γ n0 nv nt m
 | [],_,h=>⟨trivial,h⟩
 | (_,_)::r,m,h=>⟨⟨h.1,(qA8.app (l:=r) h.2).1⟩,(qA8.app (l:=r) h.2).2⟩
theorem qDi {Λ:Nat→SubQ} {Γ:Nat→Option CQ} {n0 nv nt:Nat}:∀ {ic:IQ},qA8 Λ Γ n0 nv nt (subsL ic)→qDh Λ Γ n0 nv nt ic
 | .bad,_=>trivial
 | .skip,_=>trivial
 | .reg _ _ _,_=>trivial
 | .regT _ _,_=>trivial
 | .regL _ _ _ _ _,_=>trivial
 | .exit _,_=>trivial
 | .ret,_=>trivial
 | .seq a b,h=>⟨qDi (qA8.app h).1,qDi (qA8.app h).2⟩
 | .cond _ a b,h=>⟨qDi (qA8.app h).1,qDi (qA8.app h).2⟩
 | .block _ b,h=>qDi (ic:=b) h
 | .loop _ b,h=>qDi (ic:=b) h
 | .unroll _ b,h=>qDi (ic:=b) h
 | .canon _ _ a,h=>qDi (ic:=a) h
 | .join _ _ a,h=>qDi (ic:=a) h
 | .sub i a,h=>⟨h.1,qDi (ic:=a) h.2⟩
section
variable {E:Env} {nv:Nat} {Γ:Nat→Option CQ} {raws:List Nat}
theorem nilB_eq {x:S0} (h:nilB x=true):x=.val (.slice none 0 0):=by
 unfold nilB at h;split at h
 ·rfl
 ·cases h
def nilρT (t:ET) (n:Nat) (ρ:Nat→Value):Nat→Value:=fun i=>if i<n then ρ i else nilVal t
theorem qDg {t:ET} {n:Nat} {ρ:Nat→Value}:∀i<n,nilρT t n ρ i=ρ i:=fun i hi=>by simp [nilρT,hi]
theorem nilT_at (t:ET) (n:Nat) (ρ:Nat→Value):nilρT t n ρ n=nilVal t:=by simp [nilρT]
theorem nilT_den {t:ET} {x:S0} {n:Nat} {ρ:Nat→Value} (h:nilK t x=true):(nilH t n).den (nilρT t n ρ)=x.den ρ:=by
 cases t with
 | mp =>
  simp only [nilK] at h;split at h
  ·simp only [nilH,S0.den,nilT_at,nilVal]
  ·cases h
 | bag ks =>
  cases ks with
  | nil=>simp [nilK] at h
  | cons k r =>
   have:=nilB_eq h;subst this;simp only [nilH,S0.den,nilT_at,nilVal];exact qBc [] rfl
 | _ =>
  all_goals
   have:=nilB_eq h;subst this;simp only [nilH,S0.den,nilT_at,nilVal]
theorem nilH_lt (t:ET) (n:Nat):(nilH t n).lt (n+1):=by cases t <;> exact Nat.lt_succ_self _
theorem nilVal_fp (t:ET):fp (nilVal t)=[]:=by cases t <;> rfl
theorem qGi {X:Nat→Prop} {w0 w:World} {ρ:Nat→Value} {hp:List SB} {t:ET} {x:S0} (hx:nilK t x=true) (h:HpSat X w0 w ρ hp) (e:Nat):HpSat X w0 w (nilρT t hp.length ρ) (hp++[nilSB t e]):=by
 refine h.push (w':=w) (nilSB t e) qDg (fun k _ _=>rfl) (fun _ _=>rfl) (fun _ _ k _ _ _=>rfl) ?_ ?_ ?_ ?_
 ·rw [nilT_at];cases t with
  | mp=>rfl
  | bag ks =>
   cases ks with
   | nil=>simp [nilK] at hx
   | cons k r=>exact ⟨.slice none 0 0,[],rfl,World.ownsRow_nil w 0 e _,by simp [Value.ownBlock],trivial,by simp [qB2],by simp [qB2],Nat.succ_pos _⟩
  | _=>all_goals exact ⟨World.ownsRow_nil w 0 e _,fun b hb=>by simp [nilVal,Value.ownBlock] at hb⟩
 ·cases t <;> trivial
 ·rw [nilT_at]; cases t <;> trivial
 ·intro _ b hb;rw [nilT_at,nilVal_fp] at hb;cases hb
theorem qEh {ρ:Nat→Value} {n:Nat} {l:List S0} {k:Nat} {x:S0} {t:ET} (hx:l[k]?=some x) (hn:nilK t x=true) (hl:∀y∈l,y.lt n) :
  (l.set k (nilH t n)).map (S0.den (nilρT t n ρ))=l.map (S0.den ρ):=by
 apply List.ext_getElem?;intro i;rw [List.getElem?_map,List.getElem?_map];by_cases hi:i=k
 ·subst hi;have hlt:=(List.getElem?_eq_some_iff.1 hx).1;rw [List.getElem?_set_self hlt,hx];simp only [Option.map_some,nilT_den hn]
 ·rw [List.getElem?_set_ne (Ne.symm hi)];cases h:l[i]? with
  | none=>rfl
  | some y =>
   simp only [Option.map_some];rw [S0.den_congr qDg (hl y (List.mem_of_getElem? h))]
theorem set_nilT_lt {n k:Nat} {l:List S0} {t:ET} (hl:∀y∈l,y.lt n):∀y∈l.set k (nilH t n),y.lt (n+1):=by
 intro y hy;rcases List.mem_or_eq_of_mem_set hy with h | rfl
 ·exact S0.lt_mono (Nat.le_succ _) (hl y h)
 ·exact nilH_lt t n
theorem coer_sat {ρ:Nat→Value} {S S':QS} {a:Act} {w:World} {d:Nat} {off:Option Nat} {t:ET} {e:Nat} (h:SatQ E ρ S a w) (hc:coerQ S d off t e=some S'):∃ρ',SatQ E ρ' S' a w:=by
 have base:∀(sl:List (Nat × GL × SV)) (hp:List SB),hp.length=S.hp.length+1→(∀x∈sl,x∈S.sl∨EntS (nilρT t S.hp.length ρ) a hp.length x)→HpSat E.X E.w0 w (nilρT t S.hp.length ρ) hp→SatQ E (nilρT t S.hp.length ρ) ⟨sl,S.kn,hp⟩ a w:=fun sl hp hl hs hh=>by
  refine ⟨h.nd,h.sz,fun x hx=>?_,h.kn,hh,h.fr,by show E.n0≤hp.length; have:=h.n0; omega,fun i hi=>?_⟩
  ·rcases hs x hx with hx | hx
   ·exact (h.sl x hx).same qDg (by show _≤hp.length; omega)
   ·exact hx
  ·rw [qDg i (Nat.lt_of_lt_of_le hi h.n0)];exact h.ag i hi
 unfold coerQ at hc;split at hc
 ·rename_i x hg;cases hx:nilK t x with
  | false=>rw [hx] at hc; simp only [cnF,snJ] at hc; subst hc; exact ⟨ρ,h⟩
  | true =>
   rw [hx] at hc;simp only [cnT,snJ] at hc;subst hc;refine ⟨_,base _ _ (by simp) (fun y hy=>?_) (qGi hx h.hp e)⟩;rcases putS_mem hy with rfl | ⟨hy,_⟩
   ·refine .inr ⟨fun hG=>?_,fun hn=>(hn (Hold.nil a)).elim,fun _=>?_⟩
    ·rw [(h.get hg).1 hG];simp only [SV.den,SC.den,nilT_den hx]
    ·have:=nilH_lt t S.hp.length;simpa [SV.lt,SC.lt] using this
   ·exact .inl hy
 ·rename_i l k hg;split at hc
  ·rename_i x hx;cases hn:nilK t x with
   | false=>rw [hn] at hc; simp only [cnF,snJ] at hc; subst hc; exact ⟨ρ,h⟩
   | true =>
    rw [hn] at hc;simp only [cnT,snJ] at hc;subst hc;have hlt:=(h.get hg).2.2 (Hold.nil a);refine ⟨_,base _ _ (by simp) (fun y hy=>?_) (qGi hn h.hp e)⟩;rcases putS_mem hy with rfl | ⟨hy,_⟩
    ·refine .inr ⟨fun hG=>?_,fun hn=>(hn (Hold.nil a)).elim,fun _=>?_⟩
     ·rw [(h.get hg).1 hG];simp only [SV.den,SC.den];rw [qEh hx hn hlt]
     ·show ∀y∈l.set k (nilH t S.hp.length),S0.lt _ y;have:=set_nilT_lt (k:=k) (t:=t) hlt;simpa using this
    ·exact .inl hy
  ·cases hc
 ·rename_i hh k hg;split at hc
  ·rename_i e' l hsb;split at hc
   ·rename_i x hx;cases hn:nilK t x with
    | false=>rw [hn] at hc; simp only [cnF,snJ] at hc; subst hc; exact ⟨ρ,h⟩
    | true =>
     rw [hn] at hc;simp only [cnT,snJ] at hc;subst hc;have hlt:=h.hp.lt hh _ hsb;have hhl:=(List.getElem?_eq_some_iff.1 hsb).1;have h1:=qGi hn h.hp e;have hsb':(S.hp++[nilSB t e])[hh]?=some (.cells e' l):=by rw [List.getElem?_append_left hhl]; exact hsb
     have h2:=h1.turn hh _ (.cells e' (l.set k (nilH t S.hp.length))) hsb' (fun _=>rfl) (fun k _ _=>rfl) (fun _ _=>rfl) (fun _ _ k _ _ _ _=>rfl) (by
      obtain ⟨b,hv,hb,hx'⟩:=h.hp.sat hh _ hsb;refine ⟨b,by rw [qDg hh hhl]; exact hv,?_,hx'⟩;rw [qEh hx hn hlt];exact hb) (by
      have:=set_nilT_lt (k:=k) (t:=t) hlt;show ∀y∈_,S0.lt _ y;simpa using this)
     rw [List.set_append_left _ _ hhl] at h2;exact ⟨_,base _ _ (by simp) (fun y hy=>.inl hy) h2⟩
   ·cases hc
  ·cases hc
 ·cases hc
theorem heap_respell' {X:Nat→Prop} {w0 w:World} {ρ:Nat→Value} {hp:List SB} (h:HpSat X w0 w ρ hp) {hh e:Nat} {l l':List S0} (hsb:hp[hh]?=some (.cells e l)) (hd:l'.map (S0.den ρ)=l.map (S0.den ρ)) (hl:∀y∈l',y.lt hp.length):HpSat X w0 w ρ (hp.set hh (.cells e l')) :=
 h.turn hh _ (.cells e l') hsb (fun _=>rfl) (fun k _ _=>rfl) (fun _ _=>rfl) (fun _ _ k _ _ _ _=>rfl) (by
  obtain ⟨b,hv,hb,hx⟩:=h.sat hh _ hsb;exact ⟨b,hv,by rw [hd]; exact hb,hx⟩) hl
theorem mvB_sat {X:Nat→Prop} {w0 w:World} {ρ:Nat→Value} {hp hp':List SB} {x y:S0} (h:HpSat X w0 w ρ hp) (hm:mvB hp x=some (y,hp')) :
  ∃ρ',(∀i<hp.length,ρ' i=ρ i)∧HpSat X w0 w ρ' hp'∧y.den ρ'=x.den ρ∧y.lt hp'.length∧hp'.length=hp.length+1∧∀(i:Nat) (e:Nat) (l:List S0),hp[i]?=some (.cells e l)→hp'[i]?=some (.cells e l):=by
 have core:∀(q:Nat) (sb:SB),hp[q]?=some sb→sb.ex=true→(∀n m,n≤m→sb.lt n→sb.lt m)→(∀e l,sb≠.cells e l)→∃ρ',(∀i<hp.length,ρ' i=ρ i)∧ρ' hp.length=ρ q∧HpSat X w0 w ρ' (hp.set q .dead++[sb]) ∧
   ∀(i:Nat) (e:Nat) (l:List S0),hp[i]?=some (.cells e l)→(hp.set q .dead++[sb])[i]?=some (.cells e l):=by
  intro q sb hsb hex hmono hnc;have hql:=(List.getElem?_eq_some_iff.1 hsb).1;have h1:=h.turn q _ .dead hsb (fun e=>by cases e) (fun k _ _=>rfl) (fun _ _=>rfl) (fun _ _ k _ _ _ _=>rfl) trivial trivial;have hlen:(hp.set q .dead).length=hp.length:=List.length_set;let ρ':Nat→Value:=fun i=>if i=hp.length then ρ q else ρ i
  have hat:ρ' hp.length=ρ q:=by simp [ρ']
  have hlt':∀i<hp.length,ρ' i=ρ i:=fun i hi=>by simp only [ρ']; rw [if_neg (by omega)]
  have h2:=h1.push (ρ':=ρ') (w':=w) sb (fun i hi=>hlt' i (by omega)) (fun k _ _=>rfl) (fun _ _=>rfl) (fun _ _ k _ _ _=>rfl)
   (by rw [hlen,hat]; exact SB.sat_ren (h.sat q _ hsb) (h.lt q sb hsb) hlt') (hmono _ _ (by rw [hlen]; omega) (h.lt q sb hsb)) (by rw [hlen,hat]; exact h.ref q hql) (by
    intro _ b hb i sb' hi hx hf;rw [hlen,hat] at hb;by_cases hih:i=q
    ·subst hih;rw [List.getElem?_set_self hql] at hi;cases hi;cases hx
    ·rw [List.getElem?_set_ne (Ne.symm hih)] at hi;exact h.apart i q sb' _ b hih hi hsb hx hex hf hb)
  refine ⟨ρ',hlt',hat,h2,fun i e l hi=>?_⟩;have hil:=(List.getElem?_eq_some_iff.1 hi).1;have hiq:q≠i:=by
   rintro rfl
   rw [hsb] at hi;exact hnc e l (Option.some.inj hi)
  rw [List.getElem?_append_left (by simpa using hil),List.getElem?_set_ne hiq];exact hi
 unfold mvB at hm;split at hm
 ·rename_i q;split at hm
  ·rename_i t e l hsb;simp only [snJ,Prod.mk.injEq] at hm;obtain ⟨rfl,rfl⟩:=hm;obtain ⟨ρ',a1,a2,a3,a4⟩:=core q _ hsb rfl (fun _ _ _ _=>trivial) (fun _ _ h=>by cases h);exact ⟨ρ',a1,a3,a2,by simp [S0.lt],by simp,a4⟩
  ·rename_i m hsb;simp only [snJ,Prod.mk.injEq] at hm;obtain ⟨rfl,rfl⟩:=hm;obtain ⟨ρ',a1,a2,a3,a4⟩:=core q _ hsb rfl (fun _ _ _ _=>trivial) (fun _ _ h=>by cases h);exact ⟨ρ',a1,a3,a2,by simp [S0.lt],by simp,a4⟩
  ·rename_i t l hsb;simp only [snJ,Prod.mk.injEq] at hm;obtain ⟨rfl,rfl⟩:=hm;have hql:=(List.getElem?_eq_some_iff.1 hsb).1;obtain ⟨ρ',a1,a2,a3⟩:=h.more (.view t l) (ρ q) (h.ref q hql) (fun _ _=>h.sat q _ hsb) trivial (fun hx=>by cases hx);exact ⟨ρ',a1,a3,a2,by simp [S0.lt],by simp,fun i e l hi=>by rw [List.getElem?_append_left (List.getElem?_eq_some_iff.1 hi).1]; exact hi⟩
  ·cases hm
 ·rename_i q;split at hm
  ·rename_i ks e l hsb;simp only [snJ,Prod.mk.injEq] at hm;obtain ⟨rfl,rfl⟩:=hm;obtain ⟨ρ',a1,a2,a3,a4⟩:=core q _ hsb rfl (fun _ _ _ _=>trivial) (fun _ _ h=>by cases h);exact ⟨ρ',a1,a3,congrArg baseV a2,by simp [S0.lt],by simp,a4⟩
  ·cases hm
 ·cases hm
theorem mv_sat {ρ:Nat→Value} {S S':QS} {a:Act} {w:World} {d:Nat} {off:Option Nat} (h:SatQ E ρ S a w) (hc:mvQ S d off=some S'):∃ρ',SatQ E ρ' S' a w:=by
 unfold mvQ at hc;split at hc
 ·rename_i hh k hg;split at hc
  ·rename_i e l hsb;split at hc
   ·rename_i x hx;split at hc
    ·rename_i y hp' hm;simp only [snJ] at hc;subst hc;obtain ⟨ρ',a1,a2,a3,a4,a5,a6⟩:=mvB_sat h.hp hm;have hlt:=h.hp.lt hh _ hsb;have hhl:=(List.getElem?_eq_some_iff.1 hsb).1;have hd:(l.set k y).map (S0.den ρ')=l.map (S0.den ρ'):=by
      apply List.ext_getElem?;intro i;rw [List.getElem?_map,List.getElem?_map];by_cases hi:i=k
      ·subst hi;rw [List.getElem?_set_self (List.getElem?_eq_some_iff.1 hx).1,hx];simp only [Option.map_some];rw [a3,S0.den_congr a1 (hlt x (List.mem_of_getElem? hx))]
      ·rw [List.getElem?_set_ne (Ne.symm hi)]
     have hl2:∀z∈l.set k y,z.lt hp'.length:=fun z hz=>by
      rcases List.mem_or_eq_of_mem_set hz with hz | rfl
      ·exact S0.lt_mono (by omega) (hlt z hz)
      ·exact a4
     refine ⟨ρ',h.nd,h.sz,fun z hz=>?_,h.kn,heap_respell' a2 (a6 hh e l hsb) hd hl2,h.fr,by show E.n0≤(hp'.set hh _).length; have:=h.n0; simp; omega,fun i hi=>?_⟩
     ·exact (h.sl z hz).same a1 (by show _≤(hp'.set hh _).length; simp; omega)
     ·rw [a1 i (Nat.lt_of_lt_of_le hi h.n0)];exact h.ag i hi
    ·cases hc
   ·cases hc
  ·cases hc
 ·rename_i x hg;split at hc
  ·rename_i y hp' hm;simp only [snJ] at hc;subst hc;obtain ⟨ρ',a1,a2,a3,a4,a5,_⟩:=mvB_sat h.hp hm;refine ⟨ρ',h.nd,h.sz,fun z hz=>?_,h.kn,a2,h.fr,by show E.n0≤hp'.length; have:=h.n0; omega,fun i hi=>?_⟩
   ·rcases putS_mem hz with rfl | ⟨hz,_⟩
    ·refine ⟨fun hG=>?_,fun hn=>(hn (Hold.nil a)).elim,fun _=>a4⟩;rw [(h.get hg).1 hG];simp only [SV.den,SC.den,a3]
    ·exact (h.sl z hz).same a1 (by show _≤hp'.length; omega)
   ·rw [a1 i (Nat.lt_of_lt_of_le hi h.n0)];exact h.ag i hi
  ·cases hc
 ·cases hc
theorem selfP_den {ρ:Nat→Value} {h:Nat} {x y:S0} (hx:selfP h x=some y):y.den ρ=x.den ρ∧∀n,h<n→y.lt n:=by
 unfold selfP at hx;split at hx
 ·rename_i h';cases hb:Nat.beq h' h with
  | false=>rw [hb] at hx; simp at hx
  | true =>
   rw [hb] at hx;simp only [cnT,snJ] at hx;have:h'=h:=by simpa using hb
   subst hx this;exact ⟨rfl,fun n hn=>hn⟩
 ·simp only [snJ] at hx;subst hx;exact ⟨rfl,fun n hn=>hn⟩
 ·rename_i c h';cases hb:Nat.beq h' h with
  | false=>rw [hb] at hx; simp at hx
  | true =>
   rw [hb] at hx;simp only [cnT,snJ] at hx;have:h'=h:=by simpa using hb
   subst hx this;exact ⟨rfl,fun n hn=>hn⟩
 ·cases hx
theorem qC7 {X:Nat→Prop} {w0 w:World} {ρ:Nat→Value} {hp:List SB} (h:HpSat X w0 w ρ hp) {hh e:Nat} {l l':List S0} (hsb:hp[hh]?=some (.cells e l)) (hd:l'.map (S0.den ρ)=l.map (S0.den ρ)) (hl:∀y∈l',y.lt hp.length):HpSat X w0 w ρ (hp.set hh (.cells e l')) :=
 h.turn hh _ (.cells e l') hsb (fun _=>rfl) (fun k _ _=>rfl) (fun _ _=>rfl) (fun _ _ k _ _ _ _=>rfl) (by
  obtain ⟨b,hv,hb,hx⟩:=h.sat hh _ hsb;exact ⟨b,hv,by rw [hd]; exact hb,hx⟩) hl
theorem set_den {ρ:Nat→Value} {l:List S0} {k:Nat} {x y:S0} (hx:l[k]?=some x) (hy:y.den ρ=x.den ρ):(l.set k y).map (S0.den ρ)=l.map (S0.den ρ):=by
 apply List.ext_getElem?;intro i;rw [List.getElem?_map,List.getElem?_map];by_cases hi:i=k
 ·subst hi;have hlt:=(List.getElem?_eq_some_iff.1 hx).1;rw [List.getElem?_set_self hlt,hx];simp only [Option.map_some,hy]
 ·rw [List.getElem?_set_ne (Ne.symm hi)]
theorem set_lt {n k:Nat} {l:List S0} {y:S0} (hl:∀x∈l,x.lt n) (hy:y.lt n):∀x∈l.set k y,x.lt n:=by
 intro x hx;rcases List.mem_or_eq_of_mem_set hx with h | rfl
 ·exact hl x h
 ·exact hy
theorem self_sat {ρ:Nat→Value} {S S':QS} {a:Act} {w:World} {d:Nat} {off:Option Nat} (h:SatQ E ρ S a w) (hc:selfQ S d off=some S'):∃ρ',SatQ E ρ' S' a w:=by
 unfold selfQ at hc;split at hc
 ·rename_i hh k hg;split at hc
  ·rename_i e l hsb;split at hc
   ·rename_i x hx;obtain ⟨y,hy,hc⟩:=Option.bind_eq_some_iff.1 hc;simp only [snJ] at hc;subst hc;have hhl:=(List.getElem?_eq_some_iff.1 hsb).1;obtain ⟨hd,hl⟩:=selfP_den (ρ:=ρ) hy;have hp2:=qC7 h.hp hsb (set_den hx hd) (set_lt (h.hp.lt hh _ hsb) (hl _ hhl));exact ⟨ρ,h.nd,h.sz,fun z hz=>(h.sl z hz).same (fun _ _=>rfl) (by simp),h.kn,hp2,h.fr,by have:=h.n0; simpa using this,h.ag⟩
   ·cases hc
  ·cases hc
 ·cases hc
theorem thin_sat {ρ:Nat→Value} {S S':QS} {a:Act} {w:World} {d:Nat} (h:SatQ E ρ S a w) (hc:thinQ S d=some S'):∃ρ',SatQ E ρ' S' a w:=by
 unfold thinQ at hc;split at hc
 ·rename_i hh hg;split at hc
  ·rename_i t e l hsb;simp only [snJ] at hc;subst hc;have hhl:=(List.getElem?_eq_some_iff.1 hsb).1;obtain ⟨h1,h2⟩:=h.hp.sat hh _ hsb;have key:qCh (ρ hh) (ρ hh) 0 l.length t.sz∧qCf (ρ hh):=by
    rcases h1.2 with ⟨hv,hn0⟩ | ⟨g,cap,cur,hv,hbz,hg,hnc,hcm,hcs,htake⟩
    ·exact ⟨qCh.of t.sz_pos ⟨none,0,0,none,hv,by rw [hv,hn0],by omega,fun hlt=>by omega,fun _=>rfl⟩,by rw [hv]; trivial⟩
    ·exact ⟨qCh.of t.sz_pos ⟨some ⟨g,0,none⟩,_,cap,_,hv,by rw [hv]; rfl,by omega,fun hlt=>⟨_,rfl,by simp [Addr.add]⟩,fun _=>rfl⟩,by rw [hv]; trivial⟩
   obtain ⟨ρ1,a1,n1,s1⟩:=h.hp.more .dead (ρ hh) key.2 (fun _ _=>trivial) trivial (fun hx=>by cases hx);have hl1:(S.hp++[SB.dead]).length=S.hp.length+1:=by simp
   obtain ⟨ρ2,a2,n2,s2⟩:=s1.more (.part S.hp.length 0 l.length t.sz) (ρ hh) key.2 (fun ρ' hag=>by
    show qCh (ρ' S.hp.length) _ _ _ _;rw [hag S.hp.length (by omega),n1];exact key.1) (by show S.hp.length<_; omega) (fun hx=>by cases hx)
   have hag:∀i<S.hp.length,ρ2 i=ρ i:=fun i hi=>(a2 i (by omega)).trans (a1 i hi)
   have hlen:(S.hp++[SB.dead]++[SB.part S.hp.length 0 l.length t.sz]).length=S.hp.length+2:=by simp
   refine ⟨ρ2,h.nd,h.sz,fun x hx=>?_,h.kn,s2,h.fr,by show E.n0≤(S.hp++[SB.dead]++[SB.part S.hp.length 0 l.length t.sz]).length; have:=h.n0; omega,fun i hi=>?_⟩
   ·rcases putS_mem hx with rfl | ⟨hx,_⟩
    ·refine ⟨fun hG=>?_,fun hn=>(hn (Hold.nil a)).elim,fun _=>?_⟩
     ·rw [(h.get hg).1 hG];rw [hl1] at n2;simp only [SV.den,SC.den,S0.den,n2]
     ·show S.hp.length+1<(S.hp++[SB.dead]++[SB.part S.hp.length 0 l.length t.sz]).length;omega
    ·exact (h.sl x hx).same hag (by show _≤(S.hp++[SB.dead]++[SB.part S.hp.length 0 l.length t.sz]).length; omega)
   ·rw [hag i (Nat.lt_of_lt_of_le hi h.n0)];exact h.ag i hi
  ·simp only [snJ] at hc;subst hc;exact ⟨ρ,h⟩
  ·cases hc
 ·cases hc
theorem alias_sat {ρ:Nat→Value} {S S':QS} {a:Act} {w:World} {d:Nat} {off:Option Nat} (h:SatQ E ρ S a w) (hc:aliasQ S d off=some S'):∃ρ',SatQ E ρ' S' a w:=by
 unfold aliasQ at hc;split at hc
 ·rename_i hh k hg;split at hc
  ·rename_i e l hsb;split at hc
   ·rename_i q hx;split at hc
    ·rename_i t e' r hq;simp only [snJ] at hc;subst hc;have hhl:=(List.getElem?_eq_some_iff.1 hsb).1;have hql:=(List.getElem?_eq_some_iff.1 hq).1;obtain ⟨h1,h2⟩:=h.hp.sat q _ hq;have key:qCh (ρ q) (ρ q) 0 r.length t.sz∧qCf (ρ q):=by
      rcases h1.2 with ⟨hv,hn0⟩ | ⟨g,cap,cur,hv,hbz,hg,hnc,hcm,hcs,htake⟩
      ·exact ⟨qCh.of t.sz_pos ⟨none,0,0,none,hv,by rw [hv,hn0],by omega,fun hlt=>by omega,fun _=>rfl⟩,by rw [hv]; trivial⟩
      ·exact ⟨qCh.of t.sz_pos ⟨some ⟨g,0,none⟩,_,cap,_,hv,by rw [hv]; rfl,by omega,fun hlt=>⟨_,rfl,by simp [Addr.add]⟩,fun _=>rfl⟩,by rw [hv]; trivial⟩
     obtain ⟨ρ1,a1,n1,s1⟩:=h.hp.more (.part q 0 r.length t.sz) (ρ q) key.2 (fun ρ' hag=>by
      show qCh (ρ' q) _ _ _ _;rw [hag q hql];exact key.1) (by show q<_; omega) (fun hx=>by cases hx)
     have hlen:(S.hp++[SB.part q 0 r.length t.sz]).length=S.hp.length+1:=by simp
     have hsb1:(S.hp++[SB.part q 0 r.length t.sz])[hh]?=some (.cells e l):=by rw [List.getElem?_append_left hhl]; exact hsb
     have hd:S0.den ρ1 (.own S.hp.length)=S0.den ρ1 (.own q):=by
      show ρ1 _=ρ1 _;rw [n1,a1 q hql]
     have hlt:∀y∈l.set k (.own S.hp.length),S0.lt (S.hp++[SB.part q 0 r.length t.sz]).length y:=by
      rw [hlen];exact set_lt (fun y hy=>S0.lt_mono (Nat.le_succ _) ((h.hp.lt hh _ hsb) y hy)) (Nat.lt_succ_self S.hp.length)
     have hp2:=qC7 s1 hsb1 (set_den hx hd) hlt;have hlen2:((S.hp++[SB.part q 0 r.length t.sz]).set hh (.cells e (l.set k (.own S.hp.length)))).length=S.hp.length+1:=by rw [List.length_set,hlen]
     refine ⟨ρ1,h.nd,h.sz,fun z hz=>?_,h.kn,hp2,h.fr,by show E.n0≤((S.hp++[SB.part q 0 r.length t.sz]).set hh (.cells e (l.set k (.own S.hp.length)))).length; have:=h.n0; omega,fun i hi=>?_⟩
     ·exact (h.sl z hz).same a1 (by show _≤((S.hp++[SB.part q 0 r.length t.sz]).set hh (.cells e (l.set k (.own S.hp.length)))).length; omega)
     ·rw [a1 i (Nat.lt_of_lt_of_le hi h.n0)];exact h.ag i hi
    ·cases hc
   ·cases hc
  ·cases hc
 ·cases hc
theorem vrow_sat {ρ:Nat→Value} {S S':QS} {a:Act} {w:World} {d:Nat} (h:SatQ E ρ S a w) (hc:vrowQ S d=some S'):∃ρ',SatQ E ρ' S' a w:=by
 unfold vrowQ at hc;split at hc
 ·rename_i hh hg;split at hc
  ·rename_i t e l hsb;simp only [snJ] at hc;subst hc;obtain ⟨h1,h2⟩:=h.hp.sat hh _ hsb;have hp2:HpSat E.X E.w0 w ρ (S.hp.set hh (.vrow t l)):=h.hp.turn hh _ (.vrow t l) hsb (fun _=>rfl) (fun k _ _=>rfl) (fun _ _=>rfl) (fun _ _ k _ _ _ _=>rfl) (by
    rcases h1.2 with ⟨hv,hn0⟩ | ⟨g,cap,cur,hv,hbz,hg,hnc,hcm,hcs,htake⟩
    ·exact .inl ⟨0,hv,List.eq_nil_of_length_eq_zero hn0⟩
    ·obtain ⟨q1,q2,q3⟩:=h.hp.fp_lt3 hsb rfl (k:=g) (by rw [hv]; exact List.mem_singleton.2 rfl);exact .inr ⟨g,cap,hv,hnc,fun j u hu=>by
      have:=World.ownsRow.cells h1 (g:=g) (by rw [hv]; rfl) j u hu;rwa [qBb] at this,q1,q2,q3⟩) trivial
   exact ⟨ρ,h.nd,h.sz,fun z hz=>(h.sl z hz).same (fun _ _=>rfl) (by simp),h.kn,hp2,h.fr,by have:=h.n0; simpa using this,h.ag⟩
  ·simp only [snJ] at hc;subst hc;exact ⟨ρ,h⟩
  ·cases hc
 ·cases hc
theorem coers_sat {w:World}:∀ {co:List (Nat × Option Nat × ET × Nat)} {ρ:Nat→Value} {S S':QS} {a:Act},SatQ E ρ S a w→coersQ co S=some S'→∃ρ',SatQ E ρ' S' a w
 | [],ρ,S,S',a,h,hc=>by
  simp only [coersQ,snJ] at hc;subst hc;exact ⟨ρ,h⟩
 | (d,off,t,e)::r,ρ,S,S',a,h,hc=>by
  obtain ⟨S1,h1,h2⟩:=Option.bind_eq_some_iff.1 hc;obtain ⟨ρ1,hs1⟩:∃ρ',SatQ E ρ' S1 a w:=by
   cases hb6:Nat.ble 6000000 d with
   | true=>rw [hb6] at h1; exact vrow_sat h h1
   | false =>
   rw [hb6,cnF] at h1;cases hb5:Nat.ble 5000000 d with
   | true=>rw [hb5] at h1; exact alias_sat h h1
   | false =>
   rw [hb5,cnF] at h1;cases hb4:Nat.ble 4000000 d with
   | true=>rw [hb4] at h1; exact thin_sat h h1
   | false =>
   rw [hb4,cnF] at h1;cases hb3:Nat.ble 3000000 d with
   | true =>
    rw [hb3] at h1;simp only [cnT,snJ] at h1;subst h1;exact ⟨ρ,h.nd,h.sz,fun z hz=>(h.sl z hz).same (fun _ _=>rfl) (by simp),h.kn,h.hp.kill _,h.fr,by have:=h.n0; simpa using this,h.ag⟩
   | false =>
    rw [hb3] at h1;cases hb2:Nat.ble 2000000 d with
    | true=>rw [hb2] at h1; exact self_sat h h1
    | false =>
     rw [hb2] at h1;cases hb:Nat.ble 1000000 d with
     | true=>rw [hb] at h1; exact mv_sat h h1
     | false=>rw [hb] at h1; exact coer_sat h h1
  exact coers_sat hs1 h2
theorem post_sat {ρ:Nat→Value} {S S':QS} {a:Act} {w:World} {co:List (Nat × Option Nat × ET × Nat)} {keep:List Nat} (h:SatQ E ρ S a w) (hc:postQ E.n0 co keep S=some S'):∃ρ',SatQ E ρ' S' a w:=by
 obtain ⟨S1,h1,h2⟩:=Option.bind_eq_some_iff.1 hc;obtain ⟨ρ1,hs1⟩:=coers_sat h h1;exact canon_sat hs1 h2
theorem nod_prune {l0:List (Nat × GL × SV)} (hnod:nodSl l0=true):nodSl (qBr 1000000 0 l0)=true:=by
 have hhas:∀(j:Nat) (l:List (Nat × GL × SV)),hasS j l=false→hasS j (qBr 1000000 0 l)=false:=by
  intro j l;induction l with
  | nil=>intro _; rfl
  | cons x r ih =>
   obtain ⟨i,G,v⟩:=x;intro hj;simp only [hasS] at hj;cases hij:Nat.beq i j with
   | true=>rw [hij] at hj; simp at hj
   | false =>
    rw [hij] at hj;have ih':=ih (by simpa using hj);simp only [qBr];cases (bif Nat.blt i 1000000 then true else Nat.beq i 0) with
    | false=>exact ih'
    | true =>
     cases G with
     | nil=>simp only [cnT,hasS,hij,cnF]; exact ih'
     | cons g G=>exact ih'
 induction l0 with
 | nil=>rfl
 | cons x r ih =>
  obtain ⟨i,G,v⟩:=x;simp only [nodSl] at hnod;cases hh:hasS i r with
  | true=>rw [hh] at hnod; simp at hnod
  | false =>
   rw [hh] at hnod;have ih':=ih (by simpa using hnod);simp only [qBr];cases (bif Nat.blt i 1000000 then true else Nat.beq i 0) with
   | false=>exact ih'
   | true =>
    cases G with
    | nil=>simp only [cnT,nodSl,hhas i r hh,cnF]; exact ih'
    | cons g G=>exact ih'
def noPan (Q:Exit→Act→World→Prop):Exit→Act→World→Prop:=fun e a w=>Q e a w∧∀c,e≠.panic c
theorem qBg {R:Type} {Λ:Nat→SubQ} (hΓ:∀f C,Γ f=some C→qAi E.P f C) {r:R}:∀(ic:IQ),qDh Λ Γ E.n0 nv E.nt ic→∀(S:QS) (kn:QS→Option R) (kx:Nat→QS→Option R) (kr:QS→Option R) (Q:Exit→Act→World→Prop),
  (∀p a w,a.defers=E.df→Stays E.X E.w0 w→kx PANB (panS p)=some r→Q (.panic [{ v:=panV p,recovered:=false }]) a w)→(∀S' ρ a w,SatQ E ρ S' a w→kn S'=some r→Q .normal a w)→(∀id S' ρ a w,Nat.beq id PANB=false→SatQ E ρ S' a w→kx id S'=some r→Q (.exit id) a w)→(∀S' ρ a w,SatQ E ρ S' a w→kr S'=some r→Q .ret a w) →
  qA7 Λ Γ E.n0 nv E.nt ic S kn kx kr=some r→∀c,comp E.P raws c=some ic.erase→∀ρ a w,SatQ E ρ S a w→c.wp E.P Q a w
 | .bad,hso,S,kn,kx,kr,Q,hp,hn,hx,hr,h,c,hc,ρ,a,w,hs=>by cases h
 | .skip,hso,S,kn,kx,kr,Q,hp,hn,hx,hr,h,c,hc,ρ,a,w,hs=>by
  rcases comp_skip hc with rfl | ⟨l,rfl⟩
  ·exact wp_skip (hn S ρ a w hs h)
  ·exact wp_label (hn S ρ a w hs h)
 | .reg last none ops,hso,S,kn,kx,kr,Q,hp,hn,hx,hr,h,c,hc,ρ,a,w,hs=>by
  obtain ⟨id,l,rfl,h1⟩:=comp_reg hc;refine wp_region_list (opsQ_sound hΓ (K:=fun S'=>kn ⟨qBr nv last S'.sl,[],S'.hp⟩) ?_ hp l.toList ops h1 S ρ a w hs h);intro S' ρ' a' w' hs' hk;exact hn _ ρ' a' w' (hs'.prune last) hk
 | .reg last (some d) ops,hso,S,kn,kx,kr,Q,hp,hn,hx,hr,h,c,hc,ρ,a,w,hs=>by
  obtain ⟨id,l,is,rfl,h1,hpk,hmo,hok⟩:=comp_regD hc;simp only [qA7] at h;split at h
  ·rename_i hkn;cases hnod:nodSl S.sl with
   | false=>rw [hnod] at h; simp at h
   | true =>
    rw [hnod] at h;simp only [cnT] at h;refine wp_mono (Q:=noPan Q) ?_ fun e a w h=>h.1
    refine wp_region_any hmo ?_;have hs1:=hs.prune (nv:=1000000) 0;have hs2:SatQ E ρ ⟨qBr 1000000 0 S.sl,[],S.hp⟩ a { w with drawn:=w.drawn+1 }:=⟨hs1.nd,hs1.sz,hs1.sl,hs1.kn,⟨hs1.hp.ref,fun i sb hi=>SB.sat_keep (hs1.hp.sat i sb hi) (fun _ _ _=>rfl) (fun _ _=>rfl) (fun _ _ _=>rfl),hs1.hp.lt,hs1.hp.apart,hs1.hp.tab⟩,⟨hs1.fr.os,hs1.fr.output,hs1.fr.size,hs1.fr.block⟩,hs1.n0,hs1.ag⟩
    have hnod2:nodSl (qBr 1000000 0 S.sl)=true:=nod_prune hnod;have hrel:=hs2.relD rfl hnod2 (fun x hx=>(qC9 hx).2);have hrun:=qFu hΓ ops [] _ _ (fun m hm=>by cases hm) hrel h;have hvalid:∀f C,oldG Γ f=some C→Valid E.P f C:=fun f C hC=>by
     simp only [oldG,Option.map_eq_some_iff] at hC;obtain ⟨D,hD,rfl⟩:=hC;exact (hΓ f D hD).2.1
    have:=draw_sound (Γ:=oldG Γ) (raws:=raws) (nv:=nv) (E:=E) hvalid (Q:=noPan Q) h1 (by simp only [drawOK,Bool.and_eq_true] at hok; exact hok.1) (fun c a w h=>h.2 c rfl) (hp0:=S.hp) (ρ0:=ρ) (fun i sb hi=>hs.hp.lt i sb hi)
     (K:=fun So'=>∃S',RelD So' S'∧kn ⟨qBr nv last S'.sl,[],S'.hp⟩=some r)
     (fun S' ρ' a' w' hs' hv=>by
      obtain ⟨S2,hR,hk⟩:=hv;exact ⟨hn _ ρ' a' w' (hR.sat hs') hk,fun c hc=>by cases hc⟩)
     d ops (Array.replicate l.size false) hpk (by simp) (by simp only [drawOK,Bool.and_eq_true] at hok; exact hok.2) (by
      intro j o hj;rw [Array.getD_eq_getD_getElem?,Array.getElem?_replicate] at hj;split at hj <;> simp at hj) _ ρ a _ hs2.old (fun _ _=>rfl) (Nat.le_refl _) (Pre.start ⟨hs2.old.hp,hs2.old.fr⟩ fun i sb hi=>hs.hp.lt i sb hi) hrun
    have hlen:d.length=l.size:=by
     simp only [drawOK,Bool.and_eq_true] at hok;exact drawAll_len d _ (by simp) hok.2
    have h2:=wpAny_of_L _ _ _ _ this;rw [hlen] at h2;simpa using h2
  ·cases h
 | .regT last t,hso,S,kn,kx,kr,Q,hp,hn,hx,hr,h,c,hc,ρ,a,w,hs=>by
  obtain ⟨id,l,is,kt,rfl,h1,hpk,hmo,hnsel,hok⟩:=comp_regT hc;simp only [qA7] at h;split at h
  ·rename_i hkn;cases hnod:nodSl S.sl with
   | false=>rw [hnod] at h; simp at h
   | true =>
    rw [hnod] at h;simp only [cnT] at h;refine wp_mono (Q:=noPan Q) ?_ fun e a w h=>h.1
    refine wp_region_any hmo ?_;have hs1:=hs.prune (nv:=1000000) 0;have hs2:SatQ E ρ ⟨qBr 1000000 0 S.sl,[],S.hp⟩ a { w with drawn:=w.drawn+1 }:=⟨hs1.nd,hs1.sz,hs1.sl,hs1.kn,⟨hs1.hp.ref,fun i sb hi=>SB.sat_keep (hs1.hp.sat i sb hi) (fun _ _ _=>rfl) (fun _ _=>rfl) (fun _ _ _=>rfl),hs1.hp.lt,hs1.hp.apart,hs1.hp.tab⟩,⟨hs1.fr.os,hs1.fr.output,hs1.fr.size,hs1.fr.block⟩,hs1.n0,hs1.ag⟩
    have hrel:=hs2.relD rfl (nod_prune hnod) (fun x hx=>(qC9 hx).2);have hrun:=qCr hΓ t _ _ hrel h;have hvalid:∀f C,oldG Γ f=some C→Valid E.P f C:=fun f C hC=>by
     simp only [oldG,Option.map_eq_some_iff] at hC;obtain ⟨D,hD,rfl⟩:=hC;exact (hΓ f D hD).2.1
    have:=qE2 (Γ:=oldG Γ) (raws:=raws) (nv:=nv) (E:=E) hvalid (Q:=noPan Q) h1 hnsel (fun c a w h=>h.2 c rfl) (hp0:=S.hp) (ρ0:=ρ) (fun i sb hi=>hs.hp.lt i sb hi)
     (K:=fun So'=>∃S',RelD So' S'∧kn ⟨qBr nv last S'.sl,[],S'.hp⟩=some r)
     (fun S' ρ' a' w' hs' hv=>by
      obtain ⟨S2,hR,hk⟩:=hv;exact ⟨hn _ ρ' a' w' (hR.sat hs') hk,fun c hc=>by cases hc⟩)
     kt t false (Array.replicate l.size false) hpk (by simp) hok (by
      intro j o hj;rw [Array.getD_eq_getD_getElem?,Array.getElem?_replicate] at hj;split at hj <;> simp at hj) _ ρ a _ hs2.old (fun _ _=>rfl) (Nat.le_refl _) (Pre.start ⟨hs2.old.hp,hs2.old.fr⟩ fun i sb hi=>hs.hp.lt i sb hi) hrun
    simp only [Bool.false_eq_true,if_false] at this;have hlen:left (Array.replicate l.size false)=l.size:=by
     unfold left;simp [List.countP_replicate]
    have h2:=wpAny_of_L _ _ _ _ this;rw [hlen] at h2;simpa using h2
  ·cases h
 | .regL last d k ops io,hso,S,kn,kx,kr,Q,hp,hn,hx,hr,h,c,hc,ρ,a,w,hs=>by
  obtain ⟨id,l,is,rfl,h1,hpk,hik,⟨hgn,y,ys,hpv⟩,hmo,hok⟩:=comp_regL hc;simp only [qA7] at h;split at h
  ·rename_i hkn;cases hnod:nodSl S.sl with
   | false=>rw [hnod] at h; simp at h
   | true =>
    rw [hnod] at h;simp only [cnT] at h;refine wp_mono (Q:=noPan Q) ?_ fun e a w h=>h.1
    refine wp_region_any hmo ?_;have hs1:=hs.prune (nv:=1000000) 0;have hs2:SatQ E ρ ⟨qBr 1000000 0 S.sl,[],S.hp⟩ a { w with drawn:=w.drawn+1 }:=⟨hs1.nd,hs1.sz,hs1.sl,hs1.kn,⟨hs1.hp.ref,fun i sb hi=>SB.sat_keep (hs1.hp.sat i sb hi) (fun _ _ _=>rfl) (fun _ _=>rfl) (fun _ _ _=>rfl),hs1.hp.lt,hs1.hp.apart,hs1.hp.tab⟩,⟨hs1.fr.os,hs1.fr.output,hs1.fr.size,hs1.fr.block⟩,hs1.n0,hs1.ag⟩
    have hnod2:nodSl (qBr 1000000 0 S.sl)=true:=nod_prune hnod;have hrel:=hs2.relD rfl hnod2 (fun x hx=>(qC9 hx).2);have hrun:=qFu hΓ ops [] _ _ (fun m hm=>by cases hm) hrel h;have hvalid:∀f C,oldG Γ f=some C→Valid E.P f C:=fun f C hC=>by
     simp only [oldG,Option.map_eq_some_iff] at hC;obtain ⟨D,hD,rfl⟩:=hC;exact (hΓ f D hD).2.1
    have:=draw_soundL (Γ:=oldG Γ) (raws:=raws) (nv:=nv) (E:=E) hvalid (Q:=noPan Q) h1 (by simp only [drawOK,Bool.and_eq_true] at hok; exact hok.1) (fun c a w h=>h.2 c rfl) (hp0:=S.hp) (ρ0:=ρ) (fun i sb hi=>hs.hp.lt i sb hi) hik (by rw [hpv]; rfl) (by rw [hpv]; rfl) (by rw [hpv]; rfl) (by rw [hpv]; rfl) hgn
     (K:=fun So'=>∃S',RelD So' S'∧opQ Γ nv E.nt (fun _=>none) io ⟨qBr 1000000 0 S'.sl,[],S'.hp⟩ (fun S2=>kn ⟨qBr nv last S2.sl,[],S2.hp⟩)=some r)
     (fun S' ρ' a' w' hs' hv o ho=>by
      obtain ⟨S2,hR,hk⟩:=hv;obtain ⟨io',h3,h4⟩:=opers_at h1 k o (by simpa using ho);rw [hik] at h3;cases h3;obtain ⟨raw,hprim⟩:=oper_prim h4;refine opQ_sound hΓ (qGs hs' h4 (act:=True) (by rw [hgn]; rfl)).2 hprim (fun S3 ρ3 a3 w3 hs3 hk3=>?_) (hR.sat hs') (fun p w' _ h=>by cases h) hk;exact ⟨hn _ ρ3 a3 w3 (hs3.prune last) hk3,fun c hc=>by cases hc⟩)
     d ops (Array.replicate l.size false) hpk (by simp) (by simp only [drawOK,Bool.and_eq_true] at hok; exact hok.2) (by
      intro j o hj;rw [Array.getD_eq_getD_getElem?,Array.getElem?_replicate] at hj;split at hj <;> simp at hj) _ ρ a _ hs2.old (fun _ _=>rfl) (Nat.le_refl _) (Pre.start ⟨hs2.old.hp,hs2.old.fr⟩ fun i sb hi=>hs.hp.lt i sb hi) hrun
    have hlen:d.length+1=l.size:=by
     simp only [drawOK,Bool.and_eq_true] at hok;have:=drawAll_len (d++[k]) _ (by simp) hok.2;simpa using this
    have h2:=wpAny_of_L _ _ _ _ this;rw [hlen] at h2;simpa using h2
  ·cases h
 | .seq x y,hso,S,kn,kx,kr,Q,hp,hn,hx,hr,h,c,hc,ρ,a,w,hs=>by
  obtain ⟨c1,c2,rfl,h1,h2⟩:=comp_seq hc;refine wp_seq (qBg hΓ x hso.1 S (fun S'=>qA7 Λ Γ E.n0 nv E.nt y S' kn kx kr) kx kr (Exit.then (c2.wp E.P Q) Q) hp ?_ hx hr h c1 h1 ρ a w hs);intro S' ρ' a' w' hs' hk;exact qBg hΓ y hso.2 S' kn kx kr Q hp hn hx hr hk c2 h2 ρ' a' w' hs'
 | .cond x y z,hso,S,kn,kx,kr,Q,hp,hn,hx,hr,h,c,hc,ρ,a,w,hs=>by
  obtain ⟨o,c1,c2,rfl,h1,h2,h3⟩:=comp_cond hc;simp only [qA7] at h;split at h
  ·rename_i t ht;have hold:=hs.old;obtain ⟨p,e1,e2⟩:=(read_old hs.hold fun i G v hg hG=>⟨ρ,(hs.get hg).1 hG⟩).arg (act:=True) (fun _=>Hold.nil a) ht;have he:=(qAd hold.sl trivial h1 e1 e2).1;refine wp_cond_split he (fun ht=>?_) (fun ht=>?_)
   ·subst ht;exact qBg hΓ y hso.1 S kn kx kr Q hp hn hx hr h c1 h2 ρ a w hs
   ·subst ht;exact qBg hΓ z hso.2 S kn kx kr Q hp hn hx hr h c2 h3 ρ a w hs
  ·cases h
 | .block id b,hso,S,kn,kx,kr,Q,hp,hn,hx,hr,h,c,hc,ρ,a,w,hs=>by
  obtain ⟨c1,rfl,h1⟩:=comp_block hc;simp only [qA7] at h;cases hne:Nat.beq PANB id with
  | true=>rw [hne] at h; cases h
  | false =>
   rw [hne] at h;simp only [cnF] at h;refine wp_block (qBg hΓ b hso S kn (fun i S'=>bif Nat.beq i id then kn S' else kx i S') kr (Exit.inBlock id Q) (fun p a' w' hd hst hk=>?_) hn ?_ hr h c1 h1 ρ a w hs)
   ·rw [hne] at hk;exact hp p a' w' hd hst hk
   ·intro i S' ρ' a' w' hib hs' hk;by_cases hi:i=id
    ·subst hi;rw [nbeq.2 rfl] at hk;simpa [Exit.inBlock] using hn S' ρ' a' w' hs' hk
    ·rw [qDe hi] at hk;simpa [Exit.inBlock,hi] using hx i S' ρ' a' w' hib hs' hk
 | .loop keep b,hso,S,kn,kx,kr,Q,hp,hn,hx,hr,h,c,hc,ρ,a,w,hs=>by
  obtain ⟨c1,rfl,h1⟩:=comp_loop hc;simp only [qA7] at h;split at h
  ·rename_i S0 hS0;obtain ⟨n,hN⟩:=lfp_some h;obtain ⟨ρ0,hs0⟩:=canon_sat hs hS0;refine wp_loop_ghost (fun n a w=>∃S ρ,SatQ E ρ S a w∧loopN (fun S kk=>qA7 Λ Γ E.n0 nv E.nt b S kk kx kr) (canonQ E.n0 keep) n S=some r) n ⟨S0,ρ0,hs0,hN⟩ ?_;rintro n a w ⟨S1,ρ1,hs1,hl⟩
   cases n with
   | zero=>cases hl
   | succ n =>
    simp only [loopN] at hl;refine qBg hΓ b hso S1 _ kx kr (Exit.then (fun a' w'=>∃n',n'<n+1∧∃S ρ,SatQ E ρ S a' w'∧loopN (fun S kk=>qA7 Λ Γ E.n0 nv E.nt b S kk kx kr) (canonQ E.n0 keep) n' S=some r) Q) hp ?_ hx hr hl c1 h1 ρ1 a w hs1;intro S2 ρ2 a2 w2 hs2 hk;obtain ⟨S3,hS3,hk⟩:=Option.bind_eq_some_iff.1 hk;obtain ⟨ρ3,hs3⟩:=canon_sat hs2 hS3;exact ⟨n,Nat.lt_succ_self n,S3,ρ3,hs3,hk⟩
  ·cases h
 | .unroll m b,hso,S,kn,kx,kr,Q,hp,hn,hx,hr,h,c,hc,ρ,a,w,hs=>by
  obtain ⟨c1,rfl,h1⟩:=comp_loop hc;simp only [qA7] at h;refine wp_loop_ghost (fun n a w=>∃S ρ,SatQ E ρ S a w∧loopN (fun S kk=>qA7 Λ Γ E.n0 nv E.nt b S kk kx kr) some n S=some r) m ⟨S,ρ,hs,h⟩ ?_;rintro n a w ⟨S1,ρ1,hs1,hl⟩
  cases n with
  | zero=>cases hl
  | succ n =>
   simp only [loopN] at hl;refine qBg hΓ b hso S1 _ kx kr (Exit.then (fun a' w'=>∃n',n'<n+1∧∃S ρ,SatQ E ρ S a' w'∧loopN (fun S kk=>qA7 Λ Γ E.n0 nv E.nt b S kk kx kr) some n' S=some r) Q) hp ?_ hx hr hl c1 h1 ρ1 a w hs1;intro S2 ρ2 a2 w2 hs2 hk;exact ⟨n,Nat.lt_succ_self n,S2,ρ2,hs2,hk⟩
 | .exit id,hso,S,kn,kx,kr,Q,hp,hn,hx,hr,h,c,hc,ρ,a,w,hs=>by
  cases comp_exit hc;simp only [qA7] at h;cases hne:Nat.beq id PANB with
  | true=>rw [hne] at h; cases h
  | false =>
   rw [hne] at h;exact wp_exit (hx id S ρ a w hne hs h)
 | .ret,hso,S,kn,kx,kr,Q,hp,hn,hx,hr,h,c,hc,ρ,a,w,hs=>by
  cases comp_ret hc;exact wp_ret (hr S ρ a w hs h)
 | .canon co keep b,hso,S,kn,kx,kr,Q,hp,hn,hx,hr,h,c,hc,ρ,a,w,hs=>by
  simp only [qA7] at h;obtain ⟨S2,hS2,hk⟩:=Option.bind_eq_some_iff.1 h;obtain ⟨ρ2,hs2⟩:=post_sat hs hS2;exact qBg hΓ b hso S2 kn kx kr Q hp hn hx hr hk c hc ρ2 a w hs2
 | .join co keep b,hso,S,kn,kx,kr,Q,hp,hn,hx,hr,h,c,hc,ρ,a,w,hs=>by
  refine qBg hΓ b hso S _ kx kr Q hp ?_ hx hr h c hc ρ a w hs;intro S1 ρ1 a1 w1 hs1 hk;obtain ⟨S2,hS2,hk⟩:=Option.bind_eq_some_iff.1 hk;obtain ⟨ρ2,hs2⟩:=post_sat hs1 hS2;exact hn S2 ρ2 a1 w1 hs2 hk
 | .sub i b,hso,S,kn,kx,kr,Q,hp,hn,hx,hr,h,c,hc,ρ,a,w,hs=>by
  simp only [qA7] at h;exact qBg hΓ b hso.2 S kn kx kr Q hp hn hx hr (hso.1 S R kn kx kr r h) c hc ρ a w hs
end
def rvQ (S:QS):RV→Option SC
 | .tmp t=>match getQ S.sl t with
  | some ([],.c x)=>some x
  | _=>none
 | .cell a n=>match getQ S.sl a with
  | some ([],.c (.o (.hd h off)))=>match S.hp[h]? with
   | some (.cells _ l)=>match n with
    | none=>match l[off]? with
     | some x=>some (.o x)
     | none=>none
    | some m=>bif Nat.ble (off+m) l.length then some (.agg (qBq l off m)) else none
   | _=>none
  | _=>none
def resQ (S:QS):List RV→Option (List SC)
 | []=>some []
 | x::r=>match rvQ S x,resQ S r with
  | some v,some l=>some (v::l)
  | _,_=>none
section
variable {R:Type}
noncomputable def finQ (n0:Nat) (rv:List RV) (S:QS) (k:SV→List SB→Option R):Option R :=
 match resQ S rv with
 | some l =>
  let θ:=closeH S.hp 60 0 (hsCs l (List.range n0))
  bif (bif qEd θ then (bif headOK n0 0 θ then inCs θ l else false) else false) then (match mvHp S.hp θ θ with
   | some hp'=>k (mkRes (mvCs θ l)) hp'
   | none=>none) else none
 | none=>none
def argSlQ:Nat→List SV→List (Nat × GL × SV)
 | _,[]=>[]
 | i,v::r=>(i,[],v)::argSlQ (i+1) r
noncomputable def fnQ (Λ:Nat→SubQ) (Γ:Nat→Option CQ) (nv nt:Nat) (ic:IQ) (rv:List RV) (args:List SV) (hp:List SB) (k:SV→List SB→Option R):Option R :=
 qA7 Λ Γ hp.length nv nt ic ⟨argSlQ 0 args,[],hp⟩ (fun S=>finQ hp.length rv S k) (fun _ _=>none) (fun S=>finQ hp.length rv S k)
end
theorem rvQ_rel {S:QS} {a:Act} {x:RV} {v:SC} (h:rvQ S x=some v):∃p,rvE (qEm S a) x=some (p,v)∧p:=by
 cases x with
 | tmp t =>
  simp only [rvQ] at h;split at h
  ·rename_i y hg;simp only [snJ] at h;subst h;exact ⟨_,by simp only [rvE,qEm,qFw,hg,Option.map_some],Hold.nil a⟩
  ·cases h
 | cell c n =>
  simp only [rvQ] at h;split at h
  ·rename_i hh off hg;split at h
   ·rename_i e l hsb;have hsb':(qEm S a).hp[hh]?=some (.cells e l):=hsb;cases n with
    | none =>
     simp only at h;split at h
     ·rename_i y hy;simp only [snJ] at h;subst h;exact ⟨_,by simp only [rvE,qEm,qFw,hg,Option.map_some,hsb,hy],Hold.nil a⟩
     ·cases h
    | some m =>
     simp only at h;cases hb:Nat.ble (off+m) l.length with
     | false=>rw [hb] at h; simp at h
     | true =>
      rw [hb] at h;simp only [cnT,snJ] at h;subst h;exact ⟨_,by simp only [rvE,qEm,qFw,hg,Option.map_some,hsb,hb,cnT],Hold.nil a⟩
   ·cases h
  ·cases h
theorem resQ_rel {S:QS} {a:Act}:∀ {rv:List RV} {l:List SC},resQ S rv=some l→∃p,resE (qEm S a) rv=some (p,l)∧p
 | [],l,h=>by
  simp only [resQ,snJ] at h;subst h;exact ⟨True,rfl,tV⟩
 | x::r,l,h=>by
  simp only [resQ] at h;split at h
  ·rename_i v m h1 h2;simp only [snJ] at h;subst h;obtain ⟨p,e1,e2⟩:=rvQ_rel (a:=a) h1;obtain ⟨q,e3,e4⟩:=resQ_rel (a:=a) h2;exact ⟨p∧q,by simp only [resE,e1,e3],e2,e4⟩
  ·cases h
theorem mkRes_mv {θ:List Nat} {ρ:Nat→Value} {l:List SC} (h:inCs θ l=true):(mkRes (mvCs θ l)).den (fun i=>ρ (θ.getD i 0))=(mkRes l).den ρ∧(mkRes (mvCs θ l)).lt θ.length:=by
 have hi:=inCs_iff h;rcases l with _ | ⟨x,_ | ⟨y,r⟩⟩
 ·exact ⟨rfl,fun v hv=>by simp [mvCs] at hv⟩
 ·exact ⟨SC.mv_den (hi x (by simp)),SC.mv_lt (hi x (by simp))⟩
 ·have h1:(SV.tup (x::y::r)).inB θ=true:=h;exact ⟨SV.mv_den h1,SV.mv_lt h1⟩
theorem fn_soundK {P:Program} {f:Nat} {raws:List Nat} {ic:IQ} {rv:List RV} {nt:Nat} (hc:chk P f raws=some (ic.erase,rv,nt)) (nv:Nat) {Λ:Nat→SubQ} {Γ:Nat→Option CQ} (hΓ:∀f C,Γ f=some C→qAi P f C)
  {args:List SV} {hp:List SB} (hso:qDh Λ Γ hp.length nv nt ic) (hal:args.length≤nt) {X:Nat→Prop} {w0 w:World} {ρ:Nat→Value} (hhp:HpSat X w0 w ρ hp) (hst:Stays X w0 w) (hlt:∀v∈args,v.lt hp.length) {R:Type} {k:SV→List SB→Option R} {r:R}
  (h:fnQ Λ Γ nv nt ic rv args hp k=some r) :
  Calls P f (args.map (SV.den ρ)).toArray w fun e w'=>∃v hp' ρ',(∀i<hp.length,ρ' i=ρ i)∧hp.length≤hp'.length∧e=.returned (v.den ρ')∧v.lt hp'.length∧HpSat X w0 w' ρ' hp'∧Stays X w0 w'∧k v hp'=some r:=by
 unfold chk at hc;split at hc
 ·rename_i fn hf;split at hc
  ·rename_i c hb;split at hc
   ·rename_i ic' rv' hcc hrr;simp only [snJ,Prod.mk.injEq] at hc;obtain ⟨rfl,rfl,hnt⟩:=hc;refine calls_of_wp hf hb ?_;have hs:SatQ ⟨P,nt,X,w0,hp.length,ρ,[]⟩ ρ ⟨argSlQ 0 args,[],hp⟩ { tmps:=(args.map (SV.den ρ)).toArray++Array.replicate (fn.ntmps - (args.map (SV.den ρ)).toArray.size) undef,defers:=[] } w:=by
     refine ⟨rfl,?_,?_,fun g hg=>by simp at hg,hhp,hst,Nat.le_refl _,fun _ _=>rfl⟩
     ·simp [hnt]; omega
     ·have key:∀(l:List SV) (n:Nat) (x:Nat × GL × SV),x∈argSlQ n l→x.2.1=[]∧n≤x.1∧l[x.1 - n]?=some x.2.2:=by
       intro l;induction l with
       | nil=>intro n x hx; simp [argSlQ] at hx
       | cons v r ih =>
        intro n x hx;simp only [argSlQ,List.mem_cons] at hx;rcases hx with rfl | hx
        ·exact ⟨rfl,Nat.le_refl _,by simp⟩
        ·obtain ⟨h1,h2,h3⟩:=ih (n+1) x hx;refine ⟨h1,by omega,?_⟩;rw [show x.1 - n=(x.1 - (n+1))+1 by omega];simpa using h3
      intro x hx;obtain ⟨h1,_,h3⟩:=key args 0 x hx;simp only [Nat.sub_zero] at h3;have hlt':x.1<args.length:=(List.getElem?_eq_some_iff.1 h3).1;refine ⟨fun _=>?_,fun hn=>(hn (by rw [h1]; exact Hold.nil _)).elim,fun _=>hlt _ (List.mem_of_getElem? h3)⟩;rw [Array.getElem?_append_left (by simpa using hlt')];simp [h3]
    have main:∀a w' S' ρ',SatQ ⟨P,nt,X,w0,hp.length,ρ,[]⟩ ρ' S' a w'→finQ hp.length rv' S' k=some r →
      a.defers=[]∧∃v1,(results fn a.tmps).run P w'=.ok v1 w'∧∃v hp' ρ',(∀i<hp.length,ρ' i=ρ i)∧hp.length≤hp'.length∧Ending.returned v1=.returned (v.den ρ')∧v.lt hp'.length∧HpSat X w0 w' ρ' hp'∧Stays X w0 w'∧k v hp'=some r:=by
     intro a w' S' ρ' hs' hfin;unfold finQ at hfin;split at hfin
     ·rename_i l hres;simp only at hfin;generalize hθ:closeH S'.hp 60 0 (hsCs l (List.range hp.length))=θ at hfin
      cases hn:qEd θ with
      | false=>rw [hn] at hfin; simp at hfin
      | true =>
       rw [hn] at hfin;simp only [cnT] at hfin;cases hh:headOK hp.length 0 θ with
       | false=>rw [hh] at hfin; simp at hfin
       | true =>
        rw [hh] at hfin;simp only [cnT] at hfin;cases hin:inCs θ l with
        | false=>rw [hin] at hfin; simp at hfin
        | true =>
         rw [hin] at hfin;simp only [cnT] at hfin;split at hfin
         ·rename_i hp2 hmv;obtain ⟨p,r1,r2⟩:=resQ_rel (a:=a) hres;obtain ⟨e1,e2⟩:=results_run hs'.old hrr r1 r2;obtain ⟨g1,g2⟩:=heap_mv hs'.hp hn hmv;obtain ⟨k1,k2⟩:=headOK_spec hh;obtain ⟨m1,m2⟩:=mkRes_mv (ρ:=ρ') hin;refine ⟨hs'.nd,_,e1,_,_,fun i=>ρ' (θ.getD i 0),fun i hi=>?_,by omega,by rw [m1],by rw [g2]; exact m2,g1,hs'.fr,hfin⟩;have:=k2 i (by omega) hi;simp only [Nat.sub_zero] at this;simp only [this];exact hs'.ag i hi
         ·cases hfin
     ·cases hfin
    refine qBg (E:=⟨P,nt,X,w0,hp.length,ρ,[]⟩) (nv:=nv) hΓ ic hso _ _ _ _ (bodyPost P fn _) ?_ ?_ ?_ ?_ h c hcc ρ _ w hs
    ·exact fun p a w' hd hst hk=>by cases hk
    ·exact fun S' ρ' a w' hs' hk=>main a w' S' ρ' hs' hk
    ·exact fun id S' ρ' a w' hne hs' hk=>by cases hk
    ·exact fun S' ρ' a w' hs' hk=>main a w' S' ρ' hs' hk
   ·cases hc
  ·cases hc
 ·cases hc
theorem fn_sound {P:Program} {f:Nat} {raws:List Nat} {ic:IQ} {rv:List RV} {nt:Nat} (hc:chk P f raws=some (ic.erase,rv,nt)) (nv:Nat) {Λ:Nat→SubQ} {Γ:Nat→Option CQ} (hΓ:∀f C,Γ f=some C→qAi P f C)
  {args:List SV} {hp:List SB} (hso:qDh Λ Γ hp.length nv nt ic) (hal:args.length≤nt) {X:Nat→Prop} {w:World} {ρ:Nat→Value} (hhp:HpSat X w w ρ hp) (hlt:∀v∈args,v.lt hp.length) {v:SV} {hp':List SB}
  (h:fnQ Λ Γ nv nt ic rv args hp (fun v hp'=>some (v,hp'))=some (v,hp')) :
  Calls P f (args.map (SV.den ρ)).toArray w fun e w'=>∃ρ',(∀i<hp.length,ρ' i=ρ i)∧hp.length≤hp'.length∧e=.returned (v.den ρ')∧v.lt hp'.length∧HpSat X w w' ρ' hp'∧Stays X w w':=by
 refine (fn_soundK hc nv hΓ hso hal hhp (Stays.refl _ _) hlt h).mono ?_;rintro e w' ⟨v2,hp2,ρ',h1,h2,h3,h4,h5,h6,h7⟩
 simp only [snJ,Prod.mk.injEq] at h7;obtain ⟨rfl,rfl⟩:=h7;exact ⟨ρ',h1,h2,h3,h4,h5,h6⟩
noncomputable def inlQ (Γ:Nat→Option CQ) (nv nt:Nat) (ic:IQ) (rv:List RV):CQ:=.inl fun args hp R k=>bif Nat.ble args.length nt then fnQ (fun _ _ _ _ _ _=>none) Γ nv nt ic rv args hp k else none
noncomputable def toInl:CQ→CQ
 | .quiet C=>.inl fun args hp R k=>C args hp R fun v=>k v hp
 | .loud C=>.inl fun args hp R k=>C args hp R k
 | .any C=>.inl fun _ _ _ _=>none
 | .pan C=>.inl fun _ _ _ _=>none
 | .inl C=>.inl C
def bodyB (P:Program) (f:Nat):Bool:=match P.funcs[f]? with
 | some fn=>fn.body.isSome && fn.name != "runtime.NumGoroutine"
 | none=>false
theorem bodyB_ok {P:Program} {f:Nat} (h:bodyB P f=true):BodyOK P f:=by
 unfold bodyB at h;split at h
 ·rename_i fn hf;rw [Bool.and_eq_true] at h;exact ⟨fn,hf,h.1,by simpa using h.2⟩
 ·cases h
theorem inl_intro {P:Program} {f:Nat} {C:List SV→List SB→(R:Type)→(SV→List SB→Option R)→Option R} (hb:BodyOK P f) (h:∀(args:List SV) (hp:List SB) (R:Type) (k:SV→List SB→Option R) (r:R),C args hp R k=some r→(∀v∈args,v.lt hp.length)→∀(X:Nat→Prop) (w0 w:World) (ρ:Nat→Value),HpSat X w0 w ρ hp→Stays X w0 w →
   Calls P f (args.map (SV.den ρ)).toArray w fun e w'=>∃v hp' ρ',(∀i<hp.length,ρ' i=ρ i)∧hp.length≤hp'.length∧e=.returned (v.den ρ')∧v.lt hp'.length∧HpSat X w0 w' ρ' hp'∧Stays X w0 w'∧k v hp'=some r):qAi P f (.inl C):=by
 have h1:Valid P f (oldC (.inl C)):=fun args hp p r q h=>by cases h
 have h2:anyQ P f (.inl C):=⟨hb,h⟩;exact ⟨trivial,h1,h2⟩
theorem inl_valid {P:Program} {f:Nat} {raws:List Nat} {ic:IQ} {rv:List RV} {nt:Nat} (hc:chk P f raws=some (ic.erase,rv,nt)) (hb:bodyB P f=true) (nv:Nat) {Γ:Nat→Option CQ} (hΓ:∀f C,Γ f=some C→qAi P f C) (hs:subsL ic=[]):qAi P f (inlQ Γ nv nt ic rv):=by
 refine inl_intro (bodyB_ok hb) fun args hp R k r h hlt X w0 w ρ hhp hst=>?_
 cases hal:Nat.ble args.length nt with
 | false=>rw [hal] at h; cases h
 | true =>
  rw [hal] at h;exact fn_soundK hc nv hΓ (qDi (by rw [hs]; trivial)) (Nat.le_of_ble_eq_true hal) hhp hst hlt h
theorem qB5 {P:Program} {f:Nat} (hb:bodyB P f=true) {C:CQ} (hv:qAi P f C):qAi P f (toInl C):=by
 cases C with
 | any C=>exact inl_intro (bodyB_ok hb) fun args hp R k r h=>by cases h
 | pan C=>exact inl_intro (bodyB_ok hb) fun args hp R k r h=>by cases h
 | inl C=>exact hv
 | quiet C =>
  refine inl_intro (bodyB_ok hb) fun args hp R k r h hlt X w0 w ρ hhp hst=>?_
  obtain ⟨v,hv1,hv2⟩:=hv.1 _ _ _ _ _ h;have hV:=hv.2.1 args hp True v none (by simp only [oldC,hv1]) trivial hlt;refine (hV.2 X w0 w ρ hhp hst).mono ?_;rintro e w' ⟨rfl,hc⟩
  exact ⟨v,hp,ρ,fun _ _=>rfl,Nat.le_refl _,rfl,hV.1,hc.1,hc.2,hv2⟩
 | loud C =>
  refine inl_intro (bodyB_ok hb) fun args hp R k r h hlt X w0 w ρ hhp hst=>?_
  obtain ⟨v,hp',hv1,hv2⟩:=hv.1 _ _ _ _ _ h;have hV:=hv.2.1 args hp True v (some hp') (by simp only [oldC,hv1]) trivial hlt;refine (hV.2.2 X w0 w ρ hhp hst).mono ?_;rintro e w' ⟨ρ',hag,rfl,h4,h5⟩
  exact ⟨v,hp',ρ',hag,hV.2.1,rfl,hV.1,h4,h5,hv2⟩
end Go.Eng
