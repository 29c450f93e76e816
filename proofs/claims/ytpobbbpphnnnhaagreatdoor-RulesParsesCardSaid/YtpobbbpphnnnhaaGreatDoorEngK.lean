/-
  Texts of a claim.
-/
import Derived.Test.YtpobbbpphnnnhaaGreatDoorEngJ
namespace Go.Eng
set_option linter.unusedVariables false
set_option linter.unusedSimpArgs false
def oldC:CQ→Con
 | .any _=>fun _ _=>none
 | .inl _=>fun _ _=>none
 | .pan _=>fun _ _=>none
 | .quiet C=>fun args hp=>match C args hp SV some with
  | some v=>some (True,v,none)
  | none=>none
 | .loud C=>fun args hp=>match C args hp (SV × List SB) (fun v hp'=>some (v,hp')) with
  | some (v,hp')=>some (True,v,some hp')
  | none=>none
def natQ:CQ→Prop
 | .any _=>True
 | .inl _=>True
 | .pan C=>∀args hp (R:Type) (k:SV→List SB→Option R) (kp:PV→Option R) r,C args hp R k kp=some r→∃o,C args hp ((SV × List SB) ⊕ PV) (fun v hp'=>some (.inl (v,hp'))) (fun p=>some (.inr p))=some o∧Sum.elim (fun x=>k x.1 x.2) kp o=some r
 | .quiet C=>∀args hp (R:Type) (k:SV→Option R) r,C args hp R k=some r→∃v,C args hp SV some=some v∧k v=some r
 | .loud C=>∀args hp (R:Type) (k:SV→List SB→Option R) r,C args hp R k=some r→∃v hp',C args hp (SV × List SB) (fun v hp'=>some (v,hp'))=some (v,hp')∧k v hp'=some r
def BodyOK (P:Program) (f:Nat):Prop:=∃fn,P.funcs[f]?=some fn∧fn.body.isSome=true∧fn.name ≠ "runtime.NumGoroutine"
def PanPost (X:Nat→Prop) (w0:World) (hp:List SB) (ρ:Nat→Value) (o:(SV × List SB) ⊕ PV) (e:Ending) (w':World):Prop :=
 match o with
 | .inl (v,hp')=>∃ρ',(∀i<hp.length,ρ' i=ρ i)∧hp.length≤hp'.length∧e=.returned (v.den ρ')∧v.lt hp'.length∧HpSat X w0 w' ρ' hp'∧Stays X w0 w'
 | .inr p=>e=.panicked [{ v:=panV p,recovered:=false }]∧Stays X w0 w'
def anyQ (P:Program) (f:Nat):CQ→Prop
 | .any C=>∀(args:List SV) (hp:List SB) (k:IntKind) (p:Int→Prop),C args hp=some (k,p)→(∀v∈args,v.lt hp.length)→∀(X:Nat→Prop) (w0 w:World) (ρ:Nat→Value),HpSat X w0 w ρ hp→Stays X w0 w →
   Calls P f (args.map (SV.den ρ)).toArray w fun e w'=>∃n,p n∧e=.returned (.int k n)∧HpSat X w0 w' ρ hp∧Stays X w0 w'
 | .inl C=>BodyOK P f∧∀(args:List SV) (hp:List SB) (R:Type) (k:SV→List SB→Option R) (r:R),C args hp R k=some r→(∀v∈args,v.lt hp.length)→∀(X:Nat→Prop) (w0 w:World) (ρ:Nat→Value),HpSat X w0 w ρ hp→Stays X w0 w →
   Calls P f (args.map (SV.den ρ)).toArray w fun e w'=>∃v hp' ρ',(∀i<hp.length,ρ' i=ρ i)∧hp.length≤hp'.length∧e=.returned (v.den ρ')∧v.lt hp'.length∧HpSat X w0 w' ρ' hp'∧Stays X w0 w'∧k v hp'=some r
 | .pan C=>∀(args:List SV) (hp:List SB) (o:(SV × List SB) ⊕ PV),C args hp ((SV × List SB) ⊕ PV) (fun v hp'=>some (.inl (v,hp'))) (fun p=>some (.inr p))=some o→(∀v∈args,v.lt hp.length)→∀(X:Nat→Prop) (w0 w:World) (ρ:Nat→Value),HpSat X w0 w ρ hp→Stays X w0 w →
   Calls P f (args.map (SV.den ρ)).toArray w fun e w'=>PanPost X w0 hp ρ o e w'
 | _=>True
def qAg (P:Program) (f:Nat) (C:CQ):Prop:=natQ C∧Valid P f (oldC C)∧anyQ P f C
def oldG (Γ:Nat→Option CQ) (f:Nat):Option Con:=(Γ f).map oldC
def EntS (ρ:Nat→Value) (a:Act) (n:Nat) (x:Nat × GL × SV):Prop :=
 (Hold a x.2.1→a.tmps[x.1]?=some (x.2.2.den ρ))∧(¬Hold a x.2.1→a.tmps[x.1]?=some undef)∧(Hold a x.2.1→x.2.2.lt n)
structure SatQ (E:Env) (ρ:Nat→Value) (S:QS) (a:Act) (w:World):Prop where
 nd:a.defers=E.df
 sz:a.tmps.size=E.nt
 sl:∀x∈S.sl,EntS ρ a S.hp.length x
 kn:∀g∈S.kn,a.tmps[g.1]?=some (.bool g.2)
 hp:HpSat E.X E.w0 w ρ S.hp
 fr:Stays E.X E.w0 w
 n0:E.n0≤S.hp.length
 ag:∀i<E.n0,ρ i=E.ρ0 i
theorem qE8 {i:Nat} {e:GL × SV}:∀ {l:List (Nat × GL × SV)},getQ l i=some e→(i,e)∈l
 | [],h=>by simp [getQ] at h
 | (j,x)::r,h=>by
  simp only [getQ] at h;by_cases hj:j=i
  ·rw [nbeq.2 hj] at h;simp only [cnT,snJ] at h;subst h hj;exact List.mem_cons.2 (.inl rfl)
  ·rw [qFq hj] at h;exact List.mem_cons.2 (.inr (qE8 (by simpa using h)))
theorem SatQ.old {E:Env} {ρ:Nat→Value} {S:QS} {a:Act} {w:World} (h:SatQ E ρ S a w):Sat E ρ (qE2 S a) a w:=by
 refine ⟨h.nd,h.sz,?_,h.hp,h.fr,h.n0,h.ag⟩;intro i c v hg;simp only [qE2,qGi,Option.map_eq_some_iff,Prod.mk.injEq] at hg;obtain ⟨⟨G,u⟩,h1,rfl,rfl⟩:=hg;exact h.sl _ (qE8 h1)
theorem SatQ.hold {E:Env} {ρ:Nat→Value} {S:QS} {a:Act} {w:World} (h:SatQ E ρ S a w):Hold a S.kn:=h.kn
theorem SatQ.get {E:Env} {ρ:Nat→Value} {S:QS} {a:Act} {w:World} (h:SatQ E ρ S a w) {i:Nat} {G:GL} {v:SV} (hg:getQ S.sl i=some (G,v)):EntS ρ a S.hp.length (i,G,v):=h.sl _ (qE8 hg)
theorem dropG_mem {d:Nat} {x:Nat × GL × SV}:∀ {l:List (Nat × GL × SV)},x∈dropG d l→x∈l∧ment d x.2.1=false
 | [],h=>by simp [dropG] at h
 | y::r,h=>by
  simp only [dropG] at h;cases hm:ment d y.2.1 with
  | true =>
   rw [hm] at h;obtain ⟨h1,h2⟩:=dropG_mem (l:=r) (by simpa using h);exact ⟨List.mem_cons.2 (.inr h1),h2⟩
  | false =>
   rw [hm] at h;simp only [cnF,List.mem_cons] at h;rcases h with rfl | h
   ·exact ⟨List.mem_cons.2 (.inl rfl),hm⟩
   ·obtain ⟨h1,h2⟩:=dropG_mem (l:=r) h;exact ⟨List.mem_cons.2 (.inr h1),h2⟩
theorem delS_mem {d:Nat} {x:Nat × GL × SV}:∀ {l:List (Nat × GL × SV)},x∈delS d l→x∈l∧x.1≠d
 | [],h=>by simp [delS] at h
 | y::r,h=>by
  simp only [delS] at h;by_cases hy:y.1=d
  ·rw [nbeq.2 hy] at h;obtain ⟨h1,h2⟩:=delS_mem (l:=r) (by simpa using h);exact ⟨List.mem_cons.2 (.inr h1),h2⟩
  ·rw [qFq hy] at h;simp only [cnF,List.mem_cons] at h;rcases h with rfl | h
   ·exact ⟨List.mem_cons.2 (.inl rfl),hy⟩
   ·obtain ⟨h1,h2⟩:=delS_mem (l:=r) h;exact ⟨List.mem_cons.2 (.inr h1),h2⟩
theorem delK_mem {d:Nat} {x:Nat × Bool}:∀ {l:GL},x∈delK d l→x∈l∧x.1≠d
 | [],h=>by simp [delK] at h
 | y::r,h=>by
  simp only [delK] at h;by_cases hy:y.1=d
  ·rw [nbeq.2 hy] at h;obtain ⟨h1,h2⟩:=delK_mem (l:=r) (by simpa using h);exact ⟨List.mem_cons.2 (.inr h1),h2⟩
  ·rw [qFq hy] at h;simp only [cnF,List.mem_cons] at h;rcases h with rfl | h
   ·exact ⟨List.mem_cons.2 (.inl rfl),hy⟩
   ·obtain ⟨h1,h2⟩:=delK_mem (l:=r) h;exact ⟨List.mem_cons.2 (.inr h1),h2⟩
theorem repS_mem {i:Nat} {e:GL × SV} {x:Nat × GL × SV}:∀ {l:List (Nat × GL × SV)},x∈repS l i e→x=(i,e)∨(x∈l∧x.1≠i)
 | [],h=>by simp [repS] at h
 | (j,y)::r,h=>by
  simp only [repS] at h;by_cases hy:j=i
  ·rw [nbeq.2 hy] at h;simp only [cnT,List.mem_cons] at h;rcases h with h | h
   ·exact .inl h
   ·rcases repS_mem h with h | ⟨h1,h2⟩
    ·exact .inl h
    ·exact .inr ⟨List.mem_cons.2 (.inr h1),h2⟩
  ·rw [qFq hy] at h;simp only [cnF,List.mem_cons] at h;rcases h with rfl | h
   ·exact .inr ⟨List.mem_cons.2 (.inl rfl),hy⟩
   ·rcases repS_mem h with h | ⟨h1,h2⟩
    ·exact .inl h
    ·exact .inr ⟨List.mem_cons.2 (.inr h1),h2⟩
theorem hasS_no {i:Nat}:∀ {l:List (Nat × GL × SV)},hasS i l=false→∀x∈l,x.1≠i
 | [],_,x,hx=>by simp at hx
 | (j,y)::r,h,x,hx=>by
  simp only [hasS] at h;by_cases hj:j=i
  ·rw [nbeq.2 hj] at h; simp at h
  ·rw [qFq hj] at h;rcases List.mem_cons.1 hx with rfl | hx
   ·exact hj
   ·exact hasS_no (by simpa using h) x hx
theorem putS_mem {i:Nat} {e:GL × SV} {x:Nat × GL × SV} {l:List (Nat × GL × SV)} (h:x∈putS l i e):x=(i,e)∨(x∈l∧x.1≠i):=by
 unfold putS at h;cases hh:hasS i l with
 | true=>rw [hh] at h; exact repS_mem h
 | false =>
  rw [hh] at h;simp only [cnF,List.mem_append,List.mem_cons,List.not_mem_nil,or_false] at h;rcases h with h | h
  ·exact .inr ⟨h,hasS_no hh x h⟩
  ·exact .inl h
theorem putL_mem {nv i:Nat} {e:GL × SV} {x:Nat × GL × SV} {l:List (Nat × GL × SV)} (h:x∈putL nv l i e):x=(i,e)∨(x∈l∧x.1≠i):=by
 unfold putL at h;cases hh:Nat.blt i nv with
 | true=>rw [hh] at h; exact putS_mem h
 | false =>
  rw [hh] at h;simp only [cnF,List.mem_cons] at h;rcases h with h | h
  ·exact .inl h
  ·exact .inr (delS_mem h)
theorem qDw {nv last:Nat} {x:Nat × GL × SV}:∀ {l:List (Nat × GL × SV)},x∈qB7 nv last l→x∈l∧x.2.1=[]
 | [],h=>by simp [qB7] at h
 | (j,G,v)::r,h=>by
  simp only [qB7] at h;cases hb:(bif Nat.blt j nv then true else Nat.beq j last) with
  | true =>
   rw [hb] at h;simp only [cnT] at h;cases G with
   | nil =>
    simp only [List.mem_cons] at h;rcases h with rfl | h
    ·exact ⟨List.mem_cons.2 (.inl rfl),rfl⟩
    ·obtain ⟨h1,h2⟩:=qDw h;exact ⟨List.mem_cons.2 (.inr h1),h2⟩
   | cons g G =>
    obtain ⟨h1,h2⟩:=qDw h;exact ⟨List.mem_cons.2 (.inr h1),h2⟩
  | false =>
   rw [hb] at h;obtain ⟨h1,h2⟩:=qDw (l:=r) (by simpa using h);exact ⟨List.mem_cons.2 (.inr h1),h2⟩
theorem ment_iff {d:Nat}:∀ {G:GL},ment d G=false→∀g∈G,g.1≠d
 | [],_,g,hg=>by simp at hg
 | x::r,h,g,hg=>by
  simp only [ment] at h;by_cases hx:x.1=d
  ·rw [nbeq.2 hx] at h; simp at h
  ·rw [qFq hx] at h;rcases List.mem_cons.1 hg with rfl | hg
   ·exact hx
   ·exact ment_iff (by simpa using h) g hg
theorem qHd {a:Act} {d i:Nat} {u:Value} (h:d≠i):(a.put (some d) u).tmps[i]?=a.tmps[i]?:=by
 simp only [Act.put];exact Array.getElem?_setIfInBounds_ne h
theorem Hold.put {a:Act} {d:Nat} {u:Value} {G:GL} (h:ment d G=false):Hold (a.put (some d) u) G↔Hold a G:=by
 have hm:=ment_iff h;constructor
 ·intro hh g hg;rw [←qHd (a:=a) (u:=u) (Ne.symm (hm g hg))];exact hh g hg
 ·intro hh g hg;rw [qHd (Ne.symm (hm g hg))];exact hh g hg
theorem dstQ_lt {nt d:Nat} {A:GL} (h:dstQ nt A (some d)=true):d<nt∧ment d A=false:=by
 simp only [dstQ] at h;cases h1:Nat.blt d nt with
 | false=>rw [h1] at h; simp at h
 | true =>
  rw [h1] at h;cases h2:ment d A with
  | true=>rw [h2] at h; simp at h
  | false=>exact ⟨by simpa using h1,rfl⟩
section
variable {E:Env} {nv:Nat}
theorem EntS.put {ρ ρ':Nat→Value} {a:Act} {n m d:Nat} {u:Value} {x:Nat × GL × SV} (h:EntS ρ a n x) (hag:∀i<n,ρ' i=ρ i) (hle:n≤m) (hd:ment d x.2.1=false) (hx:x.1≠d):EntS ρ' (a.put (some d) u) m x:=by
 obtain ⟨h1,h2,h3⟩:=h;refine ⟨fun hh=>?_,fun hh=>?_,fun hh=>?_⟩
 ·rw [Hold.put hd] at hh;rw [qHd (Ne.symm hx),h1 hh,SV.den_congr hag (h3 hh)]
 ·rw [Hold.put hd] at hh;rw [qHd (Ne.symm hx),h2 hh]
 ·rw [Hold.put hd] at hh;exact SV.lt_mono hle (h3 hh)
theorem EntS.same {ρ ρ':Nat→Value} {a:Act} {n m:Nat} {x:Nat × GL × SV} (h:EntS ρ a n x) (hag:∀i<n,ρ' i=ρ i) (hle:n≤m):EntS ρ' a m x:=by
 obtain ⟨h1,h2,h3⟩:=h;exact ⟨fun hh=>by rw [h1 hh,SV.den_congr hag (h3 hh)],h2,fun hh=>SV.lt_mono hle (h3 hh)⟩
theorem SatQ.next {ρ ρ':Nat→Value} {S:QS} {a:Act} {w w':World} (h:SatQ E ρ S a w) {A:GL} {d:Option Nat} {v:SV} {u:Value} {hp:List SB} (hd:dstQ E.nt A d=true) (hag:∀i<S.hp.length,ρ' i=ρ i) (hlen:S.hp.length≤hp.length)
  (hc:Cls E ρ' hp w') (hv1:Hold a A→u=v.den ρ') (hv2:¬Hold a A→u=undef) (hlt:Hold a A→v.lt hp.length):SatQ E ρ' (putQ nv S d A v hp) (a.put d u) w':=by
 have hhp:(putQ nv S d A v hp).hp=hp:=by cases d <;> rfl
 refine ⟨by rw [put_defers]; exact h.nd,by rw [put_size]; exact h.sz,?_,?_,by rw [hhp]; exact hc.1,hc.2,by rw [hhp]; exact Nat.le_trans h.n0 hlen,fun i hi=>(hag i (Nat.lt_of_lt_of_le hi h.n0)).trans (h.ag i hi)⟩
 ·intro x hx;rw [hhp];cases d with
  | none=>exact (h.sl x hx).same hag hlen
  | some d =>
   obtain ⟨hd1,hd2⟩:=dstQ_lt hd;have hd':d<a.tmps.size:=by rw [h.sz]; exact hd1
   rcases putL_mem hx with rfl | ⟨hx,hne⟩
   ·refine ⟨fun hh=>?_,fun hh=>?_,fun hh=>?_⟩
    ·rw [Hold.put hd2] at hh;simp only [put_get hd',if_true,hv1 hh]
    ·rw [Hold.put hd2] at hh;simp only [put_get hd',if_true,hv2 hh]
    ·rw [Hold.put hd2] at hh;exact hlt hh
   ·obtain ⟨h1,h2⟩:=dropG_mem hx;exact (h.sl x h1).put hag hlen h2 hne
 ·intro g hg;cases d with
  | none=>exact h.kn g hg
  | some d =>
   obtain ⟨h1,h2⟩:=delK_mem hg;rw [qHd (Ne.symm h2)];exact h.kn g h1
theorem SatQ.forget {ρ:Nat→Value} {S:QS} {a:Act} {w:World} (h:SatQ E ρ S a w) (d:Option Nat) (u:Value):SatQ E ρ (forgetQ S d) (a.put d u) w:=by
 cases d with
 | none=>exact h
 | some d =>
  refine ⟨h.nd,by rw [put_size]; exact h.sz,fun x hx=>?_,fun g hg=>?_,h.hp,h.fr,h.n0,h.ag⟩
  ·obtain ⟨h1,h2⟩:=delS_mem hx;obtain ⟨h3,h4⟩:=dropG_mem h1;exact (h.sl x h3).put (fun _ _=>rfl) (Nat.le_refl _) h4 h2
  ·obtain ⟨h1,h2⟩:=delK_mem hg;rw [qHd (Ne.symm h2)];exact h.kn g h1
theorem SatQ.know {ρ:Nat→Value} {S:QS} {a:Act} {w:World} (h:SatQ E ρ S a w) {s:Nat} {b:Bool} (hs:a.tmps[s]?=some (.bool b)):SatQ E ρ (knowQ S s b) a w:=by
 refine ⟨h.nd,h.sz,fun x hx=>?_,fun g hg=>?_,h.hp,h.fr,h.n0,h.ag⟩
 ·rcases putS_mem hx with rfl | ⟨hx,_⟩
  ·exact ⟨fun _=>hs,fun hn=>(hn (Hold.nil a)).elim,fun _=>trivial⟩
  ·exact h.sl x hx
 ·rcases List.mem_cons.1 hg with rfl | hg
  ·exact hs
  ·exact h.kn g hg
theorem SatQ.prune {ρ:Nat→Value} {S:QS} {a:Act} {w:World} (h:SatQ E ρ S a w) (last:Nat):SatQ E ρ ⟨qB7 nv last S.sl,[],S.hp⟩ a w :=
 ⟨h.nd,h.sz,fun x hx=>h.sl x (qDw hx).1,fun g hg=>by simp at hg,h.hp,h.fr,h.n0,h.ag⟩
theorem unkn_some {a:Act} {kn:GL} (hk:Hold a kn):∀ {G A:GL},unkn kn G=some A→(Hold a G↔Hold a A)
 | [],A,h=>by
  simp only [unkn,snJ] at h;subst h;exact Iff.rfl
 | g::r,A,h=>by
  simp only [unkn] at h;cases h1:memG g kn with
  | true =>
   rw [h1] at h;have ih:=unkn_some hk (G:=r) (A:=A) (by simpa using h);rw [←ih];exact ⟨fun hh x hx=>hh x (List.mem_cons.2 (.inr hx)),fun hh=>Hold.cons (hk g (qGk h1)) hh⟩
  | false =>
   rw [h1] at h;simp only [cnF] at h;cases h2:memG (g.1,bif g.2 then false else true) kn with
   | true=>rw [h2] at h; simp at h
   | false =>
    rw [h2] at h;simp only [cnF] at h;split at h
    ·rename_i s hs;simp only [snJ] at h;subst h;have ih:=unkn_some hk hs;constructor
     ·intro hh;exact Hold.cons (hh g (List.mem_cons.2 (.inl rfl))) (ih.1 fun x hx=>hh x (List.mem_cons.2 (.inr hx)))
     ·intro hh;exact Hold.cons (hh g (List.mem_cons.2 (.inl rfl))) (ih.2 fun x hx=>hh x (List.mem_cons.2 (.inr hx)))
    ·cases h
theorem unkn_none {a:Act} {kn:GL} (hk:Hold a kn):∀ {G:GL},unkn kn G=none→¬Hold a G
 | [],h=>by simp [unkn] at h
 | g::r,h=>by
  simp only [unkn] at h;cases h1:memG g kn with
  | true =>
   rw [h1] at h;have ih:=unkn_none hk (G:=r) (by simpa using h);exact fun hh=>ih fun x hx=>hh x (List.mem_cons.2 (.inr hx))
  | false =>
   rw [h1] at h;simp only [cnF] at h;cases h2:memG (g.1,bif g.2 then false else true) kn with
   | true =>
    intro hh;have e1:=hh g (List.mem_cons.2 (.inl rfl));have e2:=hk _ (qGk h2);simp only at e2;rw [e1] at e2;cases hb:g.2 <;> rw [hb] at e2 <;> simp at e2
   | false =>
    rw [h2] at h;simp only [cnF] at h;split at h
    ·cases h
    ·rename_i hs;have ih:=unkn_none hk hs;exact fun hh=>ih fun x hx=>hh x (List.mem_cons.2 (.inr hx))
theorem guard_spec {ρ:Nat→Value} {S:QS} {a:Act} {w:World} (h:SatQ E ρ S a w) {raws:List Nat} {P:Program} {ops:Array Oper} {o:Oper} {io:IOp} (hc:oper P raws ops o=some io) :
  io.d=o.dst∧(∃raw,io.p=qHb P raw o.op)∧match qGj S io.g with
   | .bad=>True
   | .pass=>¬Region.wanted o (yielded ops a.tmps)=true
   | .on A=>(Region.wanted o (yielded ops a.tmps)=true↔Hold a A):=by
 unfold oper at hc;split at hc
 ·rename_i hg;cases hc;refine ⟨rfl,⟨_,rfl⟩,?_⟩;simp only [qGj];simp [Region.wanted,hg,Hold.nil]
 ·rename_i j b hg;split at hc
  ·rename_i q hq;split at hc
   ·rename_i s hs;cases hc;refine ⟨rfl,⟨_,rfl⟩,?_⟩;have hw:Region.wanted o (yielded ops a.tmps)=true↔a.tmps[s]?=some (.bool b):=by
     simp only [Region.wanted,hg,yielded,hq,obS,hs];cases h0:a.tmps[s]? with
     | none=>simp
     | some v=>cases v <;> simp
    simp only [qGj];cases hgs:getQ S.sl s with
    | none=>trivial
    | some e =>
     obtain ⟨G,u⟩:=e;have hent:=h.get hgs;have hiff:a.tmps[s]?=some (.bool b)→Hold a ((s,b)::G):=fun hh=>by
      refine Hold.cons hh ?_;by_cases hG:Hold a G
      ·exact hG
      ·have:=hent.2.1 hG;simp only at this;rw [hh] at this;cases this
     have hiff':a.tmps[s]?=some (.bool b)↔Hold a ((s,b)::G):=⟨hiff,fun hh=>hh (s,b) (List.mem_cons.2 (.inl rfl))⟩;cases u with
     | tup l=>trivial
     | c y =>
      cases y with
      | agg l=>trivial
      | o z =>
       cases z <;> (try simp only) <;> try trivial
       rename_i val;cases val <;> (try simp only) <;> try trivial
       rename_i x;cases hu:unkn S.kn ((s,b)::G) with
       | none =>
        simp only;rw [hw,hiff'];exact unkn_none h.hold hu
       | some A =>
        simp only;rw [hw,hiff'];exact unkn_some h.hold hu
   ·cases hc
  ·cases hc
theorem eqs_spec {ρ:Nat→Value} {S:QS} {a:Act} {w:World} (h:SatQ E ρ S a w):∀ {A:GL} {es:List (Bool × Bool)},eqsQ S A=some es→Hold a A→∀e∈es,e.1=e.2
 | [],es,he,_,e,hm=>by
  simp only [eqsQ,snJ] at he;subst he;simp at hm
 | (s,b)::r,es,he,hA,e,hm=>by
  simp only [eqsQ] at he;split at he
  ·rename_i G x l h1 h2;simp only [snJ] at he;subst he;rcases List.mem_cons.1 hm with rfl | hm
   ·have hs:=hA (s,b) (List.mem_cons.2 (.inl rfl));have hent:=h.get h1;by_cases hG:Hold a G
    ·have:=hent.1 hG;simp only at this hs;rw [hs] at this;simp only [SV.den,SC.den,S0.den,snJ,Value.bool.injEq] at this;exact this.symm
    ·have:=hent.2.1 hG;simp only at this hs;rw [hs] at this;cases this
   ·exact eqs_spec h h2 (fun x hx=>hA x (List.mem_cons.2 (.inr hx))) e hm
  ·cases he
theorem impP_use {p:Prop}:∀ {es:List (Bool × Bool)},impP p es→(∀e∈es,e.1=e.2)→p
 | [],h,_=>h
 | (x,b)::r,h,he=>impP_use (h (he (x,b) (List.mem_cons.2 (.inl rfl)))) fun e hm=>he e (List.mem_cons.2 (.inr hm))
theorem impL_use {es:List (Bool × Bool)} (he:∀e∈es,e.1=e.2):∀ {ps:List Prop},AllP (impL es ps)→AllP ps
 | [],_=>trivial
 | p::r,h=>⟨impP_use h.1 he,impL_use he h.2⟩
variable {Γ:Nat→Option CQ} {raws:List Nat}
theorem prim_use {ρ:Nat→Value} {S:QS} {a:Act} {w:World} (h:SatQ E ρ S a w) (Γ':Nat→Option Con) (A:GL) (pr:Pr):RelR (Hold a A) (runP Γ' (qE2 S a) (Hold a A) pr) (primQ S A pr) :=
 prim_rel (read_old h.hold fun i G v hg hG=>⟨ρ,(h.get hg).1 hG⟩) Γ' pr
theorem ok_use {ρ:Nat→Value} {S:QS} {a:Act} {w:World} (h:SatQ E ρ S a w) (hΓ:∀f C,Γ f=some C→qAg E.P f C) {o:Oper} {raw:Bool} {pr:Pr} (hp:pr=qHb E.P raw o.op) {A:GL} (hA:Hold a A):OpOK E ρ (qE2 S a) a o (runP (oldG Γ) (qE2 S a) (Hold a A) pr):=by
 have hs:=h.old;refine primB_sound (fun i hi=>hs.hp.ref i hi) (fun h sb hsb=>hs.hp.lt h sb hsb) hs.sl hA hp fun f C hC=>?_
 simp only [oldG,Option.map_eq_some_iff] at hC;obtain ⟨D,hD,rfl⟩:=hC;exact (hΓ f D hD).2.1
theorem prim_call {P:Program} {raw:Bool} {o:Op} {f:Nat} {xs:List Arg} (hB:Pr.call f xs=qHb P raw o):∃c fn,o=.call c∧P.funcs[f]?=some fn∧fn.body.isSome=true∧fn.name ≠ "runtime.NumGoroutine" ∧ c.callee=.value (.func f)∧args c.args.toList=some xs:=by
 have h:prim P raw o=some (.call f xs):=by
  unfold qHb at hB;split at hB
  ·rename_i p hp;subst hB;unfold floP at hp
   (repeat' split at hp) <;> first | cases hp | (rename_i hb; cases hb2:arithB _ <;> rw [hb2] at hp <;> cases hp)
  ·split at hB
   ·rename_i p hp;rw [hp,hB]
   ·cases hB
 cases o <;> simp only [prim,reduceCtorEq] at h
 case call c =>
  obtain ⟨p0,h0,he⟩:=Option.map_eq_some_iff.1 h;have he:=qFj he (fun _ _ h=>by cases h);subst he;replace h:=h0;clear h0;obtain ⟨callee,cargs,ctypes⟩:=c;simp only [callPr] at h;split at h
  ·rename_i g;split at h
   ·rename_i fn hf;split at h
    ·rename_i hb;split at h
     ·rename_i hn;simp only [Option.map_eq_some_iff,Pr.call.injEq] at h;obtain ⟨ys,h1,rfl,rfl⟩:=h;exact ⟨_,fn,rfl,hf,hb,by simpa using hn,rfl,h1⟩
     ·cases h
    ·split at h
     ·split at h <;> simp at h
     ·cases h
   ·cases h
  all_goals (repeat' split at h) <;> simp [Option.map_eq_some_iff] at h
 all_goals (repeat' split at h) <;> simp [Option.map_eq_some_iff] at h
theorem prim_panic {P:Program} {raw:Bool} {o:Op} {x:Arg} (hB:Pr.panic x=qHb P raw o):∃y,o=.panic y∧arg y=some x:=by
 have h:prim P raw o=some (.panic x):=by
  unfold qHb at hB;split at hB
  ·rename_i p hp;subst hB;unfold floP at hp
   (repeat' split at hp) <;> first | cases hp | (rename_i hb; cases hb2:arithB _ <;> rw [hb2] at hp <;> cases hp)
  ·split at hB
   ·rename_i p hp;rw [hp,hB]
   ·cases hB
 cases o <;> simp only [prim,reduceCtorEq] at h
 case panic y =>
  obtain ⟨x0,h0,he⟩:=Option.map_eq_some_iff.1 h;cases he;exact ⟨y,rfl,h0⟩
 case call c =>
  obtain ⟨p0,h0,he⟩:=Option.map_eq_some_iff.1 h;have he:=qFj he (fun _ _ h=>by cases h);subst he;exfalso;obtain ⟨callee,cargs,ctypes⟩:=c;simp only [callPr] at h0;split at h0
  all_goals ((repeat' split at h0) <;> simp [Option.map_eq_some_iff] at h0)
 all_goals (repeat' split at h) <;> first | cases h | (simp only [Option.map_eq_some_iff,reduceCtorEq,and_false,exists_false] at h)
theorem prim_callV {P:Program} {raw:Bool} {o:Op} {x:Arg} {xs:List Arg} (hB:Pr.callV x xs=qHb P raw o):∃c t,o=.call c∧c.callee=.value (.tmp t)∧x=.t t∧args c.args.toList=some xs:=by
 have h:prim P raw o=some (.callV x xs):=by
  unfold qHb at hB;split at hB
  ·rename_i p hp;subst hB;unfold floP at hp
   (repeat' split at hp) <;> first | cases hp | (rename_i hb; cases hb2:arithB _ <;> rw [hb2] at hp <;> cases hp)
  ·split at hB
   ·rename_i p hp;rw [hp,hB]
   ·cases hB
 cases o <;> simp only [prim,reduceCtorEq] at h
 case call c =>
  obtain ⟨p0,h0,he⟩:=Option.map_eq_some_iff.1 h;have he:=qFj he (fun _ _ h=>by cases h);subst he;replace h:=h0;clear h0;obtain ⟨callee,cargs,ctypes⟩:=c;simp only [callPr] at h;split at h
  ·(repeat' split at h) <;> simp [Option.map_eq_some_iff] at h
  ·rename_i t;simp only [Option.map_eq_some_iff,Pr.callV.injEq] at h;obtain ⟨ys,h1,rfl,rfl⟩:=h;exact ⟨_,t,rfl,rfl,rfl,h1⟩
  all_goals (repeat' split at h) <;> simp [Option.map_eq_some_iff] at h
 all_goals (repeat' split at h) <;> simp [Option.map_eq_some_iff] at h
theorem opQ_sound {R:Type} {KP:PV→Option R} (hΓ:∀f C,Γ f=some C→qAg E.P f C) {o:Oper} {io:IOp} (hd:io.d=o.dst) {raw:Bool} (hpr:io.p=qHb E.P raw o.op) {r:R} {K:QS→Option R} {N:Act→World→Prop} {Q:Exit→Act→World→Prop}
  (hK:∀S' ρ' a' w',SatQ E ρ' S' a' w'→K S'=some r→N a' w') {ρ:Nat→Value} {S:QS} {a:Act} {w:World} (h:SatQ E ρ S a w) (hQP:∀p w',Stays E.X E.w0 w'→KP p=some r→Q (.panic [{ v:=panV p,recovered:=false }]) a w') (hr:opQ Γ nv E.nt KP io S K=some r):o.wp E.P a w N Q:=by
 unfold opQ at hr;cases hdd:dstQ E.nt [] io.d with
 | false=>rw [hdd] at hr; simp at hr
 | true =>
  rw [hdd] at hr;simp only [cnT] at hr;have hcls:Cls E ρ S.hp w:=⟨h.hp,h.fr⟩;have hok:=ok_use h hΓ hpr (Hold.nil a);have hst:∀(p:Prop) (v:SV),OpOK E ρ (qE2 S a) a o (.still p v)→p→K (putQ nv S io.d [] v S.hp)=some r→o.wp E.P a w N Q:=fun p v hq hp hk=>by
   obtain ⟨hlt,hq⟩:=hq hp;unfold Oper.wp;rw [hq w hcls w];rw [Oper.upon_value,←hd];exact hK _ ρ _ w (h.next (nv:=nv) hdd (fun _ _=>rfl) (Nat.le_refl _) hcls (fun _=>rfl) (fun hn=>(hn (Hold.nil a)).elim) (fun _=>hlt)) hk
  have hqt:∀(p:Prop) (v:SV),OpOK E ρ (qE2 S a) a o (.quiet p v)→p→K (putQ nv S io.d [] v S.hp)=some r→o.wp E.P a w N Q:=fun p v hq hp hk=>by
   obtain ⟨hlt,hq⟩:=hq hp;refine Oper.wp_of_quiet (C:=Cls E ρ S.hp) (K:=fun a'=>a'=a.put o.dst (v.den ρ)) hcls ?_ ⟨_,hq,rfl⟩;rintro a' w' hc rfl
   rw [←hd];exact hK _ ρ _ w' (h.next (nv:=nv) hdd (fun _ _=>rfl) (Nat.le_refl _) hc (fun _=>rfl) (fun hn=>(hn (Hold.nil a)).elim) (fun _=>hlt)) hk
  have hlo:∀(p:Prop) (v:SV) (hp':List SB),OpOK E ρ (qE2 S a) a o (.ok p v hp')→p→K (putQ nv S io.d [] v hp')=some r→o.wp E.P a w N Q:=fun p v hp' hq hp hk=>by
   obtain ⟨hlt,hlen,hq⟩:=hq hp;refine hq w hcls _ _ fun ρ' w' hag hc=>?_
   rw [←hd];exact hK _ ρ' _ w' (h.next (nv:=nv) hdd hag hlen hc (fun _=>rfl) (fun hn=>(hn (Hold.nil a)).elim) (fun _=>hlt)) hk
  have other:(∀f xs,io.p≠.call f xs)→(match primQ S [] io.p with
   | .still ps v=>gds ps (K (putQ nv S io.d [] v S.hp))
   | .quiet ps v=>gds ps (K (putQ nv S io.d [] v S.hp))
   | .ok ps v hp=>gds ps (K (putQ nv S io.d [] v hp))
   | .no=>none)=some r→o.wp E.P a w N Q:=fun _ hr=>by
   have hrel:=prim_use h (oldG Γ) [] io.p;cases hq:primQ S [] io.p with
   | no=>rw [hq] at hr; cases hr
   | still ps v =>
    rw [hq] at hr hrel;obtain ⟨hps,hk⟩:=qAz.1 hr;cases hro:runP (oldG Γ) (qE2 S a) (Hold a []) io.p <;> rw [hro] at hrel hok <;> simp only [RelR] at hrel
    obtain ⟨rfl,hpp⟩:=hrel;exact hst _ _ hok (hpp fun _=>hps) hk
   | quiet ps v =>
    rw [hq] at hr hrel;obtain ⟨hps,hk⟩:=qAz.1 hr;cases hro:runP (oldG Γ) (qE2 S a) (Hold a []) io.p <;> rw [hro] at hrel hok <;> simp only [RelR] at hrel
    obtain ⟨rfl,hpp⟩:=hrel;exact hqt _ _ hok (hpp fun _=>hps) hk
   | ok ps v hp' =>
    rw [hq] at hr hrel;obtain ⟨hps,hk⟩:=qAz.1 hr;cases hro:runP (oldG Γ) (qE2 S a) (Hold a []) io.p <;> rw [hro] at hrel hok <;> simp only [RelR] at hrel
    obtain ⟨rfl,rfl,hpp⟩:=hrel;exact hlo _ _ _ hok (hpp fun _=>hps) hk
  have go:∀(f:Nat) (l:List SV),(∀v∈l,v.lt S.hp.length)→(execOp a.eval o).run E.P w=.ok (.enter f (l.map (SV.den ρ)).toArray) w→goQ Γ KP f l S.hp (fun v hp=>K (putQ nv S io.d [] v hp))=some r→o.wp E.P a w N Q:=fun f l hlt hrun hr=>by
   unfold Oper.wp;rw [hrun];unfold goQ at hr;split at hr
   ·rename_i C hC;have hv:=hΓ f _ hC;obtain ⟨v,hv1,hv2⟩:=hv.1 _ _ _ _ _ hr;have hV:=hv.2.1 l S.hp True v none (by simp only [oldC,hv1]) trivial hlt;refine (hV.2 E.X E.w0 w ρ hcls.1 hcls.2).mono ?_;rintro e w' ⟨rfl,hc⟩
    have:=hK _ ρ _ w' (h.next (nv:=nv) (v:=v) hdd (fun _ _=>rfl) (Nat.le_refl _) hc (fun _=>rfl) (fun hn=>(hn (Hold.nil a)).elim) (fun _=>hV.1)) hv2;rw [hd] at this;exact this
   ·rename_i C hC;have hv:=hΓ f _ hC;obtain ⟨v,hp',hv1,hv2⟩:=hv.1 _ _ _ _ _ hr;have hV:=hv.2.1 l S.hp True v (some hp') (by simp only [oldC,hv1]) trivial hlt;refine (hV.2.2 E.X E.w0 w ρ hcls.1 hcls.2).mono ?_;rintro e w' ⟨ρ',hag,rfl,h4,h5⟩
    have:=hK _ ρ' _ w' (h.next (nv:=nv) (v:=v) hdd hag hV.2.1 ⟨h4,h5⟩ (fun _=>rfl) (fun hn=>(hn (Hold.nil a)).elim) (fun _=>hV.1)) hv2;rw [hd] at this;exact this
   ·rename_i C hC;have hv:=(hΓ f _ hC).2.2.2;refine (hv l S.hp R _ r hr hlt E.X E.w0 w ρ hcls.1 hcls.2).mono ?_;rintro e w' ⟨v,hp',ρ',hag,hlen,rfl,hvl,h4,h5,hk⟩
    have:=hK _ ρ' _ w' (h.next (nv:=nv) (v:=v) hdd hag hlen ⟨h4,h5⟩ (fun _=>rfl) (fun hn=>(hn (Hold.nil a)).elim) (fun _=>hvl)) hk;rw [hd] at this;exact this
   ·rename_i C hC;have hv:=hΓ f _ hC;obtain ⟨o',ho,hk⟩:=hv.1 _ _ _ _ _ _ hr;refine (hv.2.2 l S.hp o' ho hlt E.X E.w0 w ρ hcls.1 hcls.2).mono ?_;intro e w' hpost;cases o' with
    | inl x =>
     obtain ⟨v,hp'⟩:=x;obtain ⟨ρ',hag,hlen,rfl,hvl,h4,h5⟩:=hpost;have:=hK _ ρ' _ w' (h.next (nv:=nv) (v:=v) hdd hag hlen ⟨h4,h5⟩ (fun _=>rfl) (fun hn=>(hn (Hold.nil a)).elim) (fun _=>hvl)) hk;rw [hd] at this;exact this
    | inr p =>
     obtain ⟨rfl,h5⟩:=hpost;exact hQP p w' h5 hk
   ·rename_i C hC;have hv:=(hΓ f _ hC).2.2;split at hr
    ·rename_i k pp hCl;have hd':=demon_some hr;refine (hv l S.hp k pp hCl hlt E.X E.w0 w ρ hcls.1 hcls.2).mono ?_;rintro e w' ⟨n,hpn,rfl,h4,h5⟩
     have:=hK _ ρ _ w' (h.next (nv:=nv) (v:=.c (.o (.val (.int k n)))) hdd (fun _ _=>rfl) (Nat.le_refl _) ⟨h4,h5⟩ (fun _=>rfl) (fun hn=>(hn (Hold.nil a)).elim) (fun _=>trivial)) (hd' n hpn);rw [hd] at this;exact this
    ·cases hr
   ·cases hr
  cases hio:io.p with
  | call f xs =>
   rw [hio] at hr;simp only at hr;split at hr
   ·rename_i l hl;obtain ⟨p,ha1,ha2⟩:=qGg (act:=Hold a []) (read_old h.hold fun i G v hg hG=>⟨ρ,(h.get hg).1 hG⟩) id hl;obtain ⟨c,fn,hop,hf,hb,hn,hce,hxs⟩:=prim_call (hio ▸ hpr);obtain ⟨e1,e2⟩:=qBv h.old.sl (Hold.nil a) hxs ha1 ha2;refine go f l e2 ?_ hr;have hmap:c.args.map a.eval=(l.map (SV.den ρ)).toArray:=by
     rw [←e1];apply Array.toList_inj.1;rw [Array.toList_map]
    unfold execOp;simp only [hop,resolve,hce,hmap,Act.eval,Deferred.ofValue,Sem.run_bind,Sem.run_pure,Result.andThen_ok,invoke,Array.empty_append,Array.append_empty,qGo hf hb hn]
   ·cases hr
  | panic x =>
   rw [hio] at hr;simp only at hr;split at hr
   ·rename_i t v hax;obtain ⟨y,hop,hxy⟩:=prim_panic (hio ▸ hpr);obtain ⟨px,q1,q2⟩:=(read_old h.hold fun i G v hg hG=>⟨ρ,(h.get hg).1 hG⟩).arg (act:=Hold a []) id hax;have hx:=(qAh h.old.sl (Hold.nil a) hxy q1 q2).1;have hx':a.eval y=.iface t v:=hx;unfold Oper.wp;have hrun:(execOp a.eval o).run E.P w=.halt (.panic (.iface t v)) w:=by
     unfold execOp;simp [hop,hx',Instr.panic,goPanic]
    rw [hrun];exact hQP (t,v) w h.fr hr
   ·cases hr
  | callV x xs =>
   rw [hio] at hr;simp only at hr;split at hr
   ·rename_i f l1 l2 l hcl hl;obtain ⟨p,ha1,ha2⟩:=qGg (act:=Hold a []) (read_old h.hold fun i G v hg hG=>⟨ρ,(h.get hg).1 hG⟩) id hl;obtain ⟨c,t,hop,hce,hxt,hxs⟩:=prim_callV (hio ▸ hpr);obtain ⟨e1,e2⟩:=qBv h.old.sl (Hold.nil a) hxs ha1 ha2;subst hxt;unfold cloQ at hcl;split at hcl
    ·rename_i hh hax;split at hcl
     ·rename_i f0 k0 l0 hsb;simp only [snJ,Prod.mk.injEq] at hcl;obtain ⟨rfl,rfl,rfl⟩:=hcl;obtain ⟨px,q1,q2⟩:=(read_old h.hold fun i G v hg hG=>⟨ρ,(h.get hg).1 hG⟩).arg (act:=Hold a []) id hax;have hx:=(qAh h.old.sl (Hold.nil a) (x:=.tmp t) rfl q1 q2).1;have hval:ρ hh=_:=h.hp.sat hh _ hsb;have hlt0:=h.hp.lt hh _ hsb;have hg:goQ Γ KP f0 ((l0.take k0).map (fun x=>SV.c (.o x))++l++(l0.drop k0).map fun x=>SV.c (.o x)) S.hp (fun v hp=>K (putQ nv S io.d [] v hp))=some r∧BodyOK E.P f0:=by
       unfold goV at hr;unfold goQ;split at hr
       ·rename_i C hC;rw [hC];exact ⟨hr,(hΓ f0 _ hC).2.2.1⟩
       ·cases hr
      obtain ⟨hr,fn,hf,hb,hn⟩:=hg;refine go f0 _ ?_ ?_ hr
      ·intro v hv;simp only [List.mem_append,List.mem_map] at hv;rcases hv with (⟨y,hy,rfl⟩ | hv) | ⟨y,hy,rfl⟩
       ·exact hlt0 y (List.mem_of_mem_take hy)
       ·exact e2 v hv
       ·exact hlt0 y (List.mem_of_mem_drop hy)
      ·have hmap:c.args.map a.eval=(l.map (SV.den ρ)).toArray:=by
        rw [←e1];apply Array.toList_inj.1;rw [Array.toList_map]
       have hxv:a.eval (.tmp t)=.func (.func f0) ((l0.take k0).map (S0.den ρ)).toArray ((l0.drop k0).map (S0.den ρ)).toArray:=by rw [hx]; exact hval
       unfold execOp;simp only [hop,resolve,hce,hmap,hxv,Deferred.ofValue,Sem.run_bind,Sem.run_pure,Result.andThen_ok,invoke,qGo hf hb hn];congr 2
       simp [SV.den,SC.den,Function.comp_def]
     ·cases hcl
    ·rename_i f0 hax;simp only [snJ,Prod.mk.injEq] at hcl;obtain ⟨rfl,rfl,rfl⟩:=hcl;obtain ⟨px,q1,q2⟩:=(read_old h.hold fun i G v hg hG=>⟨ρ,(h.get hg).1 hG⟩).arg (act:=Hold a []) id hax;have hx:=(qAh h.old.sl (Hold.nil a) (x:=.tmp t) rfl q1 q2).1;have hg:goQ Γ KP f0 ([]++l++[]) S.hp (fun v hp=>K (putQ nv S io.d [] v hp))=some r∧BodyOK E.P f0:=by
      unfold goV at hr;unfold goQ;split at hr
      ·rename_i C hC;rw [hC];exact ⟨hr,(hΓ f0 _ hC).2.2.1⟩
      ·cases hr
     obtain ⟨hr,fn,hf,hb,hn⟩:=hg;refine go f0 _ ?_ ?_ hr
     ·intro v hv;simp only [List.nil_append,List.append_nil] at hv;exact e2 v hv
     ·have hmap:c.args.map a.eval=(l.map (SV.den ρ)).toArray:=by
       rw [←e1];apply Array.toList_inj.1;rw [Array.toList_map]
      have hxv:a.eval (.tmp t)=.func (.func f0) #[] #[]:=hx;unfold execOp;simp only [hop,resolve,hce,hmap,hxv,Deferred.ofValue,Sem.run_bind,Sem.run_pure,Result.andThen_ok,invoke,qGo hf hb hn];congr 2
      simp
    ·cases hcl
   ·cases hr
  | _=>rw [hio] at hr other; exact other (fun f xs h=>by cases h) hr
def StepOK (P:Program) (ops:Array Oper) (Q:Exit→Act→World→Prop) (N:Act→World→Prop) (o:Oper) (a:Act) (w:World):Prop :=
 if Region.wanted o (yielded ops a.tmps)=true then o.wp P a w N Q∨(o.asks P a w∧LetsOut Q) else N (a.put o.dst undef) w
theorem lastG_some {g:Nat × Bool}:∀ {A:GL},lastG A=some g→g∈A∧∀x∈A,x=g∨x∈A.dropLast
 | [],h=>by simp [lastG] at h
 | [x],h=>by
  simp only [lastG,snJ] at h;subst h;exact ⟨by simp,fun y hy=>by simp at hy; exact .inl hy⟩
 | x::y::r,h=>by
  simp only [lastG] at h;obtain ⟨h1,h2⟩:=lastG_some (A:=y::r) h;refine ⟨List.mem_cons.2 (.inr h1),fun z hz=>?_⟩;rcases List.mem_cons.1 hz with rfl | hz
  ·exact .inr (by simp [List.dropLast])
  ·rcases h2 z hz with h | h
   ·exact .inl h
   ·exact .inr (by simp only [List.dropLast]; exact List.mem_cons.2 (.inr h))
theorem lastG_none {A:GL} (h:lastG A=none):A=[]:=by
 cases A with
 | nil=>rfl
 | cons x r =>
  exfalso;induction r generalizing x with
  | nil=>simp [lastG] at h
  | cons y r ih=>exact ih y (by simpa [lastG] using h)
theorem hold_last {a:Act} {g:Nat × Bool} {A:GL} (h:lastG A=some g):Hold a A↔a.tmps[g.1]?=some (.bool g.2)∧Hold a A.dropLast:=by
 obtain ⟨h1,h2⟩:=lastG_some h;constructor
 ·exact fun hh=>⟨hh g h1,fun x hx=>hh x (List.dropLast_subset _ hx)⟩
 ·rintro ⟨h3,h4⟩ x hx
  rcases h2 x hx with rfl | hx
  ·exact h3
  ·exact h4 x hx
theorem splitQ_sound {R:Type} {KP:PV→Option R} (hΓ:∀f C,Γ f=some C→qAg E.P f C) {ops:Array Oper} {o:Oper} {io:IOp} (hd:io.d=o.dst) {raw:Bool} (hpr:io.p=qHb E.P raw o.op) {r:R} {K:QS→Option R} {N:Act→World→Prop} {Q:Exit→Act→World→Prop}
  (hK:∀S' ρ' a' w',SatQ E ρ' S' a' w'→K S'=some r→N a' w') {ρ:Nat→Value} {a:Act} {w:World} (hQP:∀p w',Stays E.X E.w0 w'→KP p=some r→Q (.panic [{ v:=panV p,recovered:=false }]) a w'):∀(n:Nat) (A:GL) (S:QS),SatQ E ρ S a w→(Region.wanted o (yielded ops a.tmps)=true↔Hold a A)→splitQ Γ nv E.nt KP io K n A S=some r→StepOK E.P ops Q N o a w
 | 0,A,S,h,hw,hr=>by simp [splitQ] at hr
 | n+1,A,S,h,hw,hr=>by
  simp only [splitQ] at hr;split at hr
  ·rename_i hl;have:=lastG_none hl;subst this;unfold StepOK;rw [if_pos (hw.2 (Hold.nil a))];exact .inl (opQ_sound hΓ hd hpr hK h hQP hr)
  ·rename_i s b hl;have hlast:=hold_last (a:=a) hl;split at hr
   ·rename_i G x hg;cases hs:subG [] S.kn G with
    | false=>rw [hs] at hr; simp at hr
    | true =>
     rw [hs] at hr;simp only [cnT] at hr;have hsx:a.tmps[s]?=some (.bool x):=(h.get hg).1 (subG_hold (Hold.nil a) h.hold hs);have hpass:∀c,x=c→c≠b→K (forgetQ (knowQ S s c) io.d)=some r→StepOK E.P ops Q N o a w:=fun c hc hne hk=>by
      subst hc;have hn:¬Region.wanted o (yielded ops a.tmps)=true:=fun hwt=>by
       have:=(hlast.1 (hw.1 hwt)).1;simp only at this;rw [hsx] at this;simp only [snJ,Value.bool.injEq] at this;exact hne this
      unfold StepOK;rw [if_neg hn,←hd];exact hK _ ρ _ w ((h.know hsx).forget _ _) hk
     have hgo:∀c,x=c→c=b→splitQ Γ nv E.nt KP io K n A.dropLast (knowQ S s c)=some r→StepOK E.P ops Q N o a w:=fun c hc hcb hk=>by
      subst hc hcb;refine splitQ_sound hΓ hd hpr hK hQP n A.dropLast _ (h.know hsx) ?_ hk;rw [hw,hlast];exact ⟨fun hh=>hh.2,fun hh=>⟨hsx,hh⟩⟩
     cases b <;> cases x <;> simp only [cnT,cnF] at hr
     ·exact hgo false rfl rfl hr
     ·exact hpass true rfl (by simp) hr
     ·exact hpass false rfl (by simp) hr
     ·exact hgo true rfl rfl hr
   ·cases hr
theorem SatQ.pass {ρ:Nat→Value} {S:QS} {a:Act} {w:World} (h:SatQ E ρ S a w) {g:Option (Nat × Bool)} (hgq:qGj S g=.pass) (r:List IOp) (d:Option Nat):SatQ E ρ (passQ nv E.nt r S g d) (a.put d undef) w:=by
 have hn:¬Hold a (gsQ S g):=by
  cases g with
  | none=>cases hgq
  | some x =>
   obtain ⟨s,b⟩:=x;simp only [qGj,gsQ] at hgq ⊢;cases hgs:getQ S.sl s with
   | none=>rw [hgs] at hgq; cases hgq
   | some e =>
    obtain ⟨G,u⟩:=e;rw [hgs] at hgq;simp only at hgq ⊢;split at hgq
    ·rename_i h1;cases h1;split at hgq
     ·cases hgq
     ·rename_i h2;exact unkn_none h.hold h2
    ·cases hgq
 unfold passQ;cases hc:(asksQ d r && dstQ E.nt (gsQ S g) d) with
 | false=>exact h.forget _ _
 | true =>
  rw [Bool.and_eq_true] at hc;exact h.next hc.2 (fun _ _=>rfl) (Nat.le_refl _) ⟨h.hp,h.fr⟩ (fun hh=>(hn hh).elim) (fun _=>rfl) (fun hh=>(hn hh).elim)
theorem opsQ_sound {R:Type} {KP:PV→Option R} (hΓ:∀f C,Γ f=some C→qAg E.P f C) {ops:Array Oper} {Q:Exit→Act→World→Prop} {r:R} {K:QS→Option R}
  (hK:∀S' ρ' a' w',SatQ E ρ' S' a' w'→K S'=some r→Q .normal a' w') (hQP:∀p a w',a.defers=E.df→Stays E.X E.w0 w'→KP p=some r→Q (.panic [{ v:=panV p,recovered:=false }]) a w') :
  ∀(l:List Oper) (is:List IOp),opers E.P raws ops l=some is→∀(S:QS) (ρ:Nat→Value) (a:Act) (w:World),SatQ E ρ S a w→opsQ Γ nv E.nt KP is S K=some r→wpList E.P ops Q l a w
 | [],is,h,S,ρ,a,w,hs,hr=>by
  simp only [opers,snJ] at h;subst h;exact hK S ρ a w hs hr
 | o::rest,is,h,S,ρ,a,w,hs,hr=>by
  simp only [opers] at h;split at h
  ·rename_i io is' h1 h2;simp only [snJ] at h;subst h;obtain ⟨hd,⟨raw,hpr⟩,hg⟩:=guard_spec hs h1;have ih:∀S' ρ' a' w',SatQ E ρ' S' a' w'→opsQ Γ nv E.nt KP is' S' K=some r→wpList E.P ops Q rest a' w':=fun S' ρ' a' w' hs' hr'=>opsQ_sound hΓ hK hQP rest is' h2 S' ρ' a' w' hs' hr'
   show StepOK E.P ops Q (wpList E.P ops Q rest) o a w;simp only [opsQ] at hr;cases hgq:qGj S io.g with
   | bad=>rw [hgq] at hr; cases hr
   | pass =>
    rw [hgq] at hr hg;simp only at hr hg;cases hdd:dstQ E.nt [] io.d with
    | false=>rw [hdd] at hr; simp at hr
    | true =>
     rw [hdd] at hr;unfold StepOK;rw [if_neg hg,←hd];exact ih _ ρ _ w (hs.pass hgq _ _) hr
   | on A =>
    rw [hgq] at hr hg;simp only at hg;cases A with
    | nil =>
     simp only at hr;unfold StepOK;rw [if_pos (hg.2 (Hold.nil a))];exact .inl (opQ_sound hΓ hd hpr ih hs (fun p w'=>hQP p a w' hs.nd) hr)
    | cons g A =>
     simp only at hr;have hrel:=prim_use hs (oldG Γ) (g::A) io.p;have hcls:Cls E ρ S.hp w:=⟨hs.hp,hs.fr⟩;have hsplit:(bif dstQ E.nt [] io.d then splitQ Γ nv E.nt KP io (fun S'=>opsQ Γ nv E.nt KP is' S' K) 9 (g::A) S else none)=some r→StepOK E.P ops Q (wpList E.P ops Q rest) o a w:=fun hr=>by
      cases hdd:dstQ E.nt [] io.d with
      | false=>rw [hdd] at hr; simp at hr
      | true =>
       rw [hdd] at hr;exact splitQ_sound hΓ hd hpr ih (fun p w'=>hQP p a w' hs.nd) 9 _ S hs hg hr
     have hmerge:∀(q:Bool) (ps:List Prop) (v:SV),(Hold a (g::A)→AllP ps→v.lt S.hp.length∧o.wp E.P a w (fun a' w'=>a'=a.put o.dst (v.den ρ)∧Cls E ρ S.hp w') Q)→(bif dstQ E.nt (g::A) io.d then (match eqsQ S (g::A) with
       | some es=>gds (impL es ps) (opsQ Γ nv E.nt KP is' (putQ nv S io.d (g::A) v S.hp) K)
       | none=>none) else none)=some r→StepOK E.P ops Q (wpList E.P ops Q rest) o a w:=fun q ps v hdo hr=>by
      cases hdd:dstQ E.nt (g::A) io.d with
      | false=>rw [hdd] at hr; simp at hr
      | true =>
       rw [hdd] at hr;simp only [cnT] at hr;split at hr
       ·rename_i es hes;obtain ⟨hps,hk⟩:=qAz.1 hr;unfold StepOK;by_cases hA:Hold a (g::A)
        ·rw [if_pos (hg.2 hA)];obtain ⟨hlt,hwp⟩:=hdo hA (impL_use (eqs_spec hs hes hA) hps);refine .inl (Oper.wp_mono ?_ hwp);rintro a' w' ⟨rfl,hc⟩
         rw [←hd];exact ih _ ρ _ w' (hs.next (nv:=nv) hdd (fun _ _=>rfl) (Nat.le_refl _) hc (fun _=>rfl) (fun hn=>(hn hA).elim) (fun _=>hlt)) hk
        ·rw [if_neg fun hh=>hA (hg.1 hh),←hd];exact ih _ ρ _ w (hs.next (nv:=nv) hdd (fun _ _=>rfl) (Nat.le_refl _) hcls (fun hh=>(hA hh).elim) (fun _=>rfl) (fun hh=>(hA hh).elim)) hk
       ·cases hr
     cases hq:primQ S (g::A) io.p with
     | no=>rw [hq] at hr; exact hsplit hr
     | ok ps v hp'=>rw [hq] at hr; exact hsplit hr
     | still ps v =>
      rw [hq] at hr hrel;refine hmerge true ps v (fun hA hps=>?_) hr;have hok:=ok_use hs hΓ hpr hA;cases hro:runP (oldG Γ) (qE2 S a) (Hold a (g::A)) io.p <;> rw [hro] at hrel hok <;> simp only [RelR] at hrel
      obtain ⟨rfl,hpp⟩:=hrel;obtain ⟨hlt,hqq⟩:=hok (hpp fun _=>hps);refine ⟨hlt,?_⟩;unfold Oper.wp;rw [hqq w hcls w,Oper.upon_value];exact ⟨rfl,hcls⟩
     | quiet ps v =>
      rw [hq] at hr hrel;refine hmerge true ps v (fun hA hps=>?_) hr;have hok:=ok_use hs hΓ hpr hA;cases hro:runP (oldG Γ) (qE2 S a) (Hold a (g::A)) io.p <;> rw [hro] at hrel hok <;> simp only [RelR] at hrel
      obtain ⟨rfl,hpp⟩:=hrel;obtain ⟨hlt,hqq⟩:=hok (hpp fun _=>hps);refine ⟨hlt,?_⟩;refine Oper.wp_of_quiet (C:=Cls E ρ S.hp) (K:=fun a'=>a'=_) hcls ?_ ⟨_,hqq,rfl⟩;rintro a' w' hc rfl
      exact ⟨rfl,hc⟩
  ·cases h
end
end Go.Eng
