/-
  Texts of a claim.
-/
import Derived.Test.YtpobbbpphnnnhaaGreatDoorEngK
namespace Go.Eng
set_option linter.unusedVariables false
set_option linter.unusedSimpArgs false
def denG (So:St) (G:GL):Prop:=∀g∈G,∃c x,getE So.sl g.1=some (c,.c (.o (.val (.bool x))))∧c∧x=g.2
structure RelD (So:St) (S:QS):Prop where
 hp:So.hp=S.hp
 kn:S.kn=[]
 sl:∀i G v,(i,G,v)∈S.sl→∃c,getE So.sl i=some (c,v)∧(c↔denG So G)
theorem denG.cons {So:St} {g:Nat × Bool} {G:GL}:denG So (g::G)↔(∃c x,getE So.sl g.1=some (c,.c (.o (.val (.bool x))))∧c∧x=g.2)∧denG So G:=by
 constructor
 ·exact fun h=>⟨h g (List.mem_cons.2 (.inl rfl)),fun x hx=>h x (List.mem_cons.2 (.inr hx))⟩
 ·rintro ⟨h1,h2⟩ x hx
  rcases List.mem_cons.1 hx with rfl | hx
  ·exact h1
  ·exact h2 x hx
theorem denG.nil (So:St):denG So []:=fun g hg=>by simp at hg
theorem subG_den {So:St} {A:GL} (hA:denG So A):∀ {G:GL},subG A [] G=true→denG So G
 | [],_=>denG.nil So
 | g::r,h=>by
  simp only [subG] at h;cases h1:memG g A with
  | true =>
   rw [h1] at h;exact denG.cons.2 ⟨hA g (qGk h1),subG_den hA h⟩
  | false=>rw [h1] at h; simp [memG] at h
theorem RelD.read {So:St} {S:QS} (h:RelD So S):Read So S (denG So):=by
 have key:∀ {act:Prop} {A:GL} {x:Arg} {v:SV},(act→denG So A)→argQ S A x=some v→∃p,argE So act x=some (p,v)∧p:=fun {act A x v} hact hx=>by
  cases x with
  | v x =>
   simp only [argQ,snJ] at hx;subst hx;exact ⟨True,rfl,tV⟩
  | t i =>
   simp only [argQ] at hx;split at hx
   ·rename_i G u hg;obtain ⟨c,h1,h2⟩:=h.sl i G u (qE8 hg);rw [h.kn] at hx;cases hs:subG A [] G with
    | false=>rw [hs] at hx; simp at hx
    | true =>
     rw [hs] at hx;simp only [cnT,snJ] at hx;subst hx;exact ⟨act→c,by simp only [argE,h1],fun ha=>h2.2 (subG_den (hact ha) hs)⟩
   ·cases hx
 refine ⟨h.hp,key,fun {A j cb b} hc hA hb=>?_,fun {A j cb b} hm hc=>by rw [h.kn] at hm; simp [memG] at hm⟩;simp only [argQ] at hc;split at hc
 ·rename_i G u hg;obtain ⟨c,h1,h2⟩:=h.sl j G u (qE8 hg);rw [h.kn] at hc;cases hs:subG A [] G with
  | false=>rw [hs] at hc; simp at hc
  | true =>
   rw [hs] at hc;simp only [cnT,snJ] at hc;subst hc;exact denG.cons.2 ⟨⟨c,cb,h1,h2.2 (subG_den hA hs),hb⟩,hA⟩
 ·cases hc
theorem denG_put {So:St} {nv d:Nat} {act:Prop} {v:SV} {hp:List SB} {G:GL} (hd:ment d G=false):denG (putD nv So (some d) act v hp) G↔denG So G:=by
 have hm:=ment_iff hd;constructor
 ·intro hh g hg;obtain ⟨c,x,h1,h2⟩:=hh g hg;simp only [putD,getE_putE,if_neg (Ne.symm (hm g hg))] at h1;exact ⟨c,x,h1,h2⟩
 ·intro hh g hg;obtain ⟨c,x,h1,h2⟩:=hh g hg;refine ⟨c,x,?_,h2⟩;simp only [putD,getE_putE,if_neg (Ne.symm (hm g hg))];exact h1
theorem RelD.put {So:St} {S:QS} (h:RelD So S) {nt nv:Nat} {d:Option Nat} {A:GL} {act:Prop} (ha:act↔denG So A) (hd:dstQ nt A d=true) (v:SV) (hp:List SB):RelD (putD nv So d act v hp) (putQ nv S d A v hp):=by
 cases d with
 | none=>exact ⟨rfl,h.kn,fun i G u hx=>h.sl i G u hx⟩
 | some d =>
  obtain ⟨_,hd2⟩:=dstQ_lt hd;refine ⟨rfl,?_,fun i G u hx=>?_⟩
  ·show delK d S.kn=[];rw [h.kn]; rfl
  ·rcases putL_mem hx with he | ⟨hx,hne⟩
   ·cases he;refine ⟨act,by simp only [putD,getE_putE,if_true],?_⟩;rw [denG_put hd2];exact ha
   ·obtain ⟨h1,h2⟩:=dropG_mem hx;obtain ⟨c,h3,h4⟩:=h.sl i G u h1;refine ⟨c,by simp only [putD,getE_putE,if_neg (Ne.symm hne)]; exact h3,?_⟩;rw [denG_put h2];exact h4
theorem eqs_den {So:St} {S:QS} (h:RelD So S):∀ {A:GL} {es:List (Bool × Bool)},eqsQ S A=some es→denG So A→∀e∈es,e.1=e.2
 | [],es,he,_,e,hm=>by
  simp only [eqsQ,snJ] at he;subst he;simp at hm
 | (s,b)::r,es,he,hA,e,hm=>by
  simp only [eqsQ] at he;split at he
  ·rename_i G x l h1 h2;simp only [snJ] at he;subst he;obtain ⟨hA1,hA2⟩:=denG.cons.1 hA;rcases List.mem_cons.1 hm with rfl | hm
   ·obtain ⟨c,y,h3,_,h4⟩:=hA1;obtain ⟨c',h5,_⟩:=h.sl s G _ (qE8 h1);rw [h5] at h3;simp only [snJ,Prod.mk.injEq,SV.c.injEq,SC.o.injEq,S0.val.injEq,Value.bool.injEq] at h3;rw [h3.2];exact h4
   ·exact eqs_den h h2 hA2 e hm
  ·cases he
theorem unkn_nil:∀(G:GL),unkn [] G=some G
 | []=>rfl
 | g::r=>by simp only [unkn,memG,cnF,unkn_nil r]
theorem guard_den {So:St} {S:QS} (h:RelD So S) {g:Option (Nat × Bool)} {A:GL} (hg:qGj S g=.on A):∃act,actOf So g=some act∧(act↔denG So A):=by
 cases g with
 | none =>
  simp only [qGj,GQ.on.injEq] at hg;subst hg;exact ⟨True,rfl,⟨fun _=>denG.nil So,fun _=>trivial⟩⟩
 | some sb =>
  obtain ⟨s,b⟩:=sb;simp only [qGj] at hg;split at hg
  ·rename_i G x hgs;rw [h.kn,unkn_nil] at hg;simp only [GQ.on.injEq] at hg;subst hg;obtain ⟨c,h1,h2⟩:=h.sl s G _ (qE8 hgs);refine ⟨c∧x=b,by simp only [actOf,h1],?_⟩;rw [denG.cons];constructor
   ·exact fun hh=>⟨⟨c,x,h1,hh.1,hh.2⟩,h2.1 hh.1⟩
   ·rintro ⟨⟨c',x',h3,h4,h5⟩,h6⟩
    rw [h1] at h3;simp only [snJ,Prod.mk.injEq,SV.c.injEq,SC.o.injEq,S0.val.injEq,Value.bool.injEq] at h3;exact ⟨h2.2 h6,by rw [h3.2]; exact h5⟩
  ·cases hg
theorem eqG_iff:∀ {A B:GL},eqG A B=true→A=B
 | [],[],_=>rfl
 | [],_::_,h=>by cases h
 | _::_,[],h=>by cases h
 | (s,b)::r,(t,c)::q,h=>by
  simp only [eqG,Bool.and_eq_true,beq_iff_eq] at h;obtain ⟨⟨h1,h2⟩,h3⟩:=h;rw [Nat.eq_of_beq_eq_true h1,h2,eqG_iff h3]
def InvM (So:St) (M:List (GL × Bool)):Prop:=∀m∈M,(m.2=true→denG So m.1)∧(m.2=false→¬denG So m.1)
theorem knM_den {So:St} {M:List (GL × Bool)} (h:InvM So M) {A:GL} {b:Bool} (hk:knM M A=some b):(b=true→denG So A)∧(b=false→¬denG So A):=by
 cases A with
 | nil =>
  cases hk;exact ⟨fun _=>denG.nil So,fun h=>by cases h⟩
 | cons g A =>
  simp only [knM,Option.map_eq_some_iff] at hk;obtain ⟨m,h1,rfl⟩:=hk;have h2:=List.find?_some h1;have h3:=eqG_iff h2;rw [←h3];exact h m (List.mem_of_find?_eq_some h1)
theorem InvM.put {So:St} {M:List (GL × Bool)} (h:InvM So M) {nv:Nat} {d:Option Nat} {act:Prop} {v:SV} {hp:List SB} (hf:freeM M d=true):InvM (putD nv So d act v hp) M:=by
 cases d with
 | none=>exact h
 | some d =>
  intro m hm;simp only [freeM,List.all_eq_true] at hf;have:=hf m hm;rw [denG_put (by simpa using this)];exact h m hm
theorem InvM.add {So:St} {M:List (GL × Bool)} (h:InvM So M) {nt nv:Nat} {d:Option Nat} {act:Prop} {v:SV} {hp:List SB} (hf:freeM M d=true) {A:GL} (hd:dstQ nt A d=true) {b:Bool} (hb:(b=true→denG So A)∧(b=false→¬denG So A)):InvM (putD nv So d act v hp) ((A,b)::M):=by
 intro m hm;rcases List.mem_cons.1 hm with rfl | hm
 ·cases d with
  | none=>exact hb
  | some d =>
   rw [denG_put (dstQ_lt hd).2];exact hb
 ·exact (h.put hf) m hm
theorem eqsC_den {So:St} {S:QS} (h:RelD So S):∀ {A:GL} {e:Bool},eqsC S A=some e→(denG So A↔e=true)
 | [],e,he=>by
  cases he;exact ⟨fun _=>rfl,fun _=>denG.nil So⟩
 | (s,b)::r,e,he=>by
  simp only [eqsC] at he;split at he
  ·rename_i G x hg;cases hs:subG r [] G with
   | false=>rw [hs] at he; simp at he
   | true =>
    rw [hs] at he;simp only [cnT] at he;obtain ⟨c,h1,h2⟩:=h.sl s G _ (qE8 hg);have key:denG So ((s,b)::r)↔(x=b∧denG So r):=by
     rw [denG.cons];constructor
     ·rintro ⟨⟨c',x',h3,h4,h5⟩,h6⟩
      rw [h1] at h3;simp only [snJ,Prod.mk.injEq,SV.c.injEq,SC.o.injEq,S0.val.injEq,Value.bool.injEq] at h3;exact ⟨by rw [h3.2]; exact h5,h6⟩
     ·rintro ⟨h3,h4⟩
      exact ⟨⟨c,x,h1,h2.2 (subG_den h4 hs),h3⟩,h4⟩
    have lit:litB b x=true↔x=b:=by cases b <;> cases x <;> simp [litB]
    cases r with
    | nil =>
     simp only [snJ] at he;subst he;rw [key,lit];exact ⟨fun h=>h.1,fun h=>⟨h,denG.nil So⟩⟩
    | cons g r =>
     simp only [Option.map_eq_some_iff] at he;obtain ⟨e',he',rfl⟩:=he;rw [key,Bool.and_eq_true,lit,eqsC_den h he']
  ·cases he
theorem step_rel {R:Type} {P:Program} {Γ:Nat→Option CQ} (hΓ:∀f C,Γ f=some C→qAg P f C) {nv nt:Nat} {hp0:List SB} {r:R} {rec:QS→Option R} {Ko:St→Prop} {o:IOp} {So:St} {S:QS} (h:RelD So S) {A:GL} {act:Prop} (ha:actOf So o.g=some act) (hact:act↔denG So A)
  (hdd:dstQ nt A o.d=true) {es:List (Bool × Bool)} (hes:eqsQ S A=some es) {on:Bool} (hon:on=true→act)
  (hrec:∀(v:SV) (hp:List SB),RelD (putD nv So o.d act v hp) (putQ nv S o.d A v hp)→rec (putQ nv S o.d A v hp)=some r→Ko (putD nv So o.d act v hp))
  (hr:drawS Γ nv hp0 o A es on S rec=some r):qBk (oldG Γ) nv nt hp0 [o] So Ko:=by
 have go:∀(v:SV) (hp:List SB),rec (putQ nv S o.d A v hp)=some r→Ko (putD nv So o.d act v hp):=fun v hp=>hrec v hp (h.put hact hdd v hp)
 have hdo:dstOk nt o.d:=by
  cases hd:o.d with
  | none=>trivial
  | some d=>rw [hd] at hdd; exact (dstQ_lt hdd).1
 have hrd:=h.read;have rel:=fun pr=>prim_rel (A:=A) hrd (oldG Γ) pr
 have hactD:act=denG So A:=propext hact;have himp:∀ {ps:List Prop},AllP (impL es ps)→act→AllP ps:=fun hps hac=>impL_use (eqs_den h hes (hact.1 hac)) hps
 unfold qBk;simp only [ha];refine .inr ?_;unfold drawS at hr;cases hop:o.p with
 | load n x =>
  rw [hop] at hr;simp only at hr ⊢;split at hr
  ·rename_i s hs;obtain ⟨p,h1,h2⟩:=hrd.arg (act:=act) hact.1 hs;have hl:=load_rel hp0 n s;cases hq:loadQ hp0 n s <;> rw [hq] at hr <;> simp only [reduceCtorEq] at hr
   rename_i ps v;rw [hq] at hl;cases hb:s.ltB hp0.length with
   | false=>rw [hb] at hr; simp at hr
   | true =>
    rw [hb] at hr;simp only [cnT] at hr;obtain ⟨hps,hk⟩:=qAz.1 hr;cases hro:loadR hp0 n s <;> rw [hro] at hl <;> simp only [RelS] at hl
    obtain ⟨rfl,hpp⟩:=hl;simp only [h1,hro,owe];refine ⟨hdo,hb,⟨h2,fun hac=>hpp (himp hps hac)⟩,?_⟩;rw [h.hp];exact go _ _ hk
  ·cases hr
 | call f xs =>
  rw [hop] at hr;simp only at hr ⊢;split at hr
  ·rename_i l C hl hC;obtain ⟨p,h1,h2⟩:=qGg (act:=act) hrd (A:=A) hact.1 hl;obtain ⟨v,hv1,hv2⟩:=(hΓ f _ hC).1 _ _ _ _ _ hr;have hrun:runP (oldG Γ) So act (.call f xs)=.quiet (p∧(act→True)) v:=by
    simp only [runP,oldG,hC,Option.map_some,h1,h.hp,oldC,hv1]
   rw [hrun];simp only;refine ⟨hdo,⟨h2,fun _=>trivial⟩,?_⟩;rw [h.hp];exact go _ _ hv2
  ·rename_i l C hl hC;cases on with
   | false=>cases hr
   | true =>
    simp only [cnT] at hr;obtain ⟨p,h1,h2⟩:=qGg (act:=act) hrd (A:=A) hact.1 hl;obtain ⟨v,hp',hv1,hv2⟩:=(hΓ f _ hC).1 _ _ _ _ _ hr;obtain ⟨hpre,hv2⟩:=gd_some.1 hv2;have hrun:runP (oldG Γ) So act (.call f xs)=.ok (p∧(act→True)) v hp':=by
     simp only [runP,oldG,hC,Option.map_some,h1,h.hp,oldC,hv1]
    rw [hrun];simp only;refine ⟨⟨hp'.drop S.hp.length,?_⟩,hdo,hon rfl,⟨h2,fun _=>trivial⟩,go _ _ hv2⟩;rw [h.hp];conv=>lhs; rw [←List.take_append_drop S.hp.length hp',hpre]
  ·cases hr
 | callL f xs =>
  rw [hop] at hr;simp only at hr ⊢;split at hr
  ·rename_i l C hl hC;cases on with
   | false=>cases hr
   | true =>
    simp only [cnT] at hr;obtain ⟨p,h1,h2⟩:=qGg (act:=act) hrd (A:=A) hact.1 hl;obtain ⟨v,hp',hv1,hv2⟩:=(hΓ f _ hC).1 _ _ _ _ _ hr;have hrun:runP (oldG Γ) So act (.callL f xs)=.ok (p∧(act→True)) v hp':=by
     simp only [runP,oldG,hC,Option.map_some,h1,h.hp,oldC,hv1]
    rw [hrun];simp only [qA2,cnF];exact ⟨hdo,hon rfl,⟨h2,fun _=>trivial⟩,go _ _ hv2⟩
  ·cases hr
 | ext x xs =>
  cases x with
  | mget =>
   rw [hop] at hr;simp only at hr ⊢;split at hr
   ·rename_i s0 t0 hl;obtain ⟨p,h1,h2⟩:=qGg (act:=act) hrd (A:=A) hact.1 hl;split at hr
    ·rename_i ps m hm;cases hb:s0.ltB hp0.length with
     | false=>rw [hb] at hr; simp at hr
     | true =>
      rw [hb] at hr;simp only [cnT] at hr;obtain ⟨hps,hk⟩:=qAz.1 hr;simp only [h1,hm];refine ⟨hdo,hb,⟨h2,fun hac=>himp hps hac⟩,?_⟩;rw [h.hp];exact go _ _ hk
    ·cases hr
   ·cases hr
  | _ =>
    rw [hop] at hr;simp only at hr ⊢;have hl:=rel o.p;rw [hop] at hl;generalize hq:primQ S A _=q at hr hl
    cases q <;> simp only [reduceCtorEq] at hr
    ·rename_i ps v;obtain ⟨hps,hk⟩:=qAz.1 hr;rw [hactD] at go himp ⊢;generalize hro:runP (oldG Γ) So _ _=ro at hl
     cases ro <;> simp only [RelR] at hl
     obtain ⟨rfl,hpp⟩:=hl;refine ⟨hdo,hpp fun hac=>himp hps hac,?_⟩;rw [h.hp];exact go _ _ hk
    ·rename_i ps v hp';cases on with
     | false=>cases hr
     | true =>
      simp only [cnT] at hr;rw [hactD] at go himp hon ⊢;generalize hst:qA2 _=st at hr
      cases st with
      | true=>simp at hr
      | false =>
       simp only [cnF] at hr;obtain ⟨hps,hk⟩:=qAz.1 hr;generalize hro:runP (oldG Γ) So _ _=ro at hl
       cases ro <;> simp only [RelR] at hl
       obtain ⟨rfl,rfl,hpp⟩:=hl;simp only [cnF];exact ⟨hdo,hon rfl,hpp fun hac=>himp hps hac,go _ _ hk⟩
 | _ =>
  rw [hop] at hr;simp only at hr ⊢;have hl:=rel o.p;rw [hop] at hl;generalize hq:primQ S A _=q at hr hl
  cases q <;> simp only [reduceCtorEq] at hr
  ·rename_i ps v;obtain ⟨hps,hk⟩:=qAz.1 hr;rw [hactD] at go himp ⊢;generalize hro:runP (oldG Γ) So _ _=ro at hl
   cases ro <;> simp only [RelR] at hl
   obtain ⟨rfl,hpp⟩:=hl;refine ⟨hdo,hpp fun hac=>himp hps hac,?_⟩;rw [h.hp];exact go _ _ hk
  ·rename_i ps v hp';cases on with
   | false=>cases hr
   | true =>
    simp only [cnT] at hr;rw [hactD] at go himp hon ⊢;generalize hst:qA2 _=st at hr
    cases st with
    | true=>simp at hr
    | false =>
     simp only [cnF] at hr;obtain ⟨hps,hk⟩:=qAz.1 hr;generalize hro:runP (oldG Γ) So _ _=ro at hl
     cases ro <;> simp only [RelR] at hl
     obtain ⟨rfl,rfl,hpp⟩:=hl;simp only [cnF];exact ⟨hdo,hon rfl,hpp fun hac=>himp hps hac,go _ _ hk⟩
theorem runDraw_one {Γ:Nat→Option Con} {nv nt:Nat} {hp0:List SB} {o:IOp} {is:List IOp} {S:St} {K:St→Prop}:qBk Γ nv nt hp0 (o::is) S K=qBk Γ nv nt hp0 [o] S fun S'=>qBk Γ nv nt hp0 is S' K:=rfl
theorem qGh {R:Type} {P:Program} {Γ:Nat→Option CQ} (hΓ:∀f C,Γ f=some C→qAg P f C) {nv nt:Nat} {hp0:List SB} {r:R} {K:QS→Option R}:∀(is:List IOp) (M:List (GL × Bool)) (So:St) (S:QS),InvM So M→RelD So S→drawQ Γ nv nt hp0 is M S K=some r →
  qBk (oldG Γ) nv nt hp0 is So fun So'=>∃S',RelD So' S'∧K S'=some r
 | [],M,So,S,hM,h,hr=>⟨S,h,hr⟩
 | o::rest,M,So,S,hM,h,hr=>by
  simp only [drawQ] at hr;cases hgq:qGj S o.g with
  | bad=>rw [hgq] at hr; cases hr
  | pass=>rw [hgq] at hr; cases hr
  | on A =>
   rw [hgq] at hr;simp only at hr;obtain ⟨act,ha,hact⟩:=guard_den h hgq;cases hdf:(dstQ nt A o.d && freeM M o.d) with
   | false=>rw [hdf] at hr; simp at hr
   | true =>
    rw [hdf] at hr;simp only [cnT] at hr;rw [Bool.and_eq_true] at hdf;obtain ⟨hdd,hf⟩:=hdf;have hdo:dstOk nt o.d:=by
     cases hd:o.d with
     | none=>trivial
     | some d=>rw [hd] at hdd; exact (dstQ_lt hdd).1
    have off:∀(M':List (GL × Bool)),(∀v hp,InvM (putD nv So o.d act v hp) M')→¬act→drawQ Γ nv nt hp0 rest M' (putQ nv S o.d A dmyV S.hp) K=some r→qBk (oldG Γ) nv nt hp0 (o::rest) So fun So'=>∃S',RelD So' S'∧K S'=some r:=fun M' hM' hna hk=>by
     unfold qBk;simp only [ha];refine .inl ⟨hna,hdo,?_⟩;rw [h.hp];exact qGh hΓ rest M' _ _ (hM' _ _) (h.put hact hdd dmyV S.hp) hk
    rw [runDraw_one];split at hr
    ·rename_i es hes;cases hk:knM M A with
     | some b =>
      rw [hk] at hr;have hb:=knM_den hM hk;cases b with
      | true=>exact step_rel hΓ h ha hact hdd hes (fun _=>hact.2 (hb.1 rfl)) (fun v hp hR hk'=>qGh hΓ rest M _ _ (hM.put hf) hR hk') hr
      | false=>exact off M (fun v hp=>hM.put hf) (fun hac=>hb.2 rfl (hact.1 hac)) hr
     | none =>
      rw [hk] at hr;simp only at hr;cases hlo:loudB Γ S A o.p with
      | false =>
       rw [hlo] at hr;simp only [cnF] at hr;exact step_rel hΓ h ha hact hdd hes (fun (h:false=true)=>by cases h) (fun v hp hR hk'=>qGh hΓ rest M _ _ (hM.put hf) hR hk') hr
      | true =>
       rw [hlo] at hr;simp only [cnT] at hr;split at hr
       ·rename_i e he;have hden:=eqsC_den h he;cases e with
        | true =>
         simp only [cnT] at hr;have hA:=hden.2 rfl;exact step_rel hΓ h ha hact hdd hes (fun _=>hact.2 hA) (fun v hp hR hk'=>qGh hΓ rest ((A,true)::M) _ _ (hM.add hf hdd ⟨fun _=>hA,fun (h:true=false)=>by cases h⟩) hR hk') hr
        | false =>
         simp only [cnF] at hr;have hA:¬denG So A:=fun hh=>by cases hden.1 hh
         exact off ((A,false)::M) (fun v hp=>hM.add hf hdd ⟨fun (h:false=true)=>(by cases h),fun _=>hA⟩) (fun hac=>hA (hact.1 hac)) hr
       ·cases hr
    ·cases hr
theorem qCa {Γ:Nat→Option Con} {nv nt:Nat} {hp0:List SB} {K K':St→Prop} (hK:∀S,K S→K' S):∀ {is:List IOp} {S:St},qBk Γ nv nt hp0 is S K→qBk Γ nv nt hp0 is S K'
 | [],S,h=>hK S h
 | o::r,S,h=>by
  unfold qBk at h ⊢;split at h
  ·rcases h with h | h
   ·exact .inl ⟨h.1,h.2.1,qCa hK h.2.2⟩
   ·refine .inr ?_;split at h
    ·split at h
     ·split at h
      ·exact ⟨h.1,h.2.1,h.2.2.1,qCa hK h.2.2.2⟩
      ·exact h.elim
     ·exact h.elim
    ·split at h
     ·exact ⟨h.1,h.2.1,qCa hK h.2.2⟩
     ·exact ⟨h.1,h.2.1,h.2.2.1,h.2.2.2.1,qCa hK h.2.2.2.2⟩
     ·exact h.elim
    ·split at h
     ·split at h
      ·exact ⟨h.1,h.2.1,h.2.2.1,qCa hK h.2.2.2⟩
      ·exact h.elim
     ·exact h.elim
    ·split at h
     ·exact ⟨h.1,h.2.1,qCa hK h.2.2⟩
     ·generalize qA2 _=st at h ⊢
      cases st with
      | true=>exact h.elim
      | false=>exact ⟨h.1,h.2.1,h.2.2.1,qCa hK h.2.2.2⟩
     ·exact h.elim
  ·exact h.elim
theorem alt_rel {R:Type} {P:Program} {Γ:Nat→Option CQ} {nv nt:Nat} {r:R} {K:QS→Option R} {o:IOp} {So:St} {S:QS} {Kp:St→Prop} (h:RelD So S) (hr:altQ Γ nv nt o S K=some r)
  (hK:∀So' S',RelD So' S'→K S'=some r→Kp So'):altP (oldG Γ) nv nt o So Kp:=by
 unfold altQ at hr;unfold altP;cases hgq:qGj S o.g with
 | bad=>rw [hgq] at hr; cases hr
 | pass=>rw [hgq] at hr; cases hr
 | on A =>
  rw [hgq] at hr;simp only at hr;obtain ⟨act,ha,hact⟩:=guard_den h hgq;cases hdd:dstQ nt A o.d with
  | false=>rw [hdd] at hr; simp at hr
  | true =>
   rw [hdd] at hr;simp only [cnT] at hr;have hdo:dstOk nt o.d:=by
    cases hd:o.d with
    | none=>trivial
    | some d=>rw [hd] at hdd; exact (dstQ_lt hdd).1
   split at hr
   ·rename_i es hes;have hactD:act=denG So A:=propext hact;have himp:∀ {ps:List Prop},AllP (impL es ps)→act→AllP ps:=fun hps hac=>impL_use (eqs_den h hes (hact.1 hac)) hps
    have hl:=prim_rel (A:=A) h.read (oldG Γ) o.p;have hput:=fun v hp=>h.put (act:=act) (A:=A) (nv:=nv) hact hdd v hp
    simp only [ha];rw [←hactD] at hl;generalize hq:primQ S A o.p=q at hr hl
    generalize hro:runP (oldG Γ) So act o.p=ro at hl
    cases q <;> simp only [reduceCtorEq] at hr
    ·obtain ⟨hps,hk⟩:=qAz.1 hr;cases ro <;> simp only [RelR] at hl
     obtain ⟨rfl,hpp⟩:=hl;refine ⟨hdo,hpp fun hac=>himp hps hac,?_⟩;rw [h.hp];exact hK _ _ (hput _ _) hk
    ·obtain ⟨hps,hk⟩:=qAz.1 hr;cases ro <;> simp only [RelR] at hl
     obtain ⟨rfl,hpp⟩:=hl;refine ⟨hdo,hpp fun hac=>himp hps hac,?_⟩;rw [h.hp];exact hK _ _ (hput _ _) hk
    ·split at hr
     ·cases hst:qA2 o.p with
      | true=>rw [hst] at hr; simp at hr
      | false =>
       rw [hst] at hr;simp only [cnF] at hr;obtain ⟨hps,hk⟩:=qAz.1 hr;cases ro <;> simp only [RelR] at hl
       obtain ⟨rfl,rfl,hpp⟩:=hl;simp only [cnF];exact ⟨hdo,hact.2 (denG.nil So),hpp fun _=>hps,hK _ _ (hput _ _) hk⟩
     ·cases hr
   ·cases hr
theorem qDh {R:Type} {P:Program} {Γ:Nat→Option CQ} (hΓ:∀f C,Γ f=some C→qAg P f C) {nv nt:Nat} {hp0:List SB} {r:R} {K:QS→Option R}:∀(t:DT) (So:St) (S:QS),RelD So S→treeQ Γ nv nt hp0 t S K=some r →
  runT (oldG Γ) nv nt hp0 t So fun So'=>∃S',RelD So' S'∧K S'=some r
 | .fin,So,S,h,hr=>⟨S,h,hr⟩
 | .one o t,So,S,h,hr=>by
  have:=qGh (P:=P) (Γ:=Γ) hΓ (nv:=nv) (nt:=nt) (hp0:=hp0) (r:=r) (K:=fun S'=>treeQ Γ nv nt hp0 t S' K) [o] [] So S (fun m hm=>by cases hm) h hr;exact qCa (fun S1 h1=>by
   obtain ⟨S',h2,h3⟩:=h1;exact qDh hΓ t S1 S' h2 h3) this
 | .wk o t,So,S,h,hr=>by
  have:=qGh (P:=P) (Γ:=Γ) hΓ (nv:=nv) (nt:=nt) (hp0:=qDb hp0) (r:=r) (K:=fun S'=>treeQ Γ nv nt hp0 t S' K) [o] [] So S (fun m hm=>by cases hm) h hr;exact qCa (fun S1 h1=>by
   obtain ⟨S',h2,h3⟩:=h1;exact qDh hΓ t S1 S' h2 h3) this
 | .alt o t .stop,So,S,h,hr=>⟨alt_rel (P:=P) h (show altQ Γ nv nt o S (fun S'=>treeQ Γ nv nt hp0 t S' K)=some r from hr) fun So' S' h2 h3=>qDh hΓ t So' S' h2 h3,tV⟩
 | .alt o t .fin,So,S,h,hr=>by
  obtain ⟨h1,h2⟩:=all2_some (show all2 _ _=some r from hr);exact ⟨alt_rel (P:=P) h h1 fun So' S' h2 h3=>qDh hΓ t So' S' h2 h3,qDh hΓ .fin So S h h2⟩
 | .alt o t (.one o2 t2),So,S,h,hr=>by
  obtain ⟨h1,h2⟩:=all2_some (show all2 _ _=some r from hr);exact ⟨alt_rel (P:=P) h h1 fun So' S' h2 h3=>qDh hΓ t So' S' h2 h3,qDh hΓ (.one o2 t2) So S h h2⟩
 | .alt o t (.wk o2 t2),So,S,h,hr=>by
  obtain ⟨h1,h2⟩:=all2_some (show all2 _ _=some r from hr);exact ⟨alt_rel (P:=P) h h1 fun So' S' h2 h3=>qDh hΓ t So' S' h2 h3,qDh hΓ (.wk o2 t2) So S h h2⟩
 | .alt o t (.alt o2 t2 r2),So,S,h,hr=>by
  obtain ⟨h1,h2⟩:=all2_some (show all2 _ _=some r from hr);exact ⟨alt_rel (P:=P) h h1 fun So' S' h2 h3=>qDh hΓ t So' S' h2 h3,qDh hΓ (.alt o2 t2 r2) So S h h2⟩
 | .stop,So,S,h,hr=>trivial
def nodSl:List (Nat × GL × SV)→Bool
 | []=>true
 | (i,_)::r=>bif hasS i r then false else nodSl r
theorem getQ_of_mem {i:Nat} {e:GL × SV}:∀ {l:List (Nat × GL × SV)},nodSl l=true→(i,e)∈l→getQ l i=some e
 | [],_,h=>by simp at h
 | (j,x)::r,hn,h=>by
  simp only [nodSl] at hn;cases hh:hasS j r with
  | true=>rw [hh] at hn; simp at hn
  | false =>
   rw [hh] at hn;simp only [getQ];rcases List.mem_cons.1 h with h | h
   ·cases h;rw [nbeq.2 rfl]; rfl
   ·have hne:j≠i:=fun e=>hasS_no hh _ h e.symm
    rw [qFq hne];exact getQ_of_mem (by simpa using hn) h
theorem SatQ.relD {E:Env} {ρ:Nat→Value} {S:QS} {a:Act} {w:World} (h:SatQ E ρ S a w) (hk:S.kn=[]) (hn:nodSl S.sl=true) (hG:∀x∈S.sl,x.2.1=[]):RelD (qE2 S a) S:=by
 refine ⟨rfl,hk,fun i G v hx=>⟨Hold a G,?_,?_⟩⟩
 ·simp only [qE2,qGi,getQ_of_mem hn hx,Option.map_some]
 ·have:=hG _ hx;simp only at this;subst this;exact ⟨fun _=>denG.nil _,fun _=>Hold.nil a⟩
theorem RelD.sat {E:Env} {nv last:Nat} {ρ:Nat→Value} {So:St} {S:QS} {a:Act} {w:World} (h:RelD So S) (hs:Sat E ρ So a w):SatQ E ρ ⟨qB7 nv last S.sl,[],S.hp⟩ a w:=by
 refine ⟨hs.nd,hs.sz,fun x hx=>?_,fun g hg=>by simp at hg,by rw [←h.hp]; exact hs.hp,hs.fr,by rw [←h.hp]; exact hs.n0,hs.ag⟩;obtain ⟨i,G,v⟩:=x;obtain ⟨h1,h2⟩:=qDw hx;simp only at h2;subst h2;obtain ⟨c,h3,h4⟩:=h.sl i [] v h1;have hc:c:=h4.2 (denG.nil So);obtain ⟨e1,_,e3⟩:=hs.sl i c v h3;refine ⟨fun _=>e1 hc,fun hn=>(hn (Hold.nil a)).elim,fun _=>?_⟩;show v.lt S.hp.length;rw [←h.hp];exact e3 hc
theorem placeH_spec {h:Nat}:∀ {θ:List Nat} {n:Nat},h∈θ→n≤qDe h n θ∧θ[qDe h n θ - n]?=some h
 | [],n,hm=>by simp at hm
 | x::r,n,hm=>by
  simp only [qDe];by_cases hx:x=h
  ·subst hx;rw [nbeq.2 rfl];simp
  ·rw [qFq hx];have hr:h∈r:=by
    rcases List.mem_cons.1 hm with rfl | hm
    ·exact (hx rfl).elim
    ·exact hm
   obtain ⟨h1,h2⟩:=placeH_spec (n:=n+1) hr;simp only [cnF];refine ⟨by omega,?_⟩;rw [show qDe h (n+1) r - n=(qDe h (n+1) r - (n+1))+1 by omega];simpa using h2
theorem qHa {h:Nat} {θ:List Nat} (hm:h∈θ):θ.getD (qDe h 0 θ) 0=h∧qDe h 0 θ<θ.length:=by
 obtain ⟨_,h2⟩:=placeH_spec (n:=0) hm;simp only [Nat.sub_zero] at h2;exact ⟨by simp [List.getD,h2],(List.getElem?_eq_some_iff.1 h2).1⟩
theorem S0.mv_den {θ:List Nat} {ρ:Nat→Value} {x:S0} (h:x.inB θ=true):(x.mv θ).den (fun i=>ρ (θ.getD i 0))=x.den ρ:=by
 cases x <;> simp only [S0.mv,S0.den] <;> simp only [S0.inB,List.contains_iff_mem] at h <;> first | rfl | rw [(qHa h).1]
theorem S0.mv_lt {θ:List Nat} {x:S0} (h:x.inB θ=true):(x.mv θ).lt θ.length:=by
 cases x <;> simp only [S0.mv,S0.lt] <;> simp only [S0.inB,List.contains_iff_mem] at h <;> first | trivial | exact (qHa h).2
theorem inL_iff {θ:List Nat}:∀ {l:List S0},inL θ l=true→∀x∈l,x.inB θ=true
 | [],_,x,hx=>by simp at hx
 | y::r,h,x,hx=>by
  simp only [inL] at h;cases hy:y.inB θ with
  | false=>rw [hy] at h; simp at h
  | true =>
   rw [hy] at h;rcases List.mem_cons.1 hx with rfl | hx
   ·exact hy
   ·exact inL_iff (by simpa using h) x hx
theorem mvL_eq {θ:List Nat}:∀(l:List S0),mvL θ l=l.map (S0.mv θ)
 | []=>rfl
 | x::r=>by simp only [mvL,List.map_cons,mvL_eq r]
theorem mvL_den {θ:List Nat} {ρ:Nat→Value} {l:List S0} (h:inL θ l=true):(mvL θ l).map (S0.den fun i=>ρ (θ.getD i 0))=l.map (S0.den ρ):=by
 rw [mvL_eq,List.map_map];exact List.map_congr_left fun x hx=>S0.mv_den (inL_iff h x hx)
theorem mvL_lt {θ:List Nat} {l:List S0} (h:inL θ l=true):∀x∈mvL θ l,x.lt θ.length:=by
 intro x hx;rw [mvL_eq,List.mem_map] at hx;obtain ⟨y,hy,rfl⟩:=hx;exact S0.mv_lt (inL_iff h y hy)
theorem SC.mv_den {θ:List Nat} {ρ:Nat→Value} {x:SC} (h:x.inB θ=true):(x.mv θ).den (fun i=>ρ (θ.getD i 0))=x.den ρ:=by
 cases x with
 | o y=>exact S0.mv_den h
 | agg l=>simp only [SC.mv,SC.den]; rw [mvL_den h]
theorem SC.mv_lt {θ:List Nat} {x:SC} (h:x.inB θ=true):(x.mv θ).lt θ.length:=by
 cases x with
 | o y=>exact S0.mv_lt h
 | agg l=>exact mvL_lt h
theorem mvCs_eq {θ:List Nat}:∀(l:List SC),mvCs θ l=l.map (SC.mv θ)
 | []=>rfl
 | x::r=>by simp only [mvCs,List.map_cons,mvCs_eq r]
theorem inCs_iff {θ:List Nat}:∀ {l:List SC},inCs θ l=true→∀x∈l,x.inB θ=true
 | [],_,x,hx=>by simp at hx
 | y::r,h,x,hx=>by
  simp only [inCs] at h;cases hy:y.inB θ with
  | false=>rw [hy] at h; simp at h
  | true =>
   rw [hy] at h;rcases List.mem_cons.1 hx with rfl | hx
   ·exact hy
   ·exact inCs_iff (by simpa using h) x hx
theorem SV.mv_den {θ:List Nat} {ρ:Nat→Value} {x:SV} (h:x.inB θ=true):(x.mv θ).den (fun i=>ρ (θ.getD i 0))=x.den ρ:=by
 cases x with
 | c y=>exact SC.mv_den h
 | tup l =>
  simp only [SV.mv,SV.den,mvCs_eq,List.map_map];congr 2
  exact List.map_congr_left fun x hx=>SC.mv_den (inCs_iff h x hx)
theorem SV.mv_lt {θ:List Nat} {x:SV} (h:x.inB θ=true):(x.mv θ).lt θ.length:=by
 cases x with
 | c y=>exact SC.mv_lt h
 | tup l =>
  intro y hy;rw [mvCs_eq,List.mem_map] at hy;obtain ⟨z,hz,rfl⟩:=hy;exact SC.mv_lt (inCs_iff h z hz)
theorem mvHp_spec {hp:List SB} {θ:List Nat}:∀ {l:List Nat} {hp':List SB},mvHp hp θ l=some hp'→l.length=hp'.length∧∀(j:Nat) (sb:SB),hp'[j]?=some sb→∃i sb0,l[j]?=some i∧hp[i]?=some sb0∧sb=sb0.mv θ∧sb0.inB θ=true
 | [],hp',h=>by
  simp only [mvHp,snJ] at h;subst h;exact ⟨rfl,fun j sb h=>by simp at h⟩
 | i::r,hp',h=>by
  simp only [mvHp] at h;split at h
  ·rename_i sb0 s h1 h2;cases hi:sb0.inB θ with
   | false=>rw [hi] at h; simp at h
   | true =>
    rw [hi] at h;simp only [cnT,snJ] at h;subst h;obtain ⟨h3,h4⟩:=mvHp_spec h2;refine ⟨by simp [h3],fun j sb hj=>?_⟩;cases j with
    | zero =>
     simp at hj;subst hj;exact ⟨i,sb0,rfl,h1,rfl,hi⟩
    | succ j=>simpa using h4 j sb (by simpa using hj)
  ·cases h
theorem headOK_spec {n:Nat}:∀ {θ:List Nat} {k:Nat},headOK n k θ=true→n≤k+θ.length∧∀i,k≤i→i<n→θ.getD (i - k) 0=i
 | [],k,h=>by
  simp only [headOK,Nat.ble_eq] at h;exact ⟨by simpa using h,fun i h1 h2=>by omega⟩
 | x::r,k,h=>by
  simp only [headOK] at h;cases hb:Nat.ble n k with
  | true =>
   have:=Nat.le_of_ble_eq_true hb;exact ⟨by omega,fun i h1 h2=>by omega⟩
  | false =>
   rw [hb] at h;simp only [cnF] at h;by_cases hx:x=k
   ·subst hx;rw [nbeq.2 rfl] at h;obtain ⟨h1,h2⟩:=headOK_spec (θ:=r) (k:=x+1) (by simpa using h);refine ⟨by simp only [List.length_cons]; omega,fun i h3 h4=>?_⟩;by_cases hi:i=x
    ·subst hi; simp
    ·have:=h2 i (by omega) h4;rw [show i - x=(i - (x+1))+1 by omega];simpa using this
   ·rw [qFq hx] at h;simp at h
theorem heap_mv {X:Nat→Prop} {w0 w:World} {ρ:Nat→Value} {hp hp':List SB} {θ:List Nat} (h:HpSat X w0 w ρ hp) (hn:qEa θ=true) (hm:mvHp hp θ θ=some hp'):HpSat X w0 w (fun i=>ρ (θ.getD i 0)) hp'∧hp'.length=θ.length:=by
 obtain ⟨hl,hsp⟩:=mvHp_spec hm;have hg:∀(j i:Nat),θ[j]?=some i→θ.getD j 0=i:=fun j i h=>by simp [List.getD,h]
 refine ⟨⟨fun j hj=>?_,fun j sb hj=>?_,fun j sb hj=>?_,fun i j sb1 sb2 b hij hi hj e1 e2 f1 f2=>?_,h.tab⟩,hl.symm⟩
 ·obtain ⟨i,sb0,h1,h2,_⟩:=hsp j _ (List.getElem?_eq_getElem hj);show qD1 (ρ (θ.getD j 0));rw [hg j i h1];exact h.ref i (List.getElem?_eq_some_iff.1 h2).1
 ·obtain ⟨i,sb0,h1,h2,rfl,h4⟩:=hsp j sb hj;show (sb0.mv θ).sat X w0 w (fun i=>ρ (θ.getD i 0)) (ρ (θ.getD j 0));rw [hg j i h1];have:=h.sat i sb0 h2;cases sb0 with
  | cells e l =>
   obtain ⟨b,hv,hb,hx⟩:=this;refine ⟨b,hv,?_,hx⟩;rw [hb,mvL_den h4]
  | row t e l=>exact this
  | view t l=>exact this
  | map m=>exact this
  | bag ks e l=>exact this
  | part k lo n sz =>
   have hk:k∈θ:=by
    have h4:θ.contains k=true:=h4;simpa using h4
   show qDa (ρ (θ.getD (qDe k 0 θ) 0)) _ _ _ _;rw [(qHa hk).1];exact this
  | slc k n sz =>
   have hk:k∈θ:=by
    have h4:θ.contains k=true:=h4;simpa using h4
   show ∃b,ρ (θ.getD (qDe k 0 θ) 0)=_∧_;rw [(qHa hk).1];exact this
  | clo f k l =>
   have this:ρ i=_:=this;show ρ i=.func (.func f) (((mvL θ l).take k).map _).toArray (((mvL θ l).drop k).map _).toArray;have hden:=mvL_den (ρ:=ρ) h4;rw [List.map_take,List.map_drop,hden,←List.map_take,←List.map_drop];exact this
  | dead=>trivial
 ·obtain ⟨i,sb0,h1,h2,rfl,h4⟩:=hsp j sb hj;cases sb0 with
  | cells e l =>
   intro x hx;rw [←hl];exact mvL_lt h4 x hx
  | row t e l=>trivial
  | view t l=>trivial
  | map m=>trivial
  | bag ks e l=>trivial
  | part k lo n sz =>
   have hk:k∈θ:=by
    have h4:θ.contains k=true:=h4;simpa using h4
   show qDe k 0 θ<hp'.length;rw [←hl];exact (qHa hk).2
  | slc k n sz =>
   have hk:k∈θ:=by
    have h4:θ.contains k=true:=h4;simpa using h4
   show qDe k 0 θ<hp'.length;rw [←hl];exact (qHa hk).2
  | clo f k l =>
   intro x hx;rw [←hl];exact mvL_lt h4 x hx
  | dead=>trivial
 ·obtain ⟨i',s1,a1,a2,rfl,_⟩:=hsp i sb1 hi;obtain ⟨j',s2,b1,b2,rfl,_⟩:=hsp j sb2 hj;have x1:s1.ex=true:=by cases s1 <;> first | rfl | cases e1
  have x2:s2.ex=true:=by cases s2 <;> first | rfl | cases e2
  refine h.apart i' j' s1 s2 b ?_ a2 b2 x1 x2 ?_ ?_
  ·rintro rfl
   exact hij (nodup_spec hn i j i' a1 b1)
  ·simpa only [hg i i' a1] using f1
  ·simpa only [hg j j' b1] using f2
theorem keepQ_mem {S:QS} {x:Nat × GL × SV}:∀ {l:List Nat} {sl:List (Nat × GL × SV)},keepQ S l=some sl→x∈sl→x∈S.sl∧x.2.1=[]
 | [],sl,h,hx=>by
  simp only [keepQ,snJ] at h;subst h;simp at hx
 | i::r,sl,h,hx=>by
  simp only [keepQ] at h;split at h
  ·rename_i v l h1 h2;simp only [snJ] at h;subst h;rcases List.mem_cons.1 hx with rfl | hx
   ·exact ⟨qE8 h1,rfl⟩
   ·exact keepQ_mem h2 hx
  ·cases h
theorem mvSl_mem {θ:List Nat} {y:Nat × GL × SV}:∀ {sl sl':List (Nat × GL × SV)},mvSl θ sl=some sl'→y∈sl'→∃v,(y.1,y.2.1,v)∈sl∧v.inB θ=true∧y.2.2=v.mv θ
 | [],sl',h,hy=>by
  simp only [mvSl,snJ] at h;subst h;simp at hy
 | (i,G,v)::r,sl',h,hy=>by
  simp only [mvSl] at h;split at h
  ·rename_i l hl;cases hv:v.inB θ with
   | false=>rw [hv] at h; simp at h
   | true =>
    rw [hv] at h;simp only [cnT,snJ] at h;subst h;rcases List.mem_cons.1 hy with rfl | hy
    ·exact ⟨v,List.mem_cons.2 (.inl rfl),hv,rfl⟩
    ·obtain ⟨u,h1,h2⟩:=mvSl_mem hl hy;exact ⟨u,List.mem_cons.2 (.inr h1),h2⟩
  ·cases h
theorem canon_sat {E:Env} {ρ:Nat→Value} {S S':QS} {a:Act} {w:World} {keep:List Nat} (h:SatQ E ρ S a w) (hc:canonQ E.n0 keep S=some S'):∃ρ',SatQ E ρ' S' a w:=by
 unfold canonQ at hc;split at hc
 ·rename_i sl hsl;simp only at hc;generalize hθ:closeH S.hp 60 0 (hsVs (svsOf sl) (List.range E.n0))=θ at hc
  cases hn:qEa θ with
  | false=>rw [hn] at hc; simp at hc
  | true =>
   rw [hn] at hc;simp only [cnT] at hc;cases hh:headOK E.n0 0 θ with
   | false=>rw [hh] at hc; simp at hc
   | true =>
    rw [hh] at hc;simp only [cnT] at hc;split at hc
    ·rename_i sl' hp' h1 h2;simp only [snJ] at hc;subst hc;obtain ⟨g1,g2⟩:=heap_mv h.hp hn h2;obtain ⟨k1,k2⟩:=headOK_spec hh;refine ⟨fun i=>ρ (θ.getD i 0),h.nd,h.sz,fun y hy=>?_,fun g hg=>by simp at hg,g1,h.fr,by show E.n0≤hp'.length; omega,fun i hi=>?_⟩
     ·obtain ⟨v,m1,m2,m3⟩:=mvSl_mem h1 hy;obtain ⟨n1,n2⟩:=keepQ_mem hsl m1;obtain ⟨e1,_,e3⟩:=h.sl _ n1;simp only at n2;have hG:Hold a y.2.1:=by rw [n2]; exact Hold.nil a
      refine ⟨fun _=>?_,fun hn=>(hn hG).elim,fun _=>?_⟩
      ·rw [m3,SV.mv_den m2];exact e1 hG
      ·rw [m3];show (v.mv θ).lt hp'.length;rw [g2];exact SV.mv_lt m2
     ·have:=k2 i (by omega) hi;simp only [Nat.sub_zero] at this;simp only [this];exact h.ag i hi
    ·cases hc
 ·cases hc
end Go.Eng
