import Derived.OrdersHeld
import Derived.Test.YtngikdcgcakaaaaDoorEngF
set_option linter.unusedSimpArgs false
set_option linter.unusedVariables false
namespace Go.Eng
section
variable {E:Env} {J:Nat->Option Con} {raws:List Nat} {nv:Nat}
theorem cut_sub{p:Pr}(h:subB p=true):cutB p=false:=by
 cases p <;> simp only[subB,Bool.false_eq_true] at h
 rfl
set_option maxHeartbeats 1600000 in
theorem draw_step(hJ:∀f C,J f=some C->Valid E.P f C){ops:Array Oper}{is0:List IOp}(hops:opers E.P raws ops ops.toList=some is0)(hns:Region.noSelect ops=true){Q:Exit->Act->World->Prop}(hQ:∀c a w,¬Q (.panic c) a w)
  {hp0:List SB} {Z0:Nat->Value} (hlt0:∀(i:Nat) (sb:SB),hp0[i]?=some sb->sb.lt hp0.length) {K:St->Prop} {n k:Nat} {io:IOp} {L:Array Bool}
  (hio_k:is0[k]?=some io) (hkn:k<ops.size) (hat:drawAt ops is0 L k=true) (hz:L.size=ops.size) (hcl:qBm ops L)
  (S:St) (Z:Nat->Value) (a:Act) (w:World) (hs:Sat E Z S a w) (hag:∀i<hp0.length,Z i=Z0 i) (hle:hp0.length<=S.hp.length)
  (hpre:Pre E is0 Z0 hp0 L S.hp w)
  (hrec:qBm ops (L.setIfInBounds k true)->∀(S':St) (Z':Nat->Value) (a':Act) (w':World),Sat E Z' S' a' w'->(∀i<hp0.length,Z' i=Z0 i)->hp0.length<=S'.hp.length ->
   Pre E is0 Z0 hp0 (L.setIfInBounds k true) S'.hp w'->K S' ->
   qCl E.P .any ops Q (SI E is0 Z0 hp0) n (L.setIfInBounds k true) a' w')
  (hr:qAz J nv E.nt hp0 [io] S K) :
  qCl E.P .any ops Q (SI E is0 Z0 hp0) (n+1) L a w:=by
   have hkL:k<L.size:=by omega
   obtain⟨o,hok_k⟩:∃o,ops[k]?=some o:=⟨_,Array.getElem?_eq_getElem hkn⟩;have h1:oper E.P raws ops o=some io:=by
    obtain⟨io',h3,h4⟩:=opers_at hops k o (by simpa using hok_k);rw[hio_k] at h3;cases h3;exact h4
   simp only[drawAt,hio_k] at hat;simp only[qAz] at hr;split at hr
   ·rename_i act hact;obtain⟨hw,hd⟩:=qE6 hs h1 hact;obtain⟨raw,hprim⟩:=oper_prim h1;have hok':act->OpOK E Z S a o (runP J S act io.p):=λha=>primB_sound (λi hi=>hs.hp.ref i hi) (λh sb hsb=>hs.hp.lt h sb hsb) hs.sl ha hprim hJ
    have hnb_of:qAp io.p=true->brkB io.p=false:=static_brk;have hSi:brkB io.p=false->∀(l:Array Bool) (w:World),SI E is0 Z0 hp0 (l.setIfInBounds k true) w↔SI E is0 Z0 hp0 l w:=by
     intro hnb l w;have hnc:cutB io.p=false:=by
      cases h:cutB io.p with
      | false=>rfl
      | true=>rw[cut_brk h] at hnb;cases hnb
     have e1:qCn is0 brkB (l.setIfInBounds k true)↔qCn is0 brkB l:=by
      rcases Nat.lt_or_ge k l.size with hk | hk
      ·exact⟨λh=>h.of_set hk,λh=>h.to_set hio_k hnb⟩
      ·rw[show l.setIfInBounds k true=l by simp[Array.setIfInBounds,Nat.not_lt.2 hk]]
     have e2:qCn is0 cutB (l.setIfInBounds k true)↔qCn is0 cutB l:=by
      rcases Nat.lt_or_ge k l.size with hk | hk
      ·exact⟨λh=>h.of_set hk,λh=>h.to_set hio_k hnc⟩
      ·rw[show l.setIfInBounds k true=l by simp[Array.setIfInBounds,Nat.not_lt.2 hk]]
     unfold SI;rw[e1,e2]
    have hSnow:SI E is0 Z0 hp0 L w:=hpre.si;have hclk:k∈Region.ready .any ops L->qBm ops (L.setIfInBounds k true):=λh=>hcl.set h
    have next:qBm ops (L.setIfInBounds k true)->∀(Z':Nat->Value) (w':World) (hp':List SB) (v:SV) (u:Value),qD8 E.nt io.d->(∀i<S.hp.length,Z' i=Z i)->S.hp.length<=hp'.length->Cls E Z' hp' w'->(act->u=v.den Z')->(¬act->u=undef)->(act->v.lt hp'.length) ->
      Pre E is0 Z0 hp0 (L.setIfInBounds k true) hp' w'->K (putD nv S io.d act v hp') ->
      qCl E.P .any ops Q (SI E is0 Z0 hp0) n (L.setIfInBounds k true) (a.put o.dst u) w':=by
     intro hc1 Z' w' hp' v u hd1 hag' hlen' hcls hv1 hv2 hv3 hpre2 hr2;rw[<-hd];exact hrec hc1 _ Z' _ w' (hs.next (nv:=nv) hd1 hag' hlen' hcls hv1 hv2 hv3)
      (λi hi=>(hag' i (by omega)).trans (hag i hi)) (by
       have:(putD nv S io.d act v hp').hp=hp':=by cases io.d <;> rfl
       rw[this];omega) (by
       have:(putD nv S io.d act v hp').hp=hp':=by cases io.d <;> rfl
       rw[this];exact hpre2) hr2
    have take:qAp io.p=true->∀(v:SV),qD8 E.nt io.d->(act->v.lt S.hp.length) ->
      (act->∀w',(∃l,(qBm ops l/\l.getD k true=false)/\SI E is0 Z0 hp0 l w')->(execOp a.eval o).run E.P w'=.ok (.value (v.den Z)) w') ->
      K (putD nv S io.d act v S.hp) ->
      qCl E.P .any ops Q (SI E is0 Z0 hp0) (n+1) L a w:=by
     intro hst v hd1 hv hy hr2;rw[if_pos (by rw[hst];rfl)] at hat;simp only[Bool.and_eq_true,List.contains_iff_mem] at hat;obtain⟨⟨hready,hfree⟩,_⟩:=hat;have hun:L.getD k true=false:=(mem_ready.1 hready).1;by_cases ha:act
     ·refine qB1 (v:=v.den Z) hok_k (Region.noSelect_spec hns) (λc a w h=>(hQ _ _ _ h).elim) (λl=>qBm ops l/\l.getD k true=false)
       (λl j hT hj hjk=>⟨hT.1.set hj,by rw[getD_set_ne true hjk];exact hT.2⟩) (hSi (hnb_of hst)) n _ a w ⟨hcl,hun⟩ (Region.free_spec hok_k hfree) hready (.inl ⟨hw.2 ha,hy ha⟩) hSnow ?_
      exact next (hclk hready) Z w S.hp v _ hd1 (λ_ _=>rfl) (Nat.le_refl _) ⟨hs.hp,hs.fr⟩ (λ_=>rfl) (λh=>(h ha).elim) hv (hpre.stay hkL) hr2
     ·have hnw:Region.wanted o (yielded ops a.tmps)=false:=by
       cases hh:Region.wanted o (yielded ops a.tmps) with
       | false=>rfl
       | true=>exact(ha (hw.1 hh)).elim
      refine qB1 (v:=undef) hok_k (Region.noSelect_spec hns) (λc a w h=>(hQ _ _ _ h).elim) (λl=>qBm ops l/\l.getD k true=false)
       (λl j hT hj hjk=>⟨hT.1.set hj,by rw[getD_set_ne true hjk];exact hT.2⟩) (hSi (hnb_of hst)) n _ a w ⟨hcl,hun⟩ (Region.free_spec hok_k hfree) hready (.inr ⟨hnw,rfl⟩) hSnow ?_
      exact next (hclk hready) Z w S.hp v _ hd1 (λ_ _=>rfl) (Nat.le_refl _) ⟨hs.hp,hs.fr⟩ (λh=>(ha h).elim) (λ_=>rfl) hv (hpre.stay hkL) hr2
    have only:qAp io.p=false->subB io.p=false->(∀(K':Act->World->Prop),(∀a' w',(SI E is0 Z0 hp0 (L.setIfInBounds k true) w'/\(qBm ops (L.setIfInBounds k true)->qCl E.P .any ops Q (SI E is0 Z0 hp0) n (L.setIfInBounds k true) a' w'))->K' a' w') ->
       if Region.wanted o (yielded ops a.tmps)=true then o.wp E.P a w K' Q else K' (a.put o.dst undef) w) ->
      qCl E.P .any ops Q (SI E is0 Z0 hp0) (n+1) L a w:=by
     intro hst hsb h;rw[if_neg (by rw[hst,hsb];simp),Bool.and_eq_true] at hat;have hrd:Region.ready .any ops L=[k]:=by simpa using hat.1
     have hmem:k∈Region.ready .any ops L:=by rw[hrd];simp
     refine⟨λh0=>(by rw[hrd] at h0;cases h0),λj hj=>?_⟩;rw[hrd] at hj;simp only[List.mem_singleton] at hj;subst hj;have:=h (λa' w'=>SI E is0 Z0 hp0 (L.setIfInBounds j true) w'/\qCl E.P .any ops Q (SI E is0 Z0 hp0) n ((L).setIfInBounds j true) a' w')
      (λa' w' hh=>by exact⟨hh.1,hh.2 (hclk hmem)⟩)
     unfold wpOp;simp only[hok_k];split
     ·rename_i hww;rw[if_pos hww] at this;exact .inl this
     ·rename_i hww;rw[if_neg hww] at this;exact this
    have hsubs:qAp io.p=false->subB io.p=false->brkB io.p=false->qCn is0 subB L:=by
     intro hst hsb hnb;rw[if_neg (by rw[hst,hsb];simp),Bool.and_eq_true,Bool.or_eq_true,List.all_eq_true] at hat;intro j b hj hb;rcases hat.2 with h1 | h1
     ·rw[hnb] at h1;cases h1
     ·have hj':(b,j)∈is0.zipIdx:=by
       rw[List.mem_zipIdx_iff_getElem?];exact hj
      have:=h1 (b,j) hj';simp only[hb,Bool.not_true,Bool.false_or,Bool.not_eq_true'] at this;exact this
    have grown:qAp io.p=false->subB io.p=false->∀(Z':Nat->Value) (w':World) (hp':List SB),(∀i<S.hp.length,Z' i=Z i)->S.hp.length<=hp'.length->Cls E Z' hp' w'->(brkB io.p=false->∃x,hp'=S.hp++x)->(cutB io.p=false->Keep S.hp hp') ->
      Pre E is0 Z0 hp0 (L.setIfInBounds k true) hp' w':=λhst hsb Z' w' hp' hag' hle' hcls hx hk=>hpre.grow hlt0 hio_k hkL hag hle hag' hle' hcls (hsubs hst hsb) hx hk
    have other:quB io.p=false ->
      (match runP J S act io.p with
       | .still p v=>qD8 E.nt io.d/\p/\K (putD nv S io.d act v S.hp)
       | .ok p v hp=>bif qAp io.p then False else qD8 E.nt io.d/\act/\p/\K (putD nv S io.d act v hp)
       | _=>False) ->
      qCl E.P .any ops Q (SI E is0 Z0 hp0) (n+1) L a w:=by
     intro hnc hr;split at hr
     ·rename_i p v hrp;obtain⟨hd1,hp,hr⟩:=hr;have hst:act->v.lt S.hp.length/\∀w0,Cls E Z S.hp w0->∀w,(execOp a.eval o).run E.P w=.ok (.value (v.den Z)) w:=λha=>by
       have:=hok' ha;rw[hrp] at this;exact this hp
      cases hstat:qAp io.p with
      | true=>exact take hstat v hd1 (λha=>(hst ha).1) (λha w' _=>(hst ha).2 w ⟨hs.hp,hs.fr⟩ w') hr
      | false =>
       have hsub:subB io.p=false:=sub_never hrp;have hpp:=grown hstat hsub Z w S.hp (λ_ _=>rfl) (Nat.le_refl _) ⟨hs.hp,hs.fr⟩ (λ_=>⟨[],by simp⟩) λ_=>Keep.refl _
       refine only hstat hsub λK' hK'=>?_
       by_cases ha:act
       ·rw[if_pos (hw.2 ha)];unfold Oper.wp;rw[(hst ha).2 w ⟨hs.hp,hs.fr⟩ w];exact hK' _ _ ⟨hpp.si,λhc1=>next hc1 Z w S.hp v _ hd1 (λ_ _=>rfl) (Nat.le_refl _) ⟨hs.hp,hs.fr⟩ (λ_=>rfl) (λh=>(h ha).elim) (λ_=>(hst ha).1) hpp hr⟩
       ·rw[if_neg λh=>ha (hw.1 h)];exact hK' _ _ ⟨hpp.si,λhc1=>next hc1 Z w S.hp v _ hd1 (λ_ _=>rfl) (Nat.le_refl _) ⟨hs.hp,hs.fr⟩ (λh=>(ha h).elim) (λ_=>rfl) (λh=>(ha h).elim) hpp hr⟩
     ·rename_i p v hp' hrp;cases hstat:qAp io.p with
      | true=>rw[hstat] at hr;exact hr.elim
      | false =>
       rw[hstat] at hr;simp only[cnF] at hr;obtain⟨hd1,ha,hp,hr⟩:=hr;have hq:=hok' ha;rw[hrp] at hq;cases hsub:subB io.p with
       | true =>
        have hpu:=sub_opPure (E:=E) hs.sl ha hprim hrp hsub hp;obtain⟨hlt,hlen,hpu⟩:=hpu;obtain⟨Z',hag',hcls,hrun⟩:=hpu w ⟨hs.hp,hs.fr⟩;rw[if_pos (by rw[hsub];simp)] at hat;simp only[Bool.and_eq_true,List.contains_iff_mem] at hat;obtain⟨⟨hready,hfree⟩,_⟩:=hat;have hun:L.getD k true=false:=(mem_ready.1 hready).1;have hnb:brkB io.p=false:=by
         cases hpp:io.p <;> rw[hpp] at hsub <;> simp only[subB,reduceCtorEq] at hsub
         rfl
        refine qB1 (v:=v.den Z') hok_k (Region.noSelect_spec hns) (λc a w h=>(hQ _ _ _ h).elim) (λl=>qBm ops l/\l.getD k true=false)
         (λl j hT hj hjk=>⟨hT.1.set hj,by rw[getD_set_ne true hjk];exact hT.2⟩) (hSi hnb) n _ a w ⟨hcl,hun⟩ (Region.free_spec hok_k hfree) hready (.inl ⟨hw.2 ha,λw' _=>hrun w'⟩) hSnow ?_
        exact next (hclk hready) Z' w hp' v _ hd1 hag' hlen hcls (λ_=>rfl) (λh=>(h ha).elim) (λ_=>hlt) (hpre.sub hio_k hkL hsub (ok_keep hrp (by rw[cut_sub hsub]) hstat hnc)) hr
       | false =>
       obtain⟨hlt,hlen,hq⟩:=hq hp;refine only hstat hsub λK' hK'=>?_
       rw[if_pos (hw.2 ha)];refine hq w ⟨hs.hp,hs.fr⟩ K' Q λZ' w' hag' hcls=>?_
       have hpp:=grown hstat hsub Z' w' hp' hag' hlen hcls (λhnb=>by
        obtain⟨x,rfl⟩:=ok_ext hrp hnb hstat hsub hnc;exact⟨[x],rfl⟩) λhct=>ok_keep hrp hct hstat hnc
       exact hK' _ _ ⟨hpp.si,λhc1=>next hc1 Z' w' hp' v _ hd1 hag' hlen hcls (λ_=>rfl) (λh=>(h ha).elim) (λ_=>hlt) hpp hr⟩
     ·exact hr.elim
    rcases hr with⟨hna,hd1,hr⟩ | hr
    ·
     have hnw:Region.wanted o (yielded ops a.tmps)=false:=by
      cases hh:Region.wanted o (yielded ops a.tmps) with
      | false=>rfl
      | true=>exact(hna (hw.1 hh)).elim
     cases hss:(qAp io.p || subB io.p) with
     | true =>
      rw[if_pos hss] at hat;simp only[Bool.and_eq_true,List.contains_iff_mem] at hat;obtain⟨⟨hready,hfree⟩,_⟩:=hat;have hun:L.getD k true=false:=(mem_ready.1 hready).1;have hnb:brkB io.p=false:=by
       cases hst:qAp io.p with
       | true=>exact hnb_of hst
       | false =>
        rw[hst,Bool.false_or] at hss;cases hpp:io.p <;> rw[hpp] at hss <;> simp only[subB,reduceCtorEq] at hss
        rfl
      refine qB1 (v:=undef) hok_k (Region.noSelect_spec hns) (λc a w h=>(hQ _ _ _ h).elim) (λl=>qBm ops l/\l.getD k true=false)
       (λl j hT hj hjk=>⟨hT.1.set hj,by rw[getD_set_ne true hjk];exact hT.2⟩) (hSi hnb) n _ a w ⟨hcl,hun⟩ (Region.free_spec hok_k hfree) hready (.inr ⟨hnw,rfl⟩) hSnow ?_
      refine next (hclk hready) Z w S.hp _ _ hd1 (λ_ _=>rfl) (Nat.le_refl _) ⟨hs.hp,hs.fr⟩ (λh=>(hna h).elim) (λ_=>rfl) (λh=>(hna h).elim) ?_ hr;cases hst:qAp io.p with
      | true=>exact hpre.stay hkL
      | false =>
       rw[hst,Bool.false_or] at hss;exact hpre.sub hio_k hkL hss (Keep.refl _)
     | false =>
      have hst:qAp io.p=false:=by
       cases h:qAp io.p with
       | false=>rfl
       | true=>rw[h] at hss;cases hss
      have hsub:subB io.p=false:=by
       rw[hst] at hss;exact hss
      have hpp:=grown hst hsub Z w S.hp (λ_ _=>rfl) (Nat.le_refl _) ⟨hs.hp,hs.fr⟩ (λ_=>⟨[],by simp⟩) λ_=>Keep.refl _
      refine only hst hsub λK' hK'=>?_
      rw[if_neg λh=>hna (hw.1 h)];exact hK' _ _ ⟨hpp.si,λhc1=>next hc1 Z w S.hp _ _ hd1 (λ_ _=>rfl) (Nat.le_refl _) ⟨hs.hp,hs.fr⟩ (λh=>(hna h).elim) (λ_=>rfl) (λh=>(hna h).elim) hpp hr⟩
    split at hr
    ·
     rename_i n y hpr;split at hr
     ·rename_i p s harg;split at hr
      ·rename_i p' v hrp;obtain⟨hd1,hsl,hp,hr⟩:=hr;rw[hpr] at hprim;obtain⟨t,x,hop,hcn,hx⟩:=prim_load hprim;have hst:qAp io.p=true:=by rw[hpr];rfl
       have hpp:p'->p/\∃q,loadR hp0 n s=.quiet q v/\(act->q):=by
        cases hlr:loadR hp0 n s with
        | no=>rw[hlr] at hrp;cases hrp
        | still q u=>rw[hlr] at hrp;cases hrp
        | any q u=>rw[hlr] at hrp;cases hrp
        | ok q u z=>rw[hlr] at hrp;cases hrp
        | quiet q u =>
         rw[hlr] at hrp;simp only[owe,RR.quiet.injEq] at hrp;obtain⟨rfl,rfl⟩:=hrp;exact λh=>⟨h.1,q,rfl,h.2⟩
       obtain⟨hpa,q,hlr,hq⟩:=hpp hp;have hload:act->v.lt hp0.length/\∀w,Cls E Z0 hp0 w->(execOp a.eval o).run E.P w=.ok (.value (v.den Z0)) w:=λha=>by
        obtain⟨e1,_⟩:=qAc hs.sl ha hx harg hpa;have e2:a.eval x=s.den Z0:=by
         rw[e1];exact S0.den_congr (Z:=Z0) (Z':=Z) hag (S0.lt_of hsl)
        have:=load_ok (E:=E) (Z:=Z0) (S:=⟨[],hp0⟩) (a:=a) (o:=o) hlt0 hcn e2 hop;simp only[hlr] at this;obtain⟨h3,h4⟩:=this (hq ha);exact⟨h3,λw hw=>load_run hop (h4 w hw)⟩
       refine take hst v hd1 (λha=>SV.lt_mono hle (hload ha).1) (λha w'=>?_) hr;rintro ⟨l,⟨hcl',hun'⟩,hSl⟩
       have hden:v.den Z=v.den Z0:=SV.den_congr hag (hload ha).1;rw[hden];rw[if_pos (by rw[hst];rfl)] at hat;simp only[Bool.and_eq_true,Bool.or_eq_true,List.all_eq_true,hpr,loadB,Bool.not_true,Bool.false_eq_true,false_or] at hat;exact(hload ha).2 w' (hSl.1 (qCn.out hcl' hun' λx hx=>by have:=hat.2 x hx;simpa using this))
      ·exact hr.elim
     ·exact hr.elim
    ·
     rename_i f xs hpr;have hst:qAp io.p=false:=by rw[hpr];rfl
     have hsub:subB io.p=false:=by rw[hpr];rfl
     split at hr
     ·rename_i p v hrp;obtain⟨hd1,hp,hr⟩:=hr;refine only hst hsub λK' hK'=>?_
      by_cases ha:act
      ·have hq:=hok' ha;rw[hpr,hrp] at hq;obtain⟨hlt,hq⟩:=hq hp;rw[if_pos (hw.2 ha)];refine Oper.wp_of_quiet (C:=Cls E Z S.hp) (K:=λa'=>a'=a.put o.dst (v.den Z)) ⟨hs.hp,hs.fr⟩ ?_ ⟨_,hq,rfl⟩;rintro a' w' hc rfl
       have hpp:=grown hst hsub Z w' S.hp (λ_ _=>rfl) (Nat.le_refl _) hc (λ_=>⟨[],by simp⟩) λ_=>Keep.refl _
       exact hK' _ _ ⟨hpp.si,λhc1=>next hc1 Z w' S.hp v _ hd1 (λ_ _=>rfl) (Nat.le_refl _) hc (λ_=>rfl) (λh=>(h ha).elim) (λ_=>hlt) hpp hr⟩
      ·rw[if_neg λh=>ha (hw.1 h)];have hpp:=grown hst hsub Z w S.hp (λ_ _=>rfl) (Nat.le_refl _) ⟨hs.hp,hs.fr⟩ (λ_=>⟨[],by simp⟩) λ_=>Keep.refl _
       exact hK' _ _ ⟨hpp.si,λhc1=>next hc1 Z w S.hp v _ hd1 (λ_ _=>rfl) (Nat.le_refl _) ⟨hs.hp,hs.fr⟩ (λh=>(ha h).elim) (λ_=>rfl) (λh=>(ha h).elim) hpp hr⟩
     ·rename_i p v hp' hrp;obtain⟨⟨more,hmore⟩,hd1,ha,hp,hr⟩:=hr;have hq:=hok' ha;rw[hpr,hrp] at hq;obtain⟨hlt,hlen,hq⟩:=hq hp;refine only hst hsub λK' hK'=>?_
      rw[if_pos (hw.2 ha)];refine hq w ⟨hs.hp,hs.fr⟩ K' Q λZ' w' hag' hcls=>?_
      have hpp:=grown hst hsub Z' w' hp' hag' hlen hcls (λ_=>⟨more,hmore⟩) λ_=>by rw[hmore];exact Keep.app _ _
      exact hK' _ _ ⟨hpp.si,λhc1=>next hc1 Z' w' hp' v _ hd1 hag' hlen hcls (λ_=>rfl) (λh=>(h ha).elim) (λ_=>hlt) hpp hr⟩
     ·exact hr.elim
    ·
     rename_i fs x xs hpr;have hst:qAp io.p=false:=by rw[hpr];rfl
     have hsub:subB io.p=false:=by rw[hpr];rfl
     split at hr
     ·rename_i p v hrp;obtain⟨hd1,hp,hr⟩:=hr;refine only hst hsub λK' hK'=>?_
      by_cases ha:act
      ·have hq:=hok' ha;rw[hpr,hrp] at hq;obtain⟨hlt,hq⟩:=hq hp;rw[if_pos (hw.2 ha)];refine Oper.wp_of_quiet (C:=Cls E Z S.hp) (K:=λa'=>a'=a.put o.dst (v.den Z)) ⟨hs.hp,hs.fr⟩ ?_ ⟨_,hq,rfl⟩;rintro a' w' hc rfl
       have hpp:=grown hst hsub Z w' S.hp (λ_ _=>rfl) (Nat.le_refl _) hc (λ_=>⟨[],by simp⟩) λ_=>Keep.refl _
       exact hK' _ _ ⟨hpp.si,λhc1=>next hc1 Z w' S.hp v _ hd1 (λ_ _=>rfl) (Nat.le_refl _) hc (λ_=>rfl) (λh=>(h ha).elim) (λ_=>hlt) hpp hr⟩
      ·rw[if_neg λh=>ha (hw.1 h)];have hpp:=grown hst hsub Z w S.hp (λ_ _=>rfl) (Nat.le_refl _) ⟨hs.hp,hs.fr⟩ (λ_=>⟨[],by simp⟩) λ_=>Keep.refl _
       exact hK' _ _ ⟨hpp.si,λhc1=>next hc1 Z w S.hp v _ hd1 (λ_ _=>rfl) (Nat.le_refl _) ⟨hs.hp,hs.fr⟩ (λh=>(ha h).elim) (λ_=>rfl) (λh=>(ha h).elim) hpp hr⟩
     ·rename_i p v hp' hrp;obtain⟨⟨more,hmore⟩,hd1,ha,hp,hr⟩:=hr;have hq:=hok' ha;rw[hpr,hrp] at hq;obtain⟨hlt,hlen,hq⟩:=hq hp;refine only hst hsub λK' hK'=>?_
      rw[if_pos (hw.2 ha)];refine hq w ⟨hs.hp,hs.fr⟩ K' Q λZ' w' hag' hcls=>?_
      have hpp:=grown hst hsub Z' w' hp' hag' hlen hcls (λ_=>⟨more,hmore⟩) λ_=>by rw[hmore];exact Keep.app _ _
      exact hK' _ _ ⟨hpp.si,λhc1=>next hc1 Z' w' hp' v _ hd1 hag' hlen hcls (λ_=>rfl) (λh=>(h ha).elim) (λ_=>hlt) hpp hr⟩
     ·exact hr.elim
    ·
     rename_i ys hpr;split at hr
     ·rename_i p s0 t0 harg;split at hr
      ·rename_i ps m hmo;obtain⟨hd1,hsl,hp,hr⟩:=hr;rw[hpr] at hprim;obtain⟨t,x,i,y1,y2,hop,hnm,hx,hi,hys⟩:=prim_mget hprim;subst hys;have hst:qAp io.p=true:=by rw[hpr];rfl
       have hload:act->∀w,Cls E Z0 hp0 w->(execOp a.eval o).run E.P w=.ok (.value (.int .i64 (mget m t0))) w:=λha w hw=>by
        obtain⟨e1,_⟩:=qA4 hs.sl ha (xs:=[x,i]) (by simp[args,hx,hi]) harg hp.1;simp only[List.map_cons,List.map_nil,List.cons.injEq,and_true] at e1;have e2:a.eval x=s0.den Z0:=by
         rw[e1.1];exact S0.den_congr (Z:=Z0) (Z':=Z) hag (S0.lt_of hsl)
        have e3:a.eval i=.string t0:=e1.2;have hma:=mapOf_spec hw.1 hmo (hp.2 ha);unfold execOp;simp only[hop,e2,e3,Sem.run_bind,run_lookup_at hnm hma,Result.andThen_ok,Sem.run_pure]
       refine take hst (.c (.o (.val (.int .i64 (mget m t0))))) hd1 (λ_=>trivial) (λha w'=>?_) hr;rintro ⟨l,⟨hcl',hun'⟩,hSl⟩
       rw[if_pos (by rw[hst];rfl)] at hat;simp only[Bool.and_eq_true,Bool.or_eq_true,List.all_eq_true,hpr,loadB,Bool.not_true,Bool.false_eq_true,false_or] at hat;exact hload ha w' (hSl.1 (qCn.out hcl' hun' λx hx=>by have:=hat.2 x hx;simpa using this))
      ·exact hr.elim
     ·exact hr.elim
    ·rename_i hnl hnc hncw hnm;exact other (by cases h:io.p <;> first | rfl | exact(hnc _ _ h).elim | exact(hncw _ _ _ h).elim) hr
   ·exact hr.elim
theorem runDraw_cons{o:IOp}{r:List IOp}{S:St}{nt:Nat}{hp0:List SB}{K:St->Prop}:qAz J nv nt hp0 (o::r) S K=qAz J nv nt hp0 [o] S λS'=>qAz J nv nt hp0 r S' K:=rfl
theorem draw_end{ops:Array Oper}{L:Array Bool}(hz:L.size=ops.size)(hall:(List.range ops.size).all (λj=>L.getD j false)=true):Region.ready .any ops L=[]:=by
 simp only[List.all_eq_true,List.mem_range] at hall;unfold Region.ready;rw[List.filter_eq_nil_iff];intro i hi;simp only[List.mem_range] at hi;have hL:=hall i (by omega);have hi':i<L.size:=by omega
 simp only[Array.getD_eq_getD_getElem?,Array.getElem?_eq_getElem hi',Option.getD_some] at hL ⊢;simp[hL]
theorem draw_sound(hJ:∀f C,J f=some C->Valid E.P f C){ops:Array Oper}{is0:List IOp}(hops:opers E.P raws ops ops.toList=some is0)(hns:Region.noSelect ops=true){Q:Exit->Act->World->Prop}(hQ:∀c a w,¬Q (.panic c) a w){K:St->Prop}
  {hp0:List SB} {Z0:Nat->Value} (hlt0:∀(i:Nat) (sb:SB),hp0[i]?=some sb->sb.lt hp0.length)
  (hK:∀S' Z' a' w',Sat E Z' S' a' w'->K S'->Q .normal a' w') :
  ∀(d:List Nat) (is:List IOp) (L:Array Bool),pickO is0 d=some is->L.size=ops.size->qD6 ops is0 L d=true->qBm ops L ->
   ∀(S:St) (Z:Nat->Value) (a:Act) (w:World),Sat E Z S a w->(∀i<hp0.length,Z i=Z0 i)->hp0.length<=S.hp.length->Pre E is0 Z0 hp0 L S.hp w ->
   qAz J nv E.nt hp0 is S K ->
   qCl E.P .any ops Q (SI E is0 Z0 hp0) d.length L a w
 | [],is,L,hpk,hz,hall,hcl,S,Z,a,w,hs,hag,hle,hpre,hr=>by
  simp only[pickO,snJ] at hpk;subst hpk;exact⟨draw_end hz hall,hK S Z a w hs hr⟩
 | k::d,is,L,hpk,hz,hall,hcl,S,Z,a,w,hs,hag,hle,hpre,hr=>by
  simp only[pickO] at hpk;split at hpk
  ·rename_i io is' hio_k hpk';simp only[snJ] at hpk;subst hpk;simp only[qD6,Bool.and_eq_true,decide_eq_true_eq] at hall;rw[runDraw_cons] at hr;exact draw_step (nv:=nv) hJ hops hns hQ hlt0 hio_k hall.1.1 hall.1.2 hz hcl S Z a w hs hag hle hpre
    (λhc S' Z' a' w' hs' hag' hle' hpre' hr'=>draw_sound hJ hops hns hQ hlt0 hK d is' _ hpk' (by simpa using hz) hall.2 hc S' Z' a' w' hs' hag' hle' hpre' hr') hr
  ·cases hpk
theorem draw_soundL(hJ:∀f C,J f=some C->Valid E.P f C){ops:Array Oper}{is0:List IOp}(hops:opers E.P raws ops ops.toList=some is0)(hns:Region.noSelect ops=true){Q:Exit->Act->World->Prop}(hQ:∀c a w,¬Q (.panic c) a w){K:St->Prop}
  {hp0:List SB} {Z0:Nat->Value} (hlt0:∀(i:Nat) (sb:SB),hp0[i]?=some sb->sb.lt hp0.length) {k:Nat} {io:IOp} (hio:is0[k]?=some io) (hst:qAp io.p=false) (hsb:subB io.p=false) (hbr:brkB io.p=true) (hct:cutB io.p=true) (hg:io.g=none)
  (hK:∀S' Z' a' w',Sat E Z' S' a' w'->K S'->∀o,ops[k]?=some o->o.wp E.P a' w' (Q .normal) Q) :
  ∀(d:List Nat) (is:List IOp) (L:Array Bool),pickO is0 d=some is->L.size=ops.size->qD6 ops is0 L (d++[k])=true->qBm ops L ->
   ∀(S:St) (Z:Nat->Value) (a:Act) (w:World),Sat E Z S a w->(∀i<hp0.length,Z i=Z0 i)->hp0.length<=S.hp.length->Pre E is0 Z0 hp0 L S.hp w ->
   qAz J nv E.nt hp0 is S K ->
   qCl E.P .any ops Q (SI E is0 Z0 hp0) (d.length+1) L a w
 | [],is,L,hpk,hz,hall,hcl,S,Z,a,w,hs,hag,hle,hpre,hr=>by
  simp only[pickO,snJ] at hpk;subst hpk;simp only[List.nil_append,qD6,Bool.and_eq_true,decide_eq_true_eq] at hall;obtain⟨⟨hkn,hat⟩,hend⟩:=hall;have hkL:k<L.size:=by omega
  obtain⟨o,hok_k⟩:∃o,ops[k]?=some o:=⟨_,Array.getElem?_eq_getElem hkn⟩;have h1:oper E.P raws ops o=some io:=by
   obtain⟨io',h3,h4⟩:=opers_at hops k o (by simpa using hok_k);rw[hio] at h3;cases h3;exact h4
  simp only[drawAt,hio] at hat;rw[if_neg (by rw[hst,hsb];simp),Bool.and_eq_true] at hat;have hrd:Region.ready .any ops L=[k]:=by simpa using hat.1
  obtain⟨hw,_⟩:=qE6 hs h1 (act:=True) (by rw[hg];rfl);refine⟨λh0=>(by rw[hrd] at h0;cases h0),λj hj=>?_⟩;rw[hrd] at hj;simp only[List.mem_singleton] at hj;subst hj;unfold wpOp;simp only[hok_k];rw[if_pos (hw.2 trivial)];refine .inl (Oper.wp_mono ?_ (hK S Z a w hs hr o hok_k));intro a' w' hq;have hset:(L.setIfInBounds j true).getD j false=true:=by
   simp[Array.getD_eq_getD_getElem?,Array.getElem?_setIfInBounds,hkL]
  refine⟨⟨λh=>?_,λh=>?_⟩,draw_end (by simpa using hz) hend,hq⟩
  ·have:=h j io hio hbr;rw[hset] at this;cases this
  ·have:=h j io hio hct;rw[hset] at this;cases this
 | k'::d,is,L,hpk,hz,hall,hcl,S,Z,a,w,hs,hag,hle,hpre,hr=>by
  simp only[pickO] at hpk;split at hpk
  ·rename_i io' is' hio_k hpk';simp only[snJ] at hpk;subst hpk;simp only[List.cons_append,qD6,Bool.and_eq_true,decide_eq_true_eq] at hall;rw[runDraw_cons] at hr;exact draw_step (nv:=nv) hJ hops hns hQ hlt0 hio_k hall.1.1 hall.1.2 hz hcl S Z a w hs hag hle hpre
    (λhc S' Z' a' w' hs' hag' hle' hpre' hr'=>draw_soundL hJ hops hns hQ hlt0 hio hst hsb hbr hct hg hK d is' _ hpk' (by simpa using hz) hall.2 hc S' Z' a' w' hs' hag' hle' hpre' hr') hr
  ·cases hpk
end
def altP(J:Nat->Option Con)(nv nt:Nat)(o:IOp)(S:St)(K:St->Prop):Prop :=
 match actOf S o.g with
 | some act=>(¬act/\qD8 nt o.d/\K (putD nv S o.d act (.c (.o (.val (.bool false)))) S.hp))\/match runP J S act o.p with
  | .still p v=>qD8 nt o.d/\p/\K (putD nv S o.d act v S.hp)
  | .quiet p v=>qD8 nt o.d/\p/\K (putD nv S o.d act v S.hp)
  | .ok p v hp=>bif qAp o.p then False else qD8 nt o.d/\act/\p/\K (putD nv S o.d act v hp)
  | _=>False
 | none=>False
def runT(J:Nat->Option Con)(nv nt:Nat)(hp0:List SB):DT->St->(St->Prop)->Prop
 | .fin,S,K=>K S
 | .one o r,S,K=>qAz J nv nt hp0 [o] S λS'=>runT J nv nt hp0 r S' K
 | .wk o r,S,K=>qAz J nv nt (qCg hp0) [o] S λS'=>runT J nv nt hp0 r S' K
 | .alt o t r,S,K=>altP J nv nt o S (λS'=>runT J nv nt hp0 t S' K)/\runT J nv nt hp0 r S K
 | .stop,S,K=>True
section
variable {E:Env} {J:Nat->Option Con} {raws:List Nat} {nv:Nat}
theorem alt_step(hJ:∀f C,J f=some C->Valid E.P f C){ops:Array Oper}{is0:List IOp}(hops:opers E.P raws ops ops.toList=some is0){Q:Exit->Act->World->Prop}
  {hp0:List SB} {Z0:Nat->Value} (hlt0:∀(i:Nat) (sb:SB),hp0[i]?=some sb->sb.lt hp0.length) {K:St->Prop} {k:Nat} {io:IOp} {L:Array Bool}
  (hio_k:is0[k]?=some io) (hkn:k<ops.size) (hat:altOK ops is0 L k=true) (hz:L.size=ops.size) (hcl:qBm ops L)
  (S:St) (Z:Nat->Value) (a:Act) (w:World) (hs:Sat E Z S a w) (hag:∀i<hp0.length,Z i=Z0 i) (hle:hp0.length<=S.hp.length)
  (hpre:Pre E is0 Z0 hp0 L S.hp w) {X:Act->World->Prop}
  (hrec:qBm ops (L.setIfInBounds k true)->∀(S':St) (Z':Nat->Value) (a':Act) (w':World),Sat E Z' S' a' w'->(∀i<hp0.length,Z' i=Z0 i)->hp0.length<=S'.hp.length ->
   Pre E is0 Z0 hp0 (L.setIfInBounds k true) S'.hp w'->K S'->X a' w')
  (hr:altP J nv E.nt io S K) :
  wpOp E.P ops Q k (λa' w'=>SI E is0 Z0 hp0 (L.setIfInBounds k true) w'/\X a' w') a w:=by
 have hkL:k<L.size:=by omega
 obtain⟨o,hok_k⟩:∃o,ops[k]?=some o:=⟨_,Array.getElem?_eq_getElem hkn⟩;have h1:oper E.P raws ops o=some io:=by
  obtain⟨io',h3,h4⟩:=opers_at hops k o (by simpa using hok_k);rw[hio_k] at h3;cases h3;exact h4
 simp only[altOK,hio_k,Bool.and_eq_true,Bool.not_eq_true',List.contains_iff_mem] at hat;obtain⟨⟨⟨⟨hnc0,_⟩,hready⟩,hsub⟩,hx⟩:=hat;obtain⟨raw,hprim⟩:=oper_prim h1;have hc1:qBm ops (L.setIfInBounds k true):=hcl.set hready;have hnc:quB io.p=false:=by
  cases h:io.p <;> first | rfl | (rw[h] at hnc0;cases hnc0)
 have hsubs:brkB io.p=false->qCn is0 subB L:=by
  intro hnb j b hj hb;rw[hnb,Bool.false_or,List.all_eq_true] at hx;have hj':(b,j)∈is0.zipIdx:=by
   rw[List.mem_zipIdx_iff_getElem?];exact hj
  have:=hx (b,j) hj';simp only[hb,Bool.not_true,Bool.false_or,Bool.not_eq_true'] at this;exact this
 unfold altP at hr;split at hr
 case h_2=>exact hr.elim
 rename_i act hact;obtain⟨hw,hd⟩:=qE6 hs h1 hact;have hok':act->OpOK E Z S a o (runP J S act io.p):=λha=>primB_sound (λi hi=>hs.hp.ref i hi) (λh sb hsb=>hs.hp.lt h sb hsb) hs.sl ha hprim hJ
 have hhp:∀(v:SV) (hp:List SB),(putD nv S io.d act v hp).hp=hp:=λv hp=>by cases io.d <;> rfl
 have next:∀(Z':Nat->Value) (w':World) (hp':List SB) (v:SV) (u:Value),qD8 E.nt io.d->(∀i<S.hp.length,Z' i=Z i)->S.hp.length<=hp'.length->Cls E Z' hp' w'->(act->u=v.den Z')->(¬act->u=undef)->(act->v.lt hp'.length)->(brkB io.p=false->∃x,hp'=S.hp++x)->(cutB io.p=false->Keep S.hp hp') ->
   K (putD nv S io.d act v hp')->SI E is0 Z0 hp0 (L.setIfInBounds k true) w'/\X (a.put o.dst u) w':=by
  intro Z' w' hp' v u hd1 hag' hlen hcls hu1 hu2 hlt hext hkeep hk;have hgr:=hpre.grow hlt0 hio_k hkL hag hle hag' hlen hcls hsubs hext hkeep;refine⟨hgr.si,?_⟩;rw[<-hd];exact hrec hc1 _ Z' _ w' (hs.next (nv:=nv) hd1 hag' hlen hcls hu1 hu2 hlt) (λi hi=>(hag' i (by omega)).trans (hag i hi))
   (by rw[hhp];omega) (by rw[hhp];exact hgr) hk
 unfold wpOp;simp only[hok_k];by_cases ha:act
 case neg =>
  rw[if_neg (λh=>ha (hw.1 h))];rcases hr with⟨_,hd1,hk⟩ | hr
  ·exact next Z w S.hp _ undef hd1 (λ_ _=>rfl) (Nat.le_refl _) ⟨hs.hp,hs.fr⟩ (λh=>(ha h).elim) (λ_=>rfl) (λh=>(ha h).elim) (λ_=>⟨[],by simp⟩) (λ_=>Keep.refl _) hk
  split at hr
  ·obtain⟨hd1,hp,hk⟩:=hr;exact next Z w S.hp _ undef hd1 (λ_ _=>rfl) (Nat.le_refl _) ⟨hs.hp,hs.fr⟩ (λh=>(ha h).elim) (λ_=>rfl) (λh=>(ha h).elim) (λ_=>⟨[],by simp⟩) (λ_=>Keep.refl _) hk
  ·obtain⟨hd1,hp,hk⟩:=hr;exact next Z w S.hp _ undef hd1 (λ_ _=>rfl) (Nat.le_refl _) ⟨hs.hp,hs.fr⟩ (λh=>(ha h).elim) (λ_=>rfl) (λh=>(ha h).elim) (λ_=>⟨[],by simp⟩) (λ_=>Keep.refl _) hk
  ·cases hstat:qAp io.p with
   | true=>rw[hstat] at hr;exact hr.elim
   | false =>
    rw[hstat] at hr;exact(ha hr.2.1).elim
  ·exact hr.elim
 have hok:=hok' ha;rw[if_pos (hw.2 ha)];refine .inl ?_;rcases hr with⟨hna,_,_⟩ | hr
 ·exact(hna ha).elim
 split at hr
 ·rename_i p v hrp;obtain⟨hd1,hp,hk⟩:=hr;rw[hrp] at hok;have hst:=hok hp;unfold Oper.wp;rw[hst.2 w ⟨hs.hp,hs.fr⟩ w];exact next Z w S.hp v _ hd1 (λ_ _=>rfl) (Nat.le_refl _) ⟨hs.hp,hs.fr⟩ (λ_=>rfl) (λh=>(h ha).elim) (λ_=>hst.1) (λ_=>⟨[],by simp⟩) (λ_=>Keep.refl _) hk
 ·rename_i p v hrp;obtain⟨hd1,hp,hk⟩:=hr;rw[hrp] at hok;obtain⟨hlt,hq⟩:=hok hp;refine Oper.wp_of_quiet (C:=Cls E Z S.hp) (K:=λa'=>a'=a.put o.dst (v.den Z)) ⟨hs.hp,hs.fr⟩ ?_ ⟨_,hq,rfl⟩;rintro a' w' hc rfl
  exact next Z w' S.hp v _ hd1 (λ_ _=>rfl) (Nat.le_refl _) hc (λ_=>rfl) (λh=>(h ha).elim) (λ_=>hlt) (λ_=>⟨[],by simp⟩) (λ_=>Keep.refl _) hk
 ·rename_i p v hp' hrp;cases hstat:qAp io.p with
  | true=>rw[hstat] at hr;exact hr.elim
  | false =>
   rw[hstat] at hr;simp only[cnF] at hr;obtain⟨hd1,_,hp,hk⟩:=hr;rw[hrp] at hok;obtain⟨hlt,hlen,hq⟩:=hok hp;refine hq w ⟨hs.hp,hs.fr⟩ _ Q λZ' w' hag' hcls=>?_
   exact next Z' w' hp' v _ hd1 hag' hlen hcls (λ_=>rfl) (λh=>(h ha).elim) (λ_=>hlt) (λhnb=>by
    obtain⟨x,rfl⟩:=ok_ext hrp hnb hstat hsub hnc;exact⟨[x],rfl⟩) (λhct=>ok_keep hrp hct hstat hnc) hk
 ·exact hr.elim
theorem weak_step{ops:Array Oper}{is0:List IOp}(hops:opers E.P raws ops ops.toList=some is0)(hns:Region.noSelect ops=true){Q:Exit->Act->World->Prop}(hQ:∀c a w,¬Q (.panic c) a w)
  {hp0:List SB} {Z0:Nat->Value} (hlt0:∀(i:Nat) (sb:SB),hp0[i]?=some sb->sb.lt hp0.length) {K:St->Prop} {n k:Nat} {io:IOp} {L:Array Bool}
  (hio_k:is0[k]?=some io) (hkn:k<ops.size) (hat:drawWk ops is0 L k=true) (hz:L.size=ops.size) (hcl:qBm ops L)
  (S:St) (Z:Nat->Value) (a:Act) (w:World) (hs:Sat E Z S a w) (hag:∀i<hp0.length,Z i=Z0 i) (hle:hp0.length<=S.hp.length)
  (hpre:Pre E is0 Z0 hp0 L S.hp w)
  (hrec:qBm ops (L.setIfInBounds k true)->∀(S':St) (Z':Nat->Value) (a':Act) (w':World),Sat E Z' S' a' w'->(∀i<hp0.length,Z' i=Z0 i)->hp0.length<=S'.hp.length ->
   Pre E is0 Z0 hp0 (L.setIfInBounds k true) S'.hp w'->K S' ->
   qCl E.P .any ops Q (SI E is0 Z0 hp0) n (L.setIfInBounds k true) a' w')
  (hr:qAz J nv E.nt (qCg hp0) [io] S K) :
  qCl E.P .any ops Q (SI E is0 Z0 hp0) (n+1) L a w:=by
 have hkL:k<L.size:=by omega
 have hlenC:(qCg hp0).length=hp0.length:=by simp[qCg]
 have hltC:∀(i:Nat) (sb:SB),(qCg hp0)[i]?=some sb->sb.lt (qCg hp0).length:=by
  intro i sb h;rcases qEx h with rfl | ⟨t,c,rfl,h1⟩
  ·trivial
  ·rw[hlenC];exact hlt0 i _ h1
 obtain⟨o,hok_k⟩:∃o,ops[k]?=some o:=⟨_,Array.getElem?_eq_getElem hkn⟩;have h1:oper E.P raws ops o=some io:=by
  obtain⟨io',h3,h4⟩:=opers_at hops k o (by simpa using hok_k);rw[hio_k] at h3;cases h3;exact h4
 simp only[drawWk,hio_k,Bool.and_eq_true,List.contains_iff_mem,List.all_eq_true] at hat;obtain⟨⟨⟨hlp,hready⟩,hfree⟩,hcut⟩:=hat;have hun:L.getD k true=false:=(mem_ready.1 hready).1;obtain⟨raw,hprim⟩:=oper_prim h1;have hhp:∀(act:Prop) (v:SV),(putD nv S io.d act v S.hp).hp=S.hp:=λact v=>by cases io.d <;> rfl
 cases hpr:io.p <;> rw[hpr] at hlp <;> simp only[loadP,Bool.false_eq_true] at hlp
 rename_i m y;have hnb:brkB io.p=false:=by rw[hpr];rfl
 have hnc:cutB io.p=false:=by rw[hpr];rfl
 have hSi:∀(l:Array Bool) (w:World),SI E is0 Z0 hp0 (l.setIfInBounds k true) w↔SI E is0 Z0 hp0 l w:=by
  intro l w;have e1:qCn is0 brkB (l.setIfInBounds k true)↔qCn is0 brkB l:=by
   rcases Nat.lt_or_ge k l.size with hk | hk
   ·exact⟨λh=>h.of_set hk,λh=>h.to_set hio_k hnb⟩
   ·rw[show l.setIfInBounds k true=l by simp[Array.setIfInBounds,Nat.not_lt.2 hk]]
  have e2:qCn is0 cutB (l.setIfInBounds k true)↔qCn is0 cutB l:=by
   rcases Nat.lt_or_ge k l.size with hk | hk
   ·exact⟨λh=>h.of_set hk,λh=>h.to_set hio_k hnc⟩
   ·rw[show l.setIfInBounds k true=l by simp[Array.setIfInBounds,Nat.not_lt.2 hk]]
  unfold SI;rw[e1,e2]
 simp only[qAz,hpr] at hr;split at hr
 ·rename_i act hact;obtain⟨hw,hd⟩:=qE6 hs h1 hact;rcases hr with⟨hna,hd1,hr⟩ | hr
  ·have hnw:Region.wanted o (yielded ops a.tmps)=false:=by
    cases hh:Region.wanted o (yielded ops a.tmps) with
    | false=>rfl
    | true=>exact(hna (hw.1 hh)).elim
   refine qB1 (v:=undef) hok_k (Region.noSelect_spec hns) (λc a w h=>(hQ _ _ _ h).elim) (λl=>qBm ops l/\l.getD k true=false)
    (λl j hT hj hjk=>⟨hT.1.set hj,by rw[getD_set_ne true hjk];exact hT.2⟩) hSi n _ a w ⟨hcl,hun⟩ (Region.free_spec hok_k hfree) hready (.inr ⟨hnw,rfl⟩) hpre.si ?_
   rw[<-hd];exact hrec (hcl.set hready) _ Z _ w (hs.next (nv:=nv) hd1 (λ_ _=>rfl) (Nat.le_refl _) ⟨hs.hp,hs.fr⟩ (λh=>(hna h).elim) (λ_=>rfl) (λh=>(hna h).elim)) hag (by rw[hhp];exact hle) (by rw[hhp];exact hpre.stay hkL) hr
  split at hr
  ·rename_i p s harg;split at hr
   ·rename_i p' v hrp;obtain⟨hd1,hsl,hp,hr⟩:=hr;rw[hpr] at hprim;obtain⟨t,x,hop,hcn,hx⟩:=prim_load hprim;have hpp:p'->p/\∃q,loadR (qCg hp0) m s=.quiet q v/\(act->q):=by
     cases hlr:loadR (qCg hp0) m s with
     | no=>rw[hlr] at hrp;cases hrp
     | still q u=>rw[hlr] at hrp;cases hrp
     | any q u=>rw[hlr] at hrp;cases hrp
     | ok q u z=>rw[hlr] at hrp;cases hrp
     | quiet q u =>
      rw[hlr] at hrp;simp only[owe,RR.quiet.injEq] at hrp;obtain⟨rfl,rfl⟩:=hrp;exact λh=>⟨h.1,q,rfl,h.2⟩
    obtain⟨hpa,q,hlr,hq⟩:=hpp hp;have hagC:∀i<(qCg hp0).length,Z i=Z0 i:=λi hi=>hag i (by omega)
    have hload:act->v.lt (qCg hp0).length/\∀w,Cls E Z0 (qCg hp0) w->(execOp a.eval o).run E.P w=.ok (.value (v.den Z0)) w:=λha=>by
     obtain⟨e1,_⟩:=qAc hs.sl ha hx harg hpa;have e2:a.eval x=s.den Z0:=by
      rw[e1];exact S0.den_congr (Z:=Z0) (Z':=Z) hagC (S0.lt_of hsl)
     have:=load_ok (E:=E) (Z:=Z0) (S:=⟨[],qCg hp0⟩) (a:=a) (o:=o) hltC hcn e2 hop;simp only[hlr] at this;obtain⟨h3,h4⟩:=this (hq ha);exact⟨h3,λw hw=>load_run hop (h4 w hw)⟩
    have fin:∀u:Value,(act->u=v.den Z)->(¬act->u=undef)->qCl E.P .any ops Q (SI E is0 Z0 hp0) n (L.setIfInBounds k true) (a.put o.dst u) w:=by
     intro u hu1 hu2;rw[<-hd];exact hrec (hcl.set hready) _ Z _ w (hs.next (nv:=nv) hd1 (λ_ _=>rfl) (Nat.le_refl _) ⟨hs.hp,hs.fr⟩ hu1 hu2 (λha=>SV.lt_mono (by omega) (hload ha).1)) hag (by rw[hhp];exact hle) (by rw[hhp];exact hpre.stay hkL) hr
    by_cases ha:act
    ·refine qB1 (v:=v.den Z) hok_k (Region.noSelect_spec hns) (λc a w h=>(hQ _ _ _ h).elim) (λl=>qBm ops l/\l.getD k true=false)
      (λl j hT hj hjk=>⟨hT.1.set hj,by rw[getD_set_ne true hjk];exact hT.2⟩) hSi n _ a w ⟨hcl,hun⟩ (Region.free_spec hok_k hfree) hready (.inl ⟨hw.2 ha,?_⟩) hpre.si (fin _ (λ_=>rfl) λh=>(h ha).elim)
     rintro w' ⟨l,⟨hcl',hun'⟩,hSl⟩
     have hden:v.den Z=v.den Z0:=SV.den_congr hagC (hload ha).1;rw[hden];exact(hload ha).2 w' (hSl.2 (qCn.out hcl' hun' λx hx=>by have:=hcut x hx;simpa using this))
    ·have hnw:Region.wanted o (yielded ops a.tmps)=false:=by
      cases hh:Region.wanted o (yielded ops a.tmps) with
      | false=>rfl
      | true=>exact(ha (hw.1 hh)).elim
     exact qB1 (v:=undef) hok_k (Region.noSelect_spec hns) (λc a w h=>(hQ _ _ _ h).elim) (λl=>qBm ops l/\l.getD k true=false)
      (λl j hT hj hjk=>⟨hT.1.set hj,by rw[getD_set_ne true hjk];exact hT.2⟩) hSi n _ a w ⟨hcl,hun⟩ (Region.free_spec hok_k hfree) hready (.inr ⟨hnw,rfl⟩) hpre.si (fin _ (λh=>(ha h).elim) λ_=>rfl)
   ·exact hr.elim
  ·exact hr.elim
 ·exact hr.elim
theorem qD7(hJ:∀f C,J f=some C->Valid E.P f C){ops:Array Oper}{is0:List IOp}(hops:opers E.P raws ops ops.toList=some is0)(hns:Region.noSelect ops=true){Q:Exit->Act->World->Prop}(hQ:∀c a w,¬Q (.panic c) a w){K:St->Prop}
  {hp0:List SB} {Z0:Nat->Value} (hlt0:∀(i:Nat) (sb:SB),hp0[i]?=some sb->sb.lt hp0.length)
  (hK:∀S' Z' a' w',Sat E Z' S' a' w'->K S'->Q .normal a' w') :
  ∀(t:KT) (dt:DT) (m:Bool) (L:Array Bool),pickT is0 t=some dt->L.size=ops.size->drawT ops is0 t m L=true->qBm ops L ->
   ∀(S:St) (Z:Nat->Value) (a:Act) (w:World),Sat E Z S a w->(∀i<hp0.length,Z i=Z0 i)->hp0.length<=S.hp.length->Pre E is0 Z0 hp0 L S.hp w ->
   runT J nv E.nt hp0 dt S K ->
   if m then ∀j∈t.ks,wpOp E.P ops Q j (λa' w'=>SI E is0 Z0 hp0 (L.setIfInBounds j true) w'/\qCl E.P .any ops Q (SI E is0 Z0 hp0) (left (L.setIfInBounds j true)) (L.setIfInBounds j true) a' w') a w
   else qCl E.P .any ops Q (SI E is0 Z0 hp0) (left L) L a w
 | .fin,dt,m,L,hpk,hz,hall,hcl,S,Z,a,w,hs,hag,hle,hpre,hr=>by
  simp only[drawT,Bool.and_eq_true,Bool.not_eq_true'] at hall;simp only[pickT,snJ] at hpk;subst hpk;obtain⟨rfl,hall⟩:=hall;have he:=draw_end hz hall;simp only[Bool.false_eq_true,if_false];cases left L with
  | zero=>exact⟨he,hK S Z a w hs hr⟩
  | succ n=>exact⟨λ_=>hK S Z a w hs hr,λj hj=>by rw[he] at hj;cases hj⟩
 | .one k r,dt,m,L,hpk,hz,hall,hcl,S,Z,a,w,hs,hag,hle,hpre,hr=>by
  simp only[drawT,Bool.and_eq_true,Bool.not_eq_true',decide_eq_true_eq] at hall;obtain⟨⟨⟨rfl,hkn⟩,hat⟩,hall⟩:=hall;simp only[pickT] at hpk;split at hpk
  ·rename_i io dr hio_k hpr;simp only[snJ] at hpk;subst hpk;simp only[Bool.false_eq_true,if_false];have hkL:k<L.size:=by omega
   have hun:L.getD k false=false:=by
    have h:=drawAt_ready hat;have:=ready_un h;simp only[Array.getD_eq_getD_getElem?,Array.getElem?_eq_getElem hkL,Option.getD_some] at this ⊢;exact this
   rw[<-left_set hkL hun];refine draw_step (nv:=nv) hJ hops hns hQ hlt0 hio_k hkn hat hz hcl S Z a w hs hag hle hpre (λhc S' Z' a' w' hs' hag' hle' hpre' hr'=>?_) hr;have:=qD7 hJ hops hns hQ hlt0 hK r dr false _ hpr (by simpa using hz) hall hc S' Z' a' w' hs' hag' hle' hpre' hr';simpa only [Bool.false_eq_true,if_false] using this
  ·cases hpk
 | .wk k r,dt,m,L,hpk,hz,hall,hcl,S,Z,a,w,hs,hag,hle,hpre,hr=>by
  simp only[drawT,Bool.and_eq_true,Bool.not_eq_true',decide_eq_true_eq] at hall;obtain⟨⟨⟨rfl,hkn⟩,hat⟩,hall⟩:=hall;simp only[pickT] at hpk;split at hpk
  ·rename_i io dr hio_k hpr;simp only[snJ] at hpk;subst hpk;simp only[Bool.false_eq_true,if_false];have hkL:k<L.size:=by omega
   have hun:L.getD k false=false:=by
    have hat':=hat;simp only[drawWk,hio_k,Bool.and_eq_true,List.contains_iff_mem] at hat';have:=ready_un hat'.1.1.2;simp only[Array.getD_eq_getD_getElem?,Array.getElem?_eq_getElem hkL,Option.getD_some] at this ⊢;exact this
   rw[<-left_set hkL hun];refine weak_step (nv:=nv) (J:=J) hops hns hQ hlt0 hio_k hkn hat hz hcl S Z a w hs hag hle hpre (λhc S' Z' a' w' hs' hag' hle' hpre' hr'=>?_) hr;have:=qD7 hJ hops hns hQ hlt0 hK r dr false _ hpr (by simpa using hz) hall hc S' Z' a' w' hs' hag' hle' hpre' hr';simpa only [Bool.false_eq_true,if_false] using this
  ·cases hpk
 | .alt k t r,dt,m,L,hpk,hz,hall,hcl,S,Z,a,w,hs,hag,hle,hpre,hr=>by
  simp only[drawT,Bool.and_eq_true,Bool.or_eq_true,decide_eq_true_eq,List.all_eq_true,List.contains_iff_mem] at hall;obtain⟨⟨⟨⟨hcov,hkn⟩,hat⟩,hallt⟩,hallr⟩:=hall;simp only[pickT] at hpk;split at hpk
  ·rename_i io dt' dr hio_k hpt hpr;simp only[snJ] at hpk;subst hpk;obtain⟨hr1,hr2⟩:=hr;have hkL:k<L.size:=by omega
   have hready:k∈Region.ready .any ops L:=by
    simp only[altOK,hio_k,Bool.and_eq_true,List.contains_iff_mem] at hat;exact hat.1.1.2
   have hun:L.getD k false=false:=by
    have:=ready_un hready;simp only[Array.getD_eq_getD_getElem?,Array.getElem?_eq_getElem hkL,Option.getD_some] at this ⊢;exact this
   have all:∀j∈(KT.alt k t r).ks,wpOp E.P ops Q j (λa' w'=>SI E is0 Z0 hp0 (L.setIfInBounds j true) w'/\qCl E.P .any ops Q (SI E is0 Z0 hp0) (left (L.setIfInBounds j true)) (L.setIfInBounds j true) a' w') a w:=by
    intro j hj;rcases List.mem_cons.1 hj with rfl | hj
    ·refine alt_step (nv:=nv) hJ hops hlt0 hio_k hkn hat hz hcl S Z a w hs hag hle hpre (λhc S' Z' a' w' hs' hag' hle' hpre' hr'=>?_) hr1;have:=qD7 hJ hops hns hQ hlt0 hK t dt' false _ hpt (by simpa using hz) hallt hc S' Z' a' w' hs' hag' hle' hpre' hr';simpa only [Bool.false_eq_true,if_false] using this
    ·have:=qD7 hJ hops hns hQ hlt0 hK r dr true L hpr hz hallr hcl S Z a w hs hag hle hpre hr2;simp only[if_true] at this;exact this j hj
   cases m with
   | true=>simpa only [if_true] using all
   | false =>
    simp only[Bool.false_eq_true,if_false];rw[<-left_set hkL hun];refine⟨λh0=>(by rw[h0] at hready;cases hready),λj hj=>?_⟩;have h:=all j ((hcov.resolve_left (by simp)) j hj);have hjL:j<L.size:=by
     have:=(mem_ready.1 hj).2;obtain⟨oj,hoj,_⟩:=this;have:=(Array.getElem?_eq_some_iff.1 hoj).1;omega
    have hunj:L.getD j false=false:=by
     have:=ready_un hj;simp only[Array.getD_eq_getD_getElem?,Array.getElem?_eq_getElem hjL,Option.getD_some] at this ⊢;exact this
    have e1:=left_set hkL hun;have e2:=left_set hjL hunj;have e3:left (L.setIfInBounds k true)=left (L.setIfInBounds j true):=by omega
    rw[e3];exact h
  ·cases hpk
 | .stop,dt,m,L,hpk,hz,hall,hcl,S,Z,a,w,hs,hag,hle,hpre,hr=>by
  simp only[drawT] at hall;subst hall;simp only[if_true];intro j hj;cases hj
end
inductive Fr where
 | code (c:IC)
 | blk (id:Nat)
 | mid (Post:St->Prop)
def rvE(S:St):RV->Option (Prop × SC)
 | .tmp t=>match getE S.sl t with
  | some (c,.c x)=>some (c,x)
  | _=>none
 | .cell a n=>match getE S.sl a with
  | some (c,.c (.o (.hd h off)))=>match S.hp[h]? with
   | some (.cells _ l)=>match n with
    | none=>match l[off]? with
     | some x=>some (c,.o x)
     | none=>none
    | some m=>bif Nat.ble (off+m) l.length then some (c,.agg (qBg l off m)) else none
   | _=>none
  | _=>none
def resE(S:St):List RV->Option (Prop × List SC)
 | []=>some (True,[])
 | x::r=>match rvE S x,resE S r with
  | some (p,v),some (q,l)=>some (p/\q,v::l)
  | _,_=>none
def mkRes:List SC->SV
 | [x]=>.c x
 | l=>.tup l
structure Ctx where
 E:Env
 J:Nat->Option Con
 raws:List Nat
 nv:Nat
 rv:List RV
 Post:SV->List SB->Prop
 hJ:∀f C,J f=some C->Valid E.P f C
section
variable {X:Ctx} {k:List Fr} {S:St}
theorem comp_seq{P:Program}{raws:List Nat}{c:Code}{a b:IC}(h:comp P raws c=some (.seq a b)):∃x y,c=.seq x y/\comp P raws x=some a/\comp P raws y=some b:=by
 cases c <;> simp only[comp,reduceCtorEq,snJ,Option.map_eq_some_iff,and_false,exists_false] at h
 case seq x y =>
  split at h
  ·rename_i h1 h2;cases h;exact⟨x,y,rfl,h1,h2⟩
  ·cases h
 case region =>
  split at h
  ·split at h
   ·split at h
    ·split at h <;> cases h
    ·split at h <;> cases h
   ·cases h
  ·cases h
 case cond =>
  split at h <;> cases h
theorem comp_cond{P:Program}{raws:List Nat}{c:Code}{x:Arg}{a b:IC}(h:comp P raws c=some (.cond x a b)):∃o y z,c=.cond o y z/\arg o=some x/\comp P raws y=some a/\comp P raws z=some b:=by
 cases c <;> simp only[comp,reduceCtorEq,snJ,Option.map_eq_some_iff,and_false,exists_false] at h
 case seq x y =>
  split at h <;> cases h
 case region =>
  split at h
  ·split at h
   ·split at h
    ·split at h <;> cases h
    ·split at h <;> cases h
   ·cases h
  ·cases h
 case cond o y z =>
  split at h
  ·rename_i h1 h2 h3;cases h;exact⟨o,y,z,rfl,h1,h2,h3⟩
  ·cases h
theorem comp_block{P:Program}{raws:List Nat}{c:Code}{id:Nat}{b:IC}(h:comp P raws c=some (.block id b)):∃y,c=.block id y/\comp P raws y=some b:=by
 cases c <;> simp only[comp,reduceCtorEq,snJ,Option.map_eq_some_iff,and_false,exists_false] at h
 case seq x y=>split at h <;> cases h
 case region =>
  split at h
  ·split at h
   ·split at h
    ·split at h <;> cases h
    ·split at h <;> cases h
   ·cases h
  ·cases h
 case cond=>split at h <;> cases h
 case block id' y=>obtain⟨z,h1,h2⟩:=h;cases h2;exact⟨y,rfl,h1⟩
theorem comp_loop{P:Program}{raws:List Nat}{c:Code}{b:IC}(h:comp P raws c=some (.loop b)):∃y,c=.loop y/\comp P raws y=some b:=by
 cases c <;> simp only[comp,reduceCtorEq,snJ,Option.map_eq_some_iff,and_false,exists_false] at h
 case seq x y=>split at h <;> cases h
 case region =>
  split at h
  ·split at h
   ·split at h
    ·split at h <;> cases h
    ·split at h <;> cases h
   ·cases h
  ·cases h
 case cond=>split at h <;> cases h
 case loop y=>obtain⟨z,h1,h2⟩:=h;cases h2;exact⟨y,rfl,h1⟩
theorem comp_exit{P:Program}{raws:List Nat}{c:Code}{id:Nat}(h:comp P raws c=some (.exit id)):c=.exit id:=by
 cases c <;> simp only[comp,reduceCtorEq,snJ,Option.map_eq_some_iff,and_false,exists_false] at h
 case seq x y=>split at h <;> cases h
 case region =>
  split at h
  ·split at h
   ·split at h
    ·split at h <;> cases h
    ·split at h <;> cases h
   ·cases h
  ·cases h
 case cond=>split at h <;> cases h
 case exit=>cases h;rfl
theorem comp_ret{P:Program}{raws:List Nat}{c:Code}(h:comp P raws c=some .ret):c=.ret:=by
 cases c <;> simp only[comp,reduceCtorEq,snJ,Option.map_eq_some_iff,and_false,exists_false] at h
 case seq x y=>split at h <;> cases h
 case region =>
  split at h
  ·split at h
   ·split at h
    ·split at h <;> cases h
    ·split at h <;> cases h
   ·cases h
  ·cases h
 case cond=>split at h <;> cases h
 case ret=>rfl
theorem comp_skip{P:Program}{raws:List Nat}{c:Code}(h:comp P raws c=some .skip):c=.skip\/∃l,c=.label l:=by
 cases c <;> simp only[comp,reduceCtorEq,snJ,Option.map_eq_some_iff,and_false,exists_false] at h
 case seq x y=>split at h <;> cases h
 case region =>
  split at h
  ·split at h
   ·split at h
    ·split at h <;> cases h
    ·split at h <;> cases h
   ·cases h
  ·cases h
 case cond=>split at h <;> cases h
 case skip=>exact .inl rfl
 case label l=>exact .inr ⟨l,rfl⟩
theorem comp_reg{P:Program}{raws:List Nat}{c:Code}{last:Nat}{ops:List IOp}(h:comp P raws c=some (.reg last none ops)):∃id l,c=.region id l false/\opers P raws l l.toList=some ops:=by
 cases c <;> simp only[comp,reduceCtorEq,snJ,Option.map_eq_some_iff,and_false,exists_false] at h
 case seq x y=>split at h <;> cases h
 case region id l d =>
  split at h
  ·rename_i is his;cases d
   ·simp only[Bool.false_eq_true,if_false,snJ] at h;cases h;exact⟨id,l,rfl,his⟩
   ·simp only[if_true] at h;split at h
    ·split at h <;> cases h
    ·split at h <;> cases h
  ·cases h
 case cond=>split at h <;> cases h
theorem comp_regD{P:Program}{raws:List Nat}{c:Code}{last:Nat}{d:List Nat}{ops:List IOp}(h:comp P raws c=some (.reg last (some d) ops)):∃id l is,c=.region id l true/\opers P raws l l.toList=some is/\pickO is d=some ops/\P.follows .mixedOrders=true/\drawOK l is d=true:=by
 cases c <;> simp only[comp,reduceCtorEq,snJ,Option.map_eq_some_iff,and_false,exists_false] at h
 case seq x y=>split at h <;> cases h
 case region id l d =>
  split at h
  ·rename_i is his;cases d
   ·simp only[Bool.false_eq_true,if_false,snJ] at h;cases h
   ·simp only[if_true] at h;split at h;rotate_left
    ·split at h <;> cases h
    rename_i m hm;split at h
    ·cases h
    cases h;unfold drawn at hm;split at hm
    ·split at hm
     ·rename_i hp;split at hm
      ·rename_i hc;cases hm;simp only[Bool.and_eq_true] at hc;exact⟨id,l,is,rfl,his,hp,hc.1,hc.2⟩
      ·cases hm
     ·cases hm
    ·cases hm
  ·cases h
 case cond=>split at h <;> cases h
theorem comp_regT{P:Program}{raws:List Nat}{c:Code}{last:Nat}{dt:DT}(h:comp P raws c=some (.regT last dt)):∃id l is t,c=.region id l true/\opers P raws l l.toList=some is/\pickT is t=some dt/\P.follows .mixedOrders=true/\Region.noSelect l=true/\drawT l is t false (Array.replicate l.size false)=true:=by
 cases c <;> simp only[comp,reduceCtorEq,snJ,Option.map_eq_some_iff,and_false,exists_false] at h
 case seq x y=>split at h <;> cases h
 case region id l d =>
  split at h
  ·rename_i is his;cases d
   ·simp only[Bool.false_eq_true,if_false,snJ] at h;cases h
   ·simp only[if_true] at h;split at h
    ·split at h <;> cases h
    ·split at h
     ·rename_i m hm;cases h;unfold drawnT at hm;split at hm
      ·rename_i t _;split at hm
       ·rename_i hp;split at hm
        ·rename_i hc;cases hm;simp only[Bool.and_eq_true] at hc;exact⟨id,l,is,t,rfl,his,hp,hc.1,hc.2.1,hc.2.2⟩
        ·cases hm
       ·cases hm
      ·cases hm
     ·cases h
  ·cases h
 case cond=>split at h <;> cases h
theorem comp_regL{P:Program}{raws:List Nat}{c:Code}{last k:Nat}{d:List Nat}{ops:List IOp}{io:IOp}(h:comp P raws c=some (.regL last d k ops io)):∃id l is,c=.region id l true/\opers P raws l l.toList=some is/\pickO is d=some ops/\is[k]?=some io/\(io.g=none/\∃y ys,io.p=.callV y ys)/\P.follows .mixedOrders=true/\drawOK l is (d++[k])=true:=by
 cases c <;> simp only[comp,reduceCtorEq,snJ,Option.map_eq_some_iff,and_false,exists_false] at h
 case seq x y=>split at h <;> cases h
 case region id l d0 =>
  split at h
  ·rename_i is his;cases d0
   ·simp only[Bool.false_eq_true,if_false,snJ] at h;cases h
   ·simp only[if_true] at h;split at h;rotate_left
    ·split at h <;> cases h
    rename_i m hm;split at h
    ·rename_i x hx;cases h;obtain⟨e1,e2,e3,e4⟩:=lastV_spec hx;unfold drawn at hm;split at hm
     ·split at hm
      ·rename_i hp;split at hm
       ·rename_i hc;cases hm;simp only[Bool.and_eq_true] at hc;simp only at e1 e2;rw[e1,e2] at hp;have hl:=pickO_len hp;obtain⟨p1,p2⟩:=pickO_app (by simpa using hl) hp;refine⟨id,l,is,rfl,his,p1,?_,⟨e3,e4⟩,hc.1,by rw[<-e1];exact hc.2⟩;simp only[pickO] at p2;split at p2
        ·rename_i o' r' q1 q2;cases p2;exact q1
        ·cases p2
       ·cases hm
      ·cases hm
     ·cases hm
    ·cases h
  ·cases h
 case cond=>split at h <;> cases h
def S0.ren(Y:List Nat):S0->S0
 | .val v=>.val v
 | .hd h n=>.hd (Y.getD h 0) n
 | .own h=>.own (Y.getD h 0)
 | .el h i sz n=>.el (Y.getD h 0) i sz n
 | .opt c h n=>.opt c (Y.getD h 0) n
 | .bsl k=>.bsl (Y.getD k 0)
 | .prj k i j=>.prj (Y.getD k 0) i j
 | .pel k i sz n=>.pel (Y.getD k 0) i sz n
 | .ar h off n i=>.ar (Y.getD h 0) off n i
 | .asl h off n lo len=>.asl (Y.getD h 0) off n lo len
def SC.ren(Y:List Nat):SC->SC
 | .o x=>.o (x.ren Y)
 | .agg l=>.agg (l.map (S0.ren Y))
def SV.ren(Y:List Nat):SV->SV
 | .c x=>.c (x.ren Y)
 | .tup l=>.tup (l.map (SC.ren Y))
theorem S0.ren_den(Y:List Nat)(Z:Nat->Value)(x:S0):(x.ren Y).den Z=x.den λi=>Z (Y.getD i 0):=by cases x <;> rfl
theorem SC.ren_den(Y:List Nat)(Z:Nat->Value)(x:SC):(x.ren Y).den Z=x.den λi=>Z (Y.getD i 0):=by
 cases x with
 | o x=>exact S0.ren_den Y Z x
 | agg l=>simp only[SC.ren,SC.den,List.map_map];congr 2;exact List.map_congr_left λy _=>S0.ren_den Y Z y
theorem SV.ren_den(Y:List Nat)(Z:Nat->Value)(x:SV):(x.ren Y).den Z=x.den λi=>Z (Y.getD i 0):=by
 cases x with
 | c x=>exact SC.ren_den Y Z x
 | tup l=>simp only[SV.ren,SV.den,List.map_map];congr 2;exact List.map_congr_left λy _=>SC.ren_den Y Z y
def qDh:List Nat->Bool
 | []=>true
 | x::r=>!r.contains x && qDh r
theorem nodup_spec:∀ {l:List Nat},qDh l=true->∀(i j x:Nat),l[i]?=some x->l[j]?=some x->i=j
 | [],_,i,j,x,hi,_=>by simp at hi
 | y::r,h,i,j,x,hi,hj=>by
  simp only[qDh,Bool.and_eq_true,Bool.not_eq_true'] at h;cases i <;> cases j
  ·rfl
  ·simp at hi hj;subst hi;have:=List.mem_of_getElem? hj;simp_all
  ·simp at hi hj;subst hj;have:=List.mem_of_getElem? hi;simp_all
  ·simp at hi hj;rw[nodup_spec h.2 _ _ x hi hj]
end
def resSem(tmps:Array Value):ResultVar->Sem Value
 | .tmp t=>pure (tmps.getD t undef)
 | .cell a t=>do loadVar t (<-asAddr (tmps.getD a undef))
theorem rv_run{E:Env}{Z:Nat->Value}{S:St}{a:Act}{w:World}(hs:Sat E Z S a w){r:ResultVar}{rs:List ResultVar}{x:RV}{p:Prop}{v:SC}(hx:rvs E.P [r]=some [x])(h:rvE S x=some (p,v))(hp:p) :
  (resSem a.tmps r).run E.P w=.ok (v.den Z) w/\v.lt S.hp.length:=by
 cases r with
 | tmp t =>
  simp only[rvs,snJ,List.cons.injEq,and_true] at hx;subst hx;simp only[rvE] at h;split at h
  ·rename_i c y hg;simp only[snJ,Prod.mk.injEq] at h;obtain⟨rfl,rfl⟩:=h;obtain⟨h1,_,h3⟩:=hs.sl t c _ hg;refine⟨?_,h3 hp⟩;have:=h1 hp;simp[resSem,Array.getD_eq_getD_getElem?,this,SV.den]
  ·cases h
 | cell c t =>
  simp only[rvs] at hx;split at hx
  ·rename_i n s hn h0;simp only[rvs,snJ] at h0;subst h0;simp only[snJ,List.cons.injEq,and_true] at hx;subst hx;simp only[rvE] at h;split at h
   ·rename_i cc hh off hg;obtain⟨h1,_,h3⟩:=hs.sl c cc _ hg;split at h
    ·rename_i e l hsb;obtain⟨b,hv,hb,_⟩:=hs.hp.sat hh _ hsb;have hlt:=hs.hp.lt hh _ hsb;have hcell:∀j u,(l.map (S0.den Z))[j]?=some u->w.cell? ⟨b,j,none⟩=some u:=λj u hu=>by
      rw[cell_of_row w b j _ e (0,0) hb];simpa using hu
     have key:cc->a.tmps.getD c undef=.pointer (some ⟨b,off,none⟩):=λhcc=>by
      have:=h1 hcc;simp only[SV.den,SC.den,S0.den,hv,qAi] at this;simp[Array.getD_eq_getD_getElem?,this]
     cases n with
     | none =>
      simp only at h;split at h
      ·rename_i y hy;simp only[snJ,Prod.mk.injEq] at h;obtain⟨rfl,rfl⟩:=h;refine⟨?_,hlt y (List.mem_of_getElem? hy)⟩;simp only[resSem,Sem.run_bind,key hp,asAddr,Sem.run_pure,Result.andThen_ok,SC.den];exact qBz hn (hcell off _ (by simp[hy]))
      ·cases h
     | some m =>
      simp only at h;cases hb':Nat.ble (off+m) l.length with
      | false=>rw[hb'] at h;cases h
      | true =>
       rw[hb'] at h;simp only[cnT,snJ,Prod.mk.injEq] at h;obtain⟨rfl,rfl⟩:=h;have hle:off+m<=l.length:=by simpa using hb'
       refine⟨?_,λy hy=>hlt y (List.mem_of_mem_drop (List.mem_of_mem_take hy))⟩;simp only[resSem,Sem.run_bind,key hp,asAddr,Sem.run_pure,Result.andThen_ok];have e1:(qBg l off m).map (S0.den Z)=((l.map (S0.den Z)).drop off).take m:=by
        unfold qBg;rw[<-List.map_drop,<-List.map_take]
       have hr:=qDm (P:=E.P) (w:=w) (t:=t) (n:=m) (ad:=⟨b,off,none⟩) (cs:=((l.map (S0.den Z)).drop off).take m) hn (by simp;omega)
        (λj v hv=>by rw[<-qAw,add_add,qAw];exact hcell _ _ (sub_get hv))
       rw[hr,SC.den,e1]
    ·cases h
   ·cases h
  ·cases hx
theorem rvs_cons{P:Program}{r:ResultVar}{rs:List ResultVar}{xs:List RV}(h:rvs P (r::rs)=some xs):∃x s,xs=x::s/\rvs P [r]=some [x]/\rvs P rs=some s:=by
 cases r with
 | tmp t =>
  simp only[rvs] at h;split at h
  ·rename_i s hs;cases h;exact⟨_,_,rfl,rfl,hs⟩
  ·cases h
 | cell a t =>
  simp only[rvs] at h;split at h
  ·rename_i n s hn hs;cases h;exact⟨_,_,rfl,by simp[rvs,hn],hs⟩
  ·cases h
theorem rvs_run{E:Env}{Z:Nat->Value}{S:St}{a:Act}{w:World}(hs:Sat E Z S a w):∀ {rs:List ResultVar} {xs:List RV} {p:Prop} {l:List SC},rvs E.P rs=some xs->resE S xs=some (p,l)->p ->
  (rs.mapM (resSem a.tmps)).run E.P w=.ok (l.map (SC.den Z)) w/\∀v∈l,v.lt S.hp.length
 | [],xs,p,l,hx,h,hp=>by
  simp only[rvs,snJ] at hx;subst hx;simp only[resE,snJ,Prod.mk.injEq] at h;obtain⟨_,rfl⟩:=h;exact⟨by simp,λv hv=>by simp at hv⟩
 | r::rs,xs,p,l,hx,h,hp=>by
  obtain⟨x,s,rfl,h1,h2⟩:=rvs_cons hx;simp only[resE] at h;split at h
  ·rename_i q v q2 l2 h3 h4;simp only[snJ,Prod.mk.injEq] at h;obtain⟨rfl,rfl⟩:=h;obtain⟨e1,e2⟩:=rv_run (rs:=[]) hs h1 h3 hp.1;obtain⟨e3,e4⟩:=rvs_run hs h2 h4 hp.2;refine⟨?_,λu hu=>?_⟩
   ·rw[List.mapM_cons,Sem.run_bind,e1];simp only[Result.andThen_ok,Sem.run_bind,e3,Sem.run_pure,List.map_cons]
   ·rcases List.mem_cons.1 hu with rfl | hu
    ·exact e2
    ·exact e4 u hu
  ·cases h
theorem results_run{E:Env}{Z:Nat->Value}{S:St}{a:Act}{w:World}(hs:Sat E Z S a w){fn:Func}{xs:List RV}{p:Prop}{l:List SC}(hx:rvs E.P fn.results.toList=some xs)(h:resE S xs=some (p,l))(hp:p) :
  (results fn a.tmps).run E.P w=.ok ((mkRes l).den Z) w/\(mkRes l).lt S.hp.length:=by
 obtain⟨e1,e2⟩:=rvs_run hs hx h hp;constructor
 ·have hrs:results fn a.tmps=(do let vs <-fn.results.mapM (resSem a.tmps);pure (if h:vs.size=1 then vs[0] else .tuple vs)):=by
   unfold results;congr 2
  rw[hrs,Array.mapM_eq_mapM_toList];simp only[Sem.run_bind,Sem.run_map,e1,Result.andThen_ok,Sem.run_pure];congr 1
  rcases l with _ | ⟨x,_ | ⟨y,r⟩⟩
  ·rfl
  ·simp[mkRes,SV.den]
  ·simp[mkRes,SV.den]
 ·rcases l with _ | ⟨x,_ | ⟨y,r⟩⟩
  ·exact λv hv=>by simp at hv
  ·exact e2 x (by simp)
  ·exact e2
theorem Stays.refl(X:Nat->Prop)(w:World):Stays X w w:=⟨rfl,rfl,Nat.le_refl _,λ_ _ _=>rfl⟩
def chk(P:Program)(f:Nat)(raws:List Nat):Option (IC × List RV × Nat) :=
 match P.funcs[f]? with
 | some fn=>match fn.body with
  | some c=>match comp P raws c,rvs P fn.results.toList with
   | some ic,some rv=>some (ic,rv,fn.ntmps)
   | _,_=>none
  | none=>none
 | none=>none
def noX:Nat->Prop:=λ_=>False
theorem HpSat.past{X:Nat->Prop}{w0 w w':World}{Z:Nat->Value}{hp:List SB}(h:HpSat X w0 w Z hp)(hf:Stays X w0 w)(hf':Stays (λ_=>False) w w'):HpSat X w0 w' Z hp/\Stays X w0 w':=by
 have hk:∀k,k<w.heap.size->Same w w' k:=λk hk=>hf'.block k hk id
 refine⟨⟨h.ref,λi sb hi=>SB.sat_keep (h.sat i sb hi) (λk h1 _=>hk k (Nat.lt_of_lt_of_le h1 hf.size)) (λk hz=>hk k hz.lt) λhx k hfp=>hk k (h.fp_lt hi hx hfp).1,h.lt,h.apart,h.tab⟩,?_⟩;exact hf.keep hf'.os hf'.output hf'.size λk h1 _=>hk k (Nat.lt_of_lt_of_le h1 hf.size)
theorem Fixed.lt{w:World}{b:Nat}(h:Fixed noX w w b):b<w.heap.size:=by
 rcases h with h | h
 ·exact h.1
 ·exact Froz.lt h
theorem HpSat.fixed_no{X:Nat->Prop}{w0 w:World}{Z:Nat->Value}{hp:List SB}(h:HpSat X w0 w Z hp){b:Nat}(hb:Fixed X w0 w b){i:Nat}{sb:SB}(hi:hp[i]?=some sb)(hx:sb.ex=true)(hk:b∈fp (Z i)):False:=by
 rcases hb with⟨h1,h2⟩ | h1
 ·rcases (h.fp_lt hi hx hk).2 with hx | hx
  ·omega
  ·exact h2 hx
 ·exact h.thaw hi hx hk h1
theorem HpSat.viewOf{X:Nat->Prop}{w0 w:World}{Z:Nat->Value}{hp:List SB}(h:HpSat X w0 w Z hp)(hf:Stays X w0 w){i:Nat}{t:ET}{l:List t.T}(hsb:(∃e,hp[i]?=some (.row t e l))\/hp[i]?=some (.view t l)):qBw noX w w t (Z i) l:=by
 rcases hsb with⟨e,hsb⟩ | hsb
 ·obtain⟨h1,h2⟩:=h.sat i _ hsb;rcases h1.2 with⟨hv,hn⟩ | ⟨g,cap,cur,hv,hb,hg,hnc,hcm,hcs,htake⟩
  ·have hnil:l=[]:=List.eq_nil_of_length_eq_zero hn;subst hnil;exact⟨none,0,hv,Nat.le_refl _,λj u hu=>by simp at hu⟩
  ·refine⟨_,cap,hv,hnc,λj u hu=>⟨_,rfl,World.ownsRow.cells h1 (g:=g) (by rw[hv];rfl) j u hu,(.inl ⟨(Array.getElem?_eq_some_iff.1 hg).1,id⟩)⟩⟩
 ·obtain⟨a,cap,hv,hc,h1⟩:=h.sat i _ hsb;refine⟨a,cap,hv,hc,λj u hu=>?_⟩;obtain⟨ad,ha,h2,h3⟩:=h1 j u hu;refine⟨ad,ha,h2,.inl ⟨?_,id⟩⟩;rcases h3 with⟨h3,_⟩ | h3
  ·exact Nat.lt_of_lt_of_le h3 hf.size
  ·exact h3.lt
theorem HpSat.viewOf3{X:Nat->Prop}{w0 w:World}{Z:Nat->Value}{hp:List SB}(h:HpSat X w0 w Z hp)(hf:Stays X w0 w){i:Nat}{t:ET}{l:List t.T}(hsb:(∃e,hp[i]?=some (.row t e l))\/hp[i]?=some (.view t l)\/hp[i]?=some (.vrow t l)):qBw noX w w t (Z i) l:=by
 rcases hsb with h1 | h1 | h1
 ·exact h.viewOf hf (.inl h1)
 ·exact h.viewOf hf (.inr h1)
 ·rcases h.sat i _ h1 with⟨cap,hv,h0⟩ | ⟨b,cap,hv,hc,h2,h3,_⟩
  ·subst h0;exact⟨none,cap,hv,Nat.zero_le _,λj u hu=>by simp at hu⟩
  exact⟨_,cap,hv,hc,λj u hu=>⟨_,rfl,(by rw[show(⟨b,0,none⟩:Addr).add j=⟨b,j,none⟩ from qAw b j];exact h2 j u hu),.inl ⟨h3,id⟩⟩⟩
def S0.shut:S0->Bool
 | .val _=>true
 | _=>false
def SC.shut:SC->Bool
 | .o x=>x.shut
 | .agg l=>l.all S0.shut
def SV.shut:SV->Bool
 | .c x=>x.shut
 | .tup l=>l.all SC.shut
theorem S0.shut_den{x:S0}(h:x.shut=true)(Z Z':Nat->Value):x.den Z=x.den Z':=by
 cases x <;> first | rfl | cases h
theorem S0.shut_lt{x:S0}(h:x.shut=true)(n:Nat):x.lt n:=by
 cases x <;> first | trivial | cases h
theorem S0.shut_map{l:List S0}(h:l.all S0.shut=true)(Z Z':Nat->Value):l.map (S0.den Z)=l.map (S0.den Z') :=
 List.map_congr_left λx hx=>S0.shut_den (List.all_eq_true.1 h x hx) Z Z'
theorem SC.shut_den{x:SC}(h:x.shut=true)(Z Z':Nat->Value):x.den Z=x.den Z':=by
 cases x with
 | o y=>exact S0.shut_den h Z Z'
 | agg l =>
  show Value.agg _=Value.agg _;rw[S0.shut_map h Z Z']
theorem SC.shut_lt{x:SC}(h:x.shut=true)(n:Nat):x.lt n:=by
 cases x with
 | o y=>exact S0.shut_lt h n
 | agg l=>exact λy hy=>S0.shut_lt (List.all_eq_true.1 h y hy) n
theorem SV.shut_den{x:SV}(h:x.shut=true)(Z Z':Nat->Value):x.den Z=x.den Z':=by
 cases x with
 | c y=>exact SC.shut_den h Z Z'
 | tup l =>
  show Value.tuple _=Value.tuple _;rw[show l.map (SC.den Z)=l.map (SC.den Z') from List.map_congr_left λy hy=>SC.shut_den (List.all_eq_true.1 h y hy) Z Z']
theorem SV.shut_lt{x:SV}(h:x.shut=true)(n:Nat):x.lt n:=by
 cases x with
 | c y=>exact SC.shut_lt h n
 | tup l=>exact λy hy=>SC.shut_lt (List.all_eq_true.1 h y hy) n
end Go.Eng
