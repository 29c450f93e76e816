/-
  Texts of a claim.
-/
import Derived.Test.YtbokbmjcodoccabDoorPReadR
set_option linter.unusedSimpArgs false
set_option linter.unusedVariables false
namespace Go.Proofs.YtbokbmjcodoccabDoor
open Go.Eng
noncomputable def toldF(t:BA)(o:(Int × Int × (List Eng.Node)) ⊕ (BA × Int × Int × BA × Int × Int × (List Eng.Node) × (List Int) × (List (MapC × Unit)))):Option ((List Eng.Node) × Int × Int) :=
 (Sum.elim (λ(o31_0:Int × Int × (List Eng.Node)) =>some (o31_0.2.2,o31_0.1,o31_0.2.1)) (λ(o31_1:BA × Int × Int × BA × Int × Int × (List Eng.Node) × (List Int) × (List (MapC × Unit))) =>bif(!decide (o31_1.2.2.1=(6:Int))) then(some ([],(31:Int),(t.size:Int))) else(some (o31_1.2.2.2.2.2.2.1,(0:Int),(0:Int))))) o
noncomputable def told(t:BA)(S:json_reader):Option ((List Eng.Node) × Int × Int) :=
 (zah_p0 t S.text S.at_ S.state S.key S.code S.bad S.out S.open_ S.names).bind λo=>toldF t o
variable {t:BA} (hs:t.size<=1000000) {st:Int} {out:List Eng.Node} {op:List Int} {nm:List (MapC × Unit)} {key:BA} {cd bd:Int}
theorem told_end{a:Nat}(ha:t.size<=a):told t ⟨t,(a:Int),st,out,op,nm,key,cd,bd⟩=some (if st=6 then(out,0,0) else([],31,(t.size:Int))):=by
 unfold told zah_p0;rw[qAf (o:=.inr (t,(a:Int),st,key,cd,bd,out,op,nm)) (by
  show qCb t t (a:Int) st key cd bd out op nm=_;unfold qCb;rw[deF (by omega),cnF])]
 rw[obS];show(bif(!decide (st=(6:Int))) then _ else _)=_;by_cases h:st=6
 ·rw[deT h,if_pos h];rfl
 ·rw[deF h,if_neg h];rfl
theorem qGt{a:Nat}(ha:a<t.size){g:json_reader × Bool}(h:zba_s ⟨t,(a:Int),st,out,op,nm,key,cd,bd⟩=some g)(hg:g.2=false):told t ⟨t,(a:Int),st,out,op,nm,key,cd,bd⟩=some ([],g.1.code,g.1.bad):=by
 unfold told zah_p0;rw[qAf (o:=.inl (g.1.code,g.1.bad,[])) (by
  show qCb t t (a:Int) st key cd bd out op nm=_;unfold qCb;rw[deT (by omega),cnT,h,obS,hg];rfl)]
 rfl
include hs in
theorem told_on{a b:Nat}(ha:a<t.size){st':Int}{out':List Eng.Node}{op':List Int}{nm':List (MapC × Unit)}{key':BA}{cd' bd':Int}
  (h:zba_s ⟨t,(a:Int),st,out,op,nm,key,cd,bd⟩=some (⟨t,(b:Int),st',out',op',nm',key',cd',bd'⟩,true)) :
  told t ⟨t,(a:Int),st,out,op,nm,key,cd,bd⟩=told t ⟨t,(qAl t b:Int),st',out',op',nm',key',cd',bd'⟩:=by
 unfold told zah_p0;rw[qAm (y:=(t,(qAl t b:Int),st',key',cd',bd',out',op',nm')) (by
  show qCb t t (a:Int) st key cd bd out op nm=_;unfold qCb;rw[deT (by omega),cnT,h,obS];show(zal_s _).bind _=_;rw[p_blank st' out' op' nm' key' cd' bd' t (by omega),obS])]
theorem nextC_in{a:Nat}(ha:a<t.size):nextC t a=bAt t a:=by unfold nextC;rw[if_pos ha]
theorem st_val{a:Nat}(ha:a<t.size)(hst:st=0\/(st=1/\bAt t a≠93)){g:json_reader × Bool}(h:zbc_s ⟨t,(a:Int),st,out,op,nm,key,cd,bd⟩ (bAt t a)=some g) :
  zba_s ⟨t,(a:Int),st,out,op,nm,key,cd,bd⟩=some g:=by
 unfold zba_s;rw[qFr,obS,nextC_in ha];dsimp only;rcases hst with rfl | ⟨rfl,h93⟩
 ·rw[deF (by decide),cnF,deT rfl,cnT,h];rfl
 ·rw[deT rfl,cnT,deF h93,cnF,h];rfl
theorem p_begin_deep{a:Nat}(c:Int)(ho:op.length=32):zaj_s ⟨t,(a:Int),st,out,op,nm,key,cd,bd⟩ c=some (⟨t,(a:Int),st,out,op,nm,key,11,(a:Int)⟩,false):=by
 unfold zaj_s;rw[deT (show(op.length:Int)=32 by omega),cnT,p_fail];rfl
theorem p_begin{a:Nat}(ha:a<=3000000){c:Int}(obj:Bool)(hc:decide (c=123)=obj)(hop:TopOK op out)(ho:op.length<32)(hnm:nm.length<=100)(hl:out.length<=3000000) :
  zaj_s ⟨t,(a:Int),st,out,op,nm,key,cd,bd⟩ c=some (⟨t,((a+1:Nat):Int),bif obj then 3 else 1,layO op out key (nd0 (qGx obj) ⟨#[]⟩ false 0 0),op++[(out.length:Int)],nm++[((bif obj then some [] else none:MapC),())],⟨#[]⟩,cd,bd⟩,true):=by
 have lay:∀(st:Int) (k:Int) (names:MapC),zaj_p0 t ((a+1:Nat):Int) st key cd bd out op nm k (⟨#[]⟩:BA) (⟨#[]⟩:BA) false (0:Int) (0:Int) names =
   some (true,t,((a+1:Nat):Int),st,⟨#[]⟩,cd,bd,layO op out key (nd0 k ⟨#[]⟩ false 0 0),op++[(out.length:Int)],nm++[(names,())]):=by
  intro st k names;unfold zaj_p0;rw[p_lay st out op nm key cd bd t _ _ hop (by omega) hl,obS];dsimp only;have e:((layO op out key (⟨k,⟨#[]⟩,⟨#[]⟩,false,0,0⟩:Eng.Node)).length:Int) - 1=(out.length:Int):=by rw[layO_len];omega
  rw[e,qAa (by unfold qAc;omega),qAa (by simp only[List.length_cons,List.length_nil];omega),qAa (by simp only[List.length_cons,List.length_nil];omega)];rfl
 unfold zaj_s;dsimp only;rw[deF (show ¬(op.length:Int)=32 by omega),cnF,qAa (by unfold qAc;omega),show(a:Int)+1=((a+1:Nat):Int) by omega,hc];cases obj with
 | true =>
  rw[cnT,lay];rfl
 | false =>
  rw[cnF,lay];rfl
theorem p_end{a:Nat}(ha:a<=3000000)(x:Int)(m:MapC × Unit)(ho:op.length<=100)(hnm:nm.length<=100) :
  zan_s ⟨t,(a:Int),st,out,op++[x],nm++[m],key,cd,bd⟩=some (⟨t,((a+1:Nat):Int),stB op,out,op,nm,key,cd,bd⟩,true):=by
 unfold zan_s;dsimp only;have e1:((op++[x]).length:Int) - 1=(op.length:Int):=by rw[List.length_append,List.length_singleton];omega
 have e2:((nm++[m]).length:Int) - 1=(nm.length:Int):=by rw[List.length_append,List.length_singleton];omega
 rw[e1,e2,qAa (by unfold qAc;omega),qAa (by unfold qAc;omega),qAa (by unfold qAc;omega),qAa (by rw[List.length_append];omega),qAa (by rw[List.length_append];omega),Int.toNat_natCast,Int.toNat_natCast,List.take_left' rfl,List.take_left' rfl,p_behind,obS];rfl
theorem st_end{a:Nat}(ha:a<t.size)(hs:t.size<=1000000)(obj:Bool)(hc:bAt t a=qD2 obj)(x:Int)(m:MapC × Unit)(ho:op.length<=100)(hnm:nm.length<=100) :
  zba_s ⟨t,(a:Int),bif obj then 3 else 1,out,op++[x],nm++[m],key,cd,bd⟩=some (⟨t,((a+1:Nat):Int),stB op,out,op,nm,key,cd,bd⟩,true):=by
 unfold zba_s;rw[qFr,obS,nextC_in ha];dsimp only;cases obj with
 | true =>
  have hc:bAt t a=125:=hc;rw[cnT,deF (by decide),cnF,deF (by decide),cnF,deT rfl,cnT,deT hc,cnT,p_end (by omega) x m ho hnm];rfl
 | false =>
  have hc:bAt t a=93:=hc;rw[cnF,deT rfl,cnT,deT hc,cnT,p_end (by omega) x m ho hnm];rfl
theorem st_more{a:Nat}(ha:a<t.size)(hs:t.size<=1000000)(obj:Bool){p:Nat}(m:MapC × Unit)(ho:op.length<=100)(hnm:nm.length<=100)(hp:p<out.length)(hk:(out.getD p (ET.dft .node)).kind=qGx obj) :
  zba_s ⟨t,(a:Int),5,out,op++[(p:Int)],nm++[m],key,cd,bd⟩ =
   if bAt t a=qD2 obj then some (⟨t,((a+1:Nat):Int),stB op,out,op,nm,key,cd,bd⟩,true)
   else if bAt t a=44 then some (⟨t,((a+1:Nat):Int),bif obj then 2 else 0,out,op++[(p:Int)],nm++[m],key,cd,bd⟩,true)
   else some (⟨t,(a:Int),5,out,op++[(p:Int)],nm++[m],key,31,(a:Int)⟩,false):=by
 unfold zba_s;rw[qFr,obS,nextC_in ha];dsimp only;rw[deF (by decide),cnF,deF (by decide),cnF,deF (by decide),cnF,deF (by decide),cnF,deF (by decide),cnF,deT rfl,cnT];unfold zas_s;dsimp only;have hlen:(op++[(p:Int)]).length=op.length+1:=by simp
 rw[snocI_toNat,snocI_getD,Int.toNat_natCast,hk];rw[qAa (by rw[hlen];unfold qAc;omega),qAa (by rw[hlen];omega),qAa (by rw[hlen];omega),qAa (by omega),qAa hp,qAa hp];cases obj with
 | true =>
  rw[show qD2 true=125 from rfl,show decide (qGx true=7)=true from rfl,Bool.and_true,Bool.and_true,Bool.not_true,Bool.and_false,Bool.or_false];by_cases h1:bAt t a=125
  ·rw[if_pos h1,deF (by omega),cnF,cnF,deT h1,cnT,p_end (by omega) _ m ho hnm];rfl
  ·rw[if_neg h1];by_cases h2:bAt t a=44
   ·rw[if_pos h2,deT h2,cnT,qAa (by unfold qAc;omega),show(a:Int)+1=((a+1:Nat):Int) by omega];rfl
   ·rw[if_neg h2,deF h2,cnF,cnF,deF h1,cnF,p_odd];rfl
 | false =>
  rw[show qD2 false=93 from rfl,show decide (qGx false=7)=false from rfl,Bool.and_false,Bool.and_false,Bool.not_false,Bool.and_true,Bool.false_or,cnF];by_cases h1:bAt t a=93
  ·rw[if_pos h1,deF (by omega),cnF,deT h1,cnT,p_end (by omega) _ m ho hnm];rfl
  ·rw[if_neg h1];by_cases h2:bAt t a=44
   ·rw[if_pos h2,deT h2,cnT,qAa (by unfold qAc;omega),show(a:Int)+1=((a+1:Nat):Int) by omega];rfl
   ·rw[if_neg h2,deF h2,cnF,deF h1,cnF,p_odd];rfl
theorem st_name{a:Nat}(ha:a<t.size)(hst:st=2\/(st=3/\bAt t a≠125)){g:json_reader × Bool}(h:bAt t a=34->zat_s ⟨t,(a:Int),st,out,op,nm,key,cd,bd⟩=some g)(hg:g.1.out=out/\g.1.open_=op) :
  zba_s ⟨t,(a:Int),st,out,op,nm,key,cd,bd⟩=if bAt t a=34 then some g else some (⟨t,(a:Int),st,out,op,nm,key,31,(a:Int)⟩,false):=by
 have hp0:zba_p0 (bAt t a) t (a:Int) st key cd bd out op nm=if bAt t a=34 then some (g.2,g.1.text,g.1.at_,g.1.state,g.1.key,g.1.code,g.1.bad,g.1.names) else some (false,t,(a:Int),st,key,31,(a:Int),nm):=by
  unfold zba_p0;by_cases h1:bAt t a=34
  ·rw[if_pos h1,deT h1,Bool.not_true,cnF,h h1];rfl
  ·rw[if_neg h1,deF h1,Bool.not_false,cnT,p_odd];rfl
 have fin:((zba_p0 (bAt t a) t (a:Int) st key cd bd out op nm).bind λo16=>some ((⟨o16.2.1,o16.2.2.1,o16.2.2.2.1,out,op,o16.2.2.2.2.2.2.2,o16.2.2.2.2.1,o16.2.2.2.2.2.1,o16.2.2.2.2.2.2.1⟩:json_reader),o16.1))=if bAt t a=34 then some g else some (⟨t,(a:Int),st,out,op,nm,key,31,(a:Int)⟩,false):=by
  rw[hp0];by_cases h1:bAt t a=34
  ·rw[if_pos h1,if_pos h1,obS];obtain⟨r,b⟩:=g;obtain⟨e1,e2⟩:=hg;dsimp only at e1 e2 ⊢;rw[<-e1,<-e2]
  ·rw[if_neg h1,if_neg h1];rfl
 unfold zba_s;rw[qFr,obS,nextC_in ha];dsimp only;rcases hst with rfl | ⟨rfl,h2⟩
 ·rw[deF (by decide),cnF,deF (by decide),cnF,deF (by decide),cnF,deT rfl,cnT];exact fin
 ·rw[deF (by decide),cnF,deF (by decide),cnF,deT rfl,cnT,deF h2,cnF];exact fin
theorem st_colon{a:Nat}(ha:a<t.size)(hs:t.size<=1000000):zba_s ⟨t,(a:Int),4,out,op,nm,key,cd,bd⟩ =
  if bAt t a=58 then some (⟨t,((a+1:Nat):Int),0,out,op,nm,key,cd,bd⟩,true) else some (⟨t,(a:Int),4,out,op,nm,key,31,(a:Int)⟩,false):=by
 unfold zba_s;rw[qFr,obS,nextC_in ha];dsimp only;rw[deF (by decide),cnF,deF (by decide),cnF,deF (by decide),cnF,deF (by decide),cnF,deT rfl,cnT];by_cases h:bAt t a=58
 ·rw[if_pos h,deT h,Bool.not_true,cnF,qAa (by unfold qAc;omega),show(a:Int)+1=((a+1:Nat):Int) by omega]
 ·rw[if_neg h,deF h,Bool.not_false,cnT,p_odd];rfl
theorem st_done{a:Nat}(ha:a<t.size):zba_s ⟨t,(a:Int),6,out,op,nm,key,cd,bd⟩=some (⟨t,(a:Int),6,out,op,nm,key,31,(a:Int)⟩,false):=by
 unfold zba_s;rw[qFr,obS];dsimp only;rw[deF (by decide),cnF,deF (by decide),cnF,deF (by decide),cnF,deF (by decide),cnF,deF (by decide),cnF,deF (by decide),cnF,p_odd];rfl
theorem snocM_getD(nm:List (MapC × Unit))(m d:MapC × Unit):(nm++[m]).getD nm.length d=m:=by simp[List.getD_eq_getElem?_getD]
theorem snocM_set(nm:List (MapC × Unit))(m d:MapC × Unit):(nm++[m]).set nm.length d=nm++[d]:=by
 rw[List.set_append_right _ _ (Nat.le_refl _),Nat.sub_self];rfl
theorem p_name{a:Nat}(ha:a<t.size)(hs:t.size<=1000000)(nmap:MapC)(hnm:nm.length<=100){names:List BA}(hR:NmR true nmap names) :
  ∃g,zat_s ⟨t,(a:Int),st,out,op,nm++[(nmap,())],key,cd,bd⟩=some g/\g.1.out=out/\g.1.open_=op/\(match quoR t (t.size+1) (a+1) [] with
   | .bad c b=>g.1.code=c/\g.1.bad=(b:Int)/\g.2=false
   | .ok b l=>if qAq l∈names then g.1.code=34/\g.1.bad=(a:Int)/\g.2=false
    else g=(⟨t,(b:Int),4,out,op,nm++[(mput nmap (qAq l) 1,())],qAq l,cd,bd⟩,true)):=by
 unfold zat_s;obtain⟨g,h1,h2⟩:=p_quo st out op (nm++[(nmap,())]) key cd bd t (by omega) a ha;rw[h1,obS];cases h:quoR t (t.size+1) (a+1) [] with
 | bad c b =>
  rw[h] at h2;obtain⟨e1,e2,e3⟩:=h2;rw[e3,Bool.not_false,cnT];exact⟨_,rfl,rfl,rfl,e1,e2,rfl⟩
 | ok b l =>
  rw[h] at h2;have h2:g=(⟨t,(b:Int),st,out,op,nm++[(nmap,())],key,cd,bd⟩,qAq l,true):=h2;rw[h2];dsimp only;have hlen:(nm++[(nmap,())]).length=nm.length+1:=by simp
  have e:Int.toNat (((nm++[(nmap,())]).length:Int) - 1)=nm.length:=by rw[hlen];omega
  rw[Bool.not_true,cnF,e,snocM_getD,snocM_set];rw[qAa (by rw[hlen];unfold qAc;omega),qAa (by rw[hlen];omega),qAa (by rw[hlen];omega),qAa (by rw[hlen];omega)];by_cases hm:qAq l∈names
  ·rw[deT ((hR.mem _ rfl).2 hm),cnT,p_fail];exact⟨_,rfl,rfl,rfl,by rw[if_pos hm];exact⟨rfl,rfl,rfl⟩⟩
  ·rw[deF (λh=>hm ((hR.mem _ rfl).1 h)),cnF,qAa (by rw[hlen];omega),qAa hR.some_];exact⟨_,rfl,rfl,rfl,by rw[if_neg hm]⟩
theorem scalR_key{a b:Nat}{l:List Eng.Node}(h:qFw t a=.ok b l):qFx ⟨#[]⟩ l=l:=by
 unfold qFw at h;repeat' split at h
 all_goals first | (cases h;rfl) | cases h
theorem valR_key:∀ {d a b:Nat} {l:List Eng.Node},valR t d a=.ok b l->qFx ⟨#[]⟩ l=l
 | 0,a,b,l,h=>by
  unfold valR at h;split at h
  ·cases h
  ·exact scalR_key h
 | d+1,a,b,l,h=>by
  unfold valR at h;split at h
  ·unfold boxR at h;split at h
   ·cases h;rfl
   ·split at h
    ·cases h
    ·cases h;rfl
  ·exact scalR_key h
def ValSim(t:BA)(d:Nat):Prop:=∀(a:Nat) (st:Int) (out:List Eng.Node) (op:List Int) (nm:List (MapC × Unit)) (key:BA) (cd bd:Int),a<=t.size->(st=0\/(st=1/\bAt t a≠93))->op.length+d=32->nm.length=op.length->TopOK op out->out.length<=a ->
 match valR t d a with
 | .bad c b=>told t ⟨t,(a:Int),st,out,op,nm,key,cd,bd⟩=some ([],c,(b:Int))
 | .ok b l=>told t ⟨t,(a:Int),st,out,op,nm,key,cd,bd⟩=told t ⟨t,(qAl t b:Int),stB op,upO op out++qFx key l,op,nm,⟨#[]⟩,cd,bd⟩
include hs in
theorem scal_sim{a:Nat}(ha:a<=t.size)(hst:st=0\/(st=1/\bAt t a≠93))(ho:op.length<=32)(hop:TopOK op out)(hl:out.length<=a)(hn:¬(bAt t a=91\/bAt t a=123)) :
  match qFw t a with
  | .bad c b=>told t ⟨t,(a:Int),st,out,op,nm,key,cd,bd⟩=some ([],c,(b:Int))
  | .ok b l=>told t ⟨t,(a:Int),st,out,op,nm,key,cd,bd⟩=told t ⟨t,(qAl t b:Int),stB op,upO op out++qFx key l,op,nm,⟨#[]⟩,cd,bd⟩:=by
 by_cases hlt:a<t.size
 ·obtain⟨g,hg,hg2⟩:=p_scal st out op nm key cd bd hop (by omega) (by omega) t (by omega) a hlt hn;have hstep:=st_val hlt hst hg;cases h:qFw t a with
  | bad c b =>
   rw[h] at hg2;obtain⟨e1,e2,e3⟩:=hg2;show told t _=_;rw[qGt hlt hstep e3,e1,e2]
  | ok b l =>
   rw[h] at hg2;obtain⟨n,rfl,hg2⟩:=hg2;rw[hg2] at hstep;exact told_on hs hlt hstep
 ·have e:bAt t a = -1:=qBl (by omega);have e2:qFw t a=.bad 31 a:=by
   unfold qFw;rw[e];rfl
  rw[e2];show told t _=_;rw[told_end (by omega),if_neg (by omega),show a=t.size by omega]
def qE8(key:BA)(obj:Bool)(k:Nat):Eng.Node:=setK key (nd0 (qGx obj) ⟨#[]⟩ false 0 (k:Int))
theorem upO_head(key:BA)(obj:Bool)(op:List Int)(pre acc:List Eng.Node)(k:Nat):upO (op++[(pre.length:Int)]) (pre++qE8 key obj k::acc)=pre++qE8 key obj (k+1)::acc:=by
 unfold upO;rw[last_snoc];dsimp only;rw[Int.toNat_natCast,List.set_append_right _ _ (Nat.le_refl _),Nat.sub_self,List.getD_eq_getElem?_getD,List.getElem?_append_right (Nat.le_refl _),Nat.sub_self];show pre++(bumpN (qE8 key obj k)::acc)=_;congr 2
theorem head_getD(key:BA)(obj:Bool)(pre acc:List Eng.Node)(k:Nat)(d:Eng.Node):(pre++qE8 key obj k::acc).getD pre.length d=qE8 key obj k:=by
 rw[List.getD_eq_getElem?_getD,List.getElem?_append_right (Nat.le_refl _),Nat.sub_self];rfl
include hs in
theorem more_sim{obj:Bool}{hk:BA}{pre acc:List Eng.Node}{k:Nat}(nmap:MapC){c0:Nat}(hc0:c0<=t.size)(ho:op.length<=100)(hnm:nm.length=op.length) :
  told t ⟨t,(c0:Int),5,pre++qE8 hk obj k::acc,op++[(pre.length:Int)],nm++[(nmap,())],⟨#[]⟩,cd,bd⟩ =
   if bAt t c0=qD2 obj then told t ⟨t,(qAl t (c0+1):Int),stB op,pre++qE8 hk obj k::acc,op,nm,⟨#[]⟩,cd,bd⟩
   else if bAt t c0=44 then told t ⟨t,(qAl t (c0+1):Int),bif obj then 2 else 0,pre++qE8 hk obj k::acc,op++[(pre.length:Int)],nm++[(nmap,())],⟨#[]⟩,cd,bd⟩
   else some ([],31,(c0:Int)):=by
 by_cases hlt:c0<t.size
 ·have h:=st_more (out:=pre++qE8 hk obj k::acc) (op:=op) (nm:=nm) (key:=⟨#[]⟩) (cd:=cd) (bd:=bd) hlt hs obj (p:=pre.length) (nmap,()) ho (by omega) (by simp) (by rw[head_getD];rfl);by_cases h1:bAt t c0=qD2 obj
  ·rw[if_pos h1] at h ⊢;exact told_on hs hlt h
  ·rw[if_neg h1] at h ⊢;by_cases h2:bAt t c0=44
   ·rw[if_pos h2] at h ⊢;exact told_on hs hlt h
   ·rw[if_neg h2] at h ⊢;exact qGt hlt h rfl
 ·have e:bAt t c0 = -1:=qBl (by omega);have:=qHb obj;rw[if_neg (by omega),if_neg (by omega),told_end (by omega),if_neg (by decide),show c0=t.size by omega]
include hs in
theorem row_sim{d:Nat}(hV:ValSim t d){obj:Bool}{hk:BA}{pre:List Eng.Node}(ho:op.length+(d+1)=32)(hnm:nm.length=op.length):∀(m a k:Nat) (acc:List Eng.Node) (names:List BA) (nmap:MapC) (st:Int),t.size - a<m->a<=t.size ->
  (bif obj then st=2\/(st=3/\bAt t a≠125) else st=0\/(st=1/\bAt t a≠93))->NmR obj nmap names->pre.length+1+acc.length<=a->k<=a ->
  match rowR t (valR t d) obj m a k acc names with
  | .bad c b=>told t ⟨t,(a:Int),st,pre++qE8 hk obj k::acc,op++[(pre.length:Int)],nm++[(nmap,())],⟨#[]⟩,cd,bd⟩=some ([],c,(b:Int))
  | .ok b x=>told t ⟨t,(a:Int),st,pre++qE8 hk obj k::acc,op++[(pre.length:Int)],nm++[(nmap,())],⟨#[]⟩,cd,bd⟩=told t ⟨t,(qAl t b:Int),stB op,pre++qE8 hk obj x.1::x.2,op,nm,⟨#[]⟩,cd,bd⟩
 | 0,a,k,acc,names,nmap,st,h,_,_,_,_,_=>by omega
 | m+1,a,k,acc,names,nmap,st,hm,ha,hst,hR,hpa,hka=>by
  have hlenO:∀x:Int,(op++[x]).length=op.length+1:=λx=>by simp
  have hlenN:∀x:MapC × Unit,(nm++[x]).length=nm.length+1:=λx=>by simp
  have htop:∀k acc,k<=a->TopOK (op++[(pre.length:Int)]) (pre++qE8 hk obj k::acc):=λk acc hk'=>.inr ⟨op,pre.length,rfl,by simp,by
   rw[head_getD];show qAc ((k:Int)+1);unfold qAc;omega⟩
  have after:∀(b:Nat) (x:BA × List Eng.Node) (nmap':MapC),a<b->b<=t.size->x.2.length<=b - a->NmR obj nmap' (names++[x.1])->qFq t (valR t d) obj names a=.ok b x ->
    told t ⟨t,(a:Int),st,pre++qE8 hk obj k::acc,op++[(pre.length:Int)],nm++[(nmap,())],⟨#[]⟩,cd,bd⟩=told t ⟨t,(qAl t b:Int),5,pre++qE8 hk obj (k+1)::(acc++x.2),op++[(pre.length:Int)],nm++[(nmap',())],⟨#[]⟩,cd,bd⟩ ->
    match rowR t (valR t d) obj (m+1) a k acc names with
    | .bad c b=>told t ⟨t,(a:Int),st,pre++qE8 hk obj k::acc,op++[(pre.length:Int)],nm++[(nmap,())],⟨#[]⟩,cd,bd⟩=some ([],c,(b:Int))
    | .ok b x=>told t ⟨t,(a:Int),st,pre++qE8 hk obj k::acc,op++[(pre.length:Int)],nm++[(nmap,())],⟨#[]⟩,cd,bd⟩=told t ⟨t,(qAl t b:Int),stB op,pre++qE8 hk obj x.1::x.2,op,nm,⟨#[]⟩,cd,bd⟩:=by
   intro b x nmap' hb1 hb2 hx hR' hi ht;have k1:=qBy t b;have k2:=qBg t b hb2;rw[ht,more_sim hs nmap' k2 (by omega) hnm];unfold rowR;rw[hi];dsimp only;by_cases h1:bAt t (qAl t b)=qD2 obj
   ·rw[if_pos h1,if_pos h1]
   ·rw[if_neg h1,if_neg h1];by_cases h2:bAt t (qAl t b)=44
    ·rw[if_pos h2,if_pos h2];have h3:=qA8 (t:=t) (a:=qAl t b) (by omega);have k3:=qBy t (qAl t b+1);have k4:=qBg t (qAl t b+1) (by omega);exact row_sim hV ho hnm m (qAl t (qAl t b+1)) (k+1) (acc++x.2) (names++[x.1]) nmap' (bif obj then 2 else 0) (by omega) k4 (by cases obj <;> exact .inl rfl) hR' (by rw[List.length_append];omega) (by omega)
    ·rw[if_neg h2,if_neg h2]
  cases obj with
  | false =>
   have hv:=hV a st (pre++qE8 hk false k::acc) (op++[(pre.length:Int)]) (nm++[(nmap,())]) ⟨#[]⟩ cd bd ha hst (by rw[hlenO];omega) (by rw[hlenO,hlenN];omega) (htop k acc hka) (by simp only[List.length_append,List.length_cons];omega);cases h:valR t d a with
   | bad c b =>
    rw[h] at hv;unfold rowR qFq;rw[if_neg (by decide),h];exact hv
   | ok b l =>
    rw[h] at hv;have hadv:=qFd t d a b l ha h;refine after b (⟨#[]⟩,l) nmap hadv.1 hadv.2.1 hadv.2.2.2 ⟨hR.some_,λs hs=>by cases hs⟩ (by unfold qFq;rw[if_neg (by decide),h]) ?_;have hv:told t _=told t _:=hv;rw[hv,upO_head,valR_key h];have e5:stB (op++[(pre.length:Int)])=5:=by unfold stB;rw[if_neg (by rw[hlenO];omega)]
    rw[e5,List.append_assoc];rfl
  | true =>
   by_cases hlt:a<t.size
   ·obtain⟨g,hg,hgo,hgp,hg2⟩:=p_name (st:=st) (out:=pre++qE8 hk true k::acc) (op:=op++[(pre.length:Int)]) (nm:=nm) (key:=⟨#[]⟩) (cd:=cd) (bd:=bd) hlt hs nmap (by omega) hR;have hstep:=st_name (nm:=nm++[(nmap,())]) hlt hst (λ_=>hg) ⟨hgo,hgp⟩;by_cases h34:bAt t a=34
    ·rw[if_pos h34] at hstep;cases hq:quoR t (t.size+1) (a+1) [] with
     | bad c b =>
      rw[hq] at hg2;obtain⟨e1,e2,e3⟩:=hg2;unfold rowR qFq;rw[if_pos rfl,if_pos h34,hq];dsimp only;rw[qGt hlt hstep e3,e1,e2]
     | ok b l =>
      rw[hq] at hg2;have hqo:=quoR_ok hq (by simp);dsimp only at hg2;by_cases hmem:qAq l∈names
      ·rw[if_pos hmem] at hg2;obtain⟨e1,e2,e3⟩:=hg2;unfold rowR qFq;rw[if_pos rfl,if_pos h34,hq];dsimp only;rw[if_pos hmem];dsimp only;rw[qGt hlt hstep e3,e1,e2]
      ·rw[if_neg hmem] at hg2;rw[hg2] at hstep;have t1:=told_on hs hlt hstep;have k1:=qBy t b;have k2:=qBg t b hqo.2.1;by_cases hlt2:qAl t b<t.size
       ·have hcol:=st_colon (out:=pre++qE8 hk true k::acc) (op:=op++[(pre.length:Int)]) (nm:=nm++[(mput nmap (qAq l) 1,())]) (key:=qAq l) (cd:=cd) (bd:=bd) hlt2 hs;by_cases h58:bAt t (qAl t b)=58
        ·rw[if_pos h58] at hcol;have t2:=told_on hs hlt2 hcol;have k3:=qBy t (qAl t b+1);have k4:=qBg t (qAl t b+1) (by omega);have hv:=hV (qAl t (qAl t b+1)) 0 (pre++qE8 hk true k::acc) (op++[(pre.length:Int)]) (nm++[(mput nmap (qAq l) 1,())]) (qAq l) cd bd k4 (.inl rfl) (by rw[hlenO];omega) (by rw[hlenO,hlenN];omega) (htop k acc hka) (by simp only[List.length_append,List.length_cons];omega);cases h:valR t d (qAl t (qAl t b+1)) with
         | bad c b' =>
          rw[h] at hv;unfold rowR qFq;rw[if_pos rfl,if_pos h34,hq];dsimp only;rw[if_neg hmem,if_pos h58,h];dsimp only;rw[t1,t2];exact hv
         | ok b' y =>
          rw[h] at hv;have hadv:=qFd t d _ b' y k4 h;refine after b' (qAq l,qFx (qAq l) y) (mput nmap (qAq l) 1) (by omega) hadv.2.1 (by rw[setKey_len];omega) (hR.put _) (by
           unfold qFq;rw[if_pos rfl,if_pos h34,hq];dsimp only;rw[if_neg hmem,if_pos h58,h]) ?_
          have hv:told t _=told t _:=hv;rw[t1,t2,hv,upO_head];have e5:stB (op++[(pre.length:Int)])=5:=by unfold stB;rw[if_neg (by rw[hlenO];omega)]
          rw[e5,List.append_assoc];rfl
        ·rw[if_neg h58] at hcol;unfold rowR qFq;rw[if_pos rfl,if_pos h34,hq];dsimp only;rw[if_neg hmem,if_neg h58];dsimp only;rw[t1];exact qGt hlt2 hcol rfl
       ·have h58:¬bAt t (qAl t b)=58:=by rw[qBl (by omega)];decide
        unfold rowR qFq;rw[if_pos rfl,if_pos h34,hq];dsimp only;rw[if_neg hmem,if_neg h58];dsimp only;rw[t1,told_end (by omega),if_neg (by decide),show qAl t b=t.size by omega]
    ·rw[if_neg h34] at hstep;unfold rowR qFq;rw[if_pos rfl,if_neg h34];exact qGt hlt hstep rfl
   ·have h34:¬bAt t a=34:=by rw[qBl (by omega)];decide
    unfold rowR qFq;rw[if_pos rfl,if_neg h34];dsimp only;have hst6:¬st=6:=by
     have hst:st=2\/(st=3/\bAt t a≠125):=hst;omega
    rw[told_end (by omega),if_neg hst6,show a=t.size by omega]
include hs in
theorem val_sim:∀d:Nat,ValSim t d
 | 0=>λa st out op nm key cd bd ha hst ho hnm hop hl=>by
  unfold valR;by_cases hb:bAt t a=91\/bAt t a=123
  ·have hlt:=qA8 (t:=t) (a:=a) (by omega);rw[if_pos hb];have hv:zbc_s ⟨t,(a:Int),st,out,op,nm,key,cd,bd⟩ (bAt t a)=some (⟨t,(a:Int),st,out,op,nm,key,11,(a:Int)⟩,false):=by
    unfold zbc_s;rw[qA5 (p:=bAt t a=91\/bAt t a=123) (by simp),if_pos hb,p_begin_deep _ (by omega)];rfl
   exact qGt hlt (st_val hlt hst hv) rfl
  ·rw[if_neg hb];exact scal_sim hs ha hst (by omega) hop hl hb
 | d+1=>λa st out op nm key cd bd ha hst ho hnm hop hl=>by
  unfold valR;by_cases hb:bAt t a=91\/bAt t a=123
  ·have hlt:=qA8 (t:=t) (a:=a) (by omega);rw[if_pos hb];generalize hobj:decide (bAt t a=123)=obj
   have hv:zbc_s ⟨t,(a:Int),st,out,op,nm,key,cd,bd⟩ (bAt t a)=some (⟨t,((a+1:Nat):Int),bif obj then 3 else 1,layO op out key (nd0 (qGx obj) ⟨#[]⟩ false 0 0),op++[(out.length:Int)],nm++[((bif obj then some [] else none:MapC),())],⟨#[]⟩,cd,bd⟩,true):=by
    unfold zbc_s;rw[qA5 (p:=bAt t a=91\/bAt t a=123) (by simp),if_pos hb,p_begin (by omega) obj hobj hop (by omega) (by omega) (by omega)];rfl
   have t1:=told_on hs hlt (st_val hlt hst hv);have k1:=qBy t (a+1);have k2:=qBg t (a+1) (by omega);have elay:layO op out key (nd0 (qGx obj) ⟨#[]⟩ false 0 0)=upO op out++qE8 key obj 0::[]:=rfl;have elen:out.length=(upO op out).length:=(upO_len op out).symm;rw[elay,elen] at t1;unfold boxR;by_cases hla:bAt t (qAl t (a+1))=qD2 obj
   ·rw[if_pos hla];have:=qHb obj;have hlt2:=qA8 (t:=t) (a:=qAl t (a+1)) (by omega);have t2:=told_on hs hlt2 (st_end (out:=upO op out++qE8 key obj 0::[]) (op:=op) (nm:=nm) (key:=⟨#[]⟩) (cd:=cd) (bd:=bd) hlt2 hs obj hla ((upO op out).length:Int) ((bif obj then some [] else none:MapC),()) (by omega) (by omega));show told t _=told t _;rw[t1,t2];rfl
   ·rw[if_neg hla];have hr:=row_sim (op:=op) (nm:=nm) (cd:=cd) (bd:=bd) hs (val_sim d) (obj:=obj) (hk:=key) (pre:=upO op out) (by omega) hnm (t.size+1) (qAl t (a+1)) 0 [] [] (bif obj then some [] else none) (bif obj then 3 else 1) (by omega) k2 (by
     cases obj with
     | true=>exact .inr ⟨rfl,hla⟩
     | false=>exact .inr ⟨rfl,hla⟩) (by
     cases obj with
     | true=>exact⟨rfl,λs _=>by
       show 0<(mfind [] s).getD 0↔_;simp[mfind]⟩
     | false=>exact⟨rfl,λs h=>by cases h⟩) (by rw[<-elen];simp only[List.length_nil];omega) (by omega)
    cases h:rowR t (valR t d) obj (t.size+1) (qAl t (a+1)) 0 [] [] with
    | bad c b =>
     rw[h] at hr;show told t _=_;rw[t1];exact hr
    | ok b x =>
     rw[h] at hr;show told t _=told t _;rw[t1];exact hr
  ·rw[if_neg hb];exact scal_sim hs ha hst (by omega) hop hl hb
theorem p_Parse(t:BA):zah_s t=some (parseR t):=by
 unfold zah_s parseR;by_cases h:262144<t.size
 ·rw[deT (by omega),cnT,if_pos h]
 ·rw[deF (by omega),cnF,if_neg h,show(0:Int)=((0:Nat):Int) from rfl,p_blank _ _ _ _ _ _ _ t (by omega),obS];show told t ⟨t,(qAl t 0:Int),0,[],[],[],⟨#[]⟩,0,0⟩=_;have k:=qBg t 0 (by omega);have hv:=val_sim (t:=t) (by omega) 32 (qAl t 0) 0 [] [] [] ⟨#[]⟩ 0 0 k (.inl rfl) rfl rfl (.inl rfl) (by simp);unfold readR;cases hr:valR t 32 (qAl t 0) with
  | bad c b =>
   rw[hr] at hv;exact hv
  | ok b l =>
   rw[hr] at hv;have hv:told t _=told t _:=hv;rw[hv,valR_key hr];dsimp only;by_cases hl:qAl t b<t.size
   ·rw[if_pos hl];exact qGt hl (st_done hl) rfl
   ·rw[if_neg hl,told_end (by omega)];rfl
end Go.Proofs.YtbokbmjcodoccabDoor
namespace Go.Proofs.YtbokbmjcodoccabDoor
open Go.Eng
theorem readR_len{t:BA}{b:Nat}{l:List Eng.Node}(h:readR t=.ok b l):l≠[]/\l.length<=t.size:=by
 unfold readR at h;have k:=qBg t 0 (by omega);split at h
 ·cases h
 ·rename_i b1 l1 h1;have:=qFd t 32 _ _ _ k h1;split at h
  ·cases h
  ·cases h;exact⟨this.2.2.1,by omega⟩
theorem w64_id{x:Int}(h:qAc x):w64 x=x:=by
 unfold qAc at h;unfold w64 IntKind.wrap;simp[IntKind.signed,IntKind.bits];omega
def jbF(v:List Eng.Node):Nat->Int->Nat->Nat
 | 0,_,a=>a
 | f+1,left,a=>if 0<left/\a<v.length then jbF v f (w64 (left+w64 ((v.getD a (ET.dft .node)).kids - 1))) (a+1) else a
theorem p_jb(v:List Eng.Node)(hv:v.length<=2000000):∀(f:Nat) (left:Int) (a:Nat),v.length - a<=f->zaf_p0 (a:Int) left v=some (jbF v f left a:Int)
 | 0,left,a,h=>by
  unfold zaf_p0;refine qAf ?_;unfold qD8;dsimp only;rw[deF (show ¬(a:Int)<v.length by omega),Bool.and_false,cnF];rfl
 | f+1,left,a,h=>by
  unfold jbF;by_cases hc:0<left/\a<v.length
  ·rw[if_pos hc];have ih:=p_jb v hv f (w64 (left+w64 ((v.getD a (ET.dft .node)).kids - 1))) (a+1) (by omega);unfold zaf_p0 at ih ⊢;rw[qAm (y:=(((a+1:Nat):Int),w64 (left+w64 ((v.getD a (ET.dft .node)).kids - 1)))) ?_]
   ·exact ih
   ·unfold qD8;dsimp only;rw[deT hc.1,deT (show(a:Int)<v.length by omega),Bool.and_self,cnT,qAa (by omega),qAa (by omega),qAa (by omega),qAa (by unfold qAc;omega)];rfl
  ·rw[if_neg hc];unfold zaf_p0;refine qAf ?_;unfold qD8;dsimp only;have:(decide (0<left) && decide ((a:Int)<v.length))=false:=by
    rw[Bool.and_eq_false_iff,decide_eq_false_iff_not,decide_eq_false_iff_not];omega
   rw[this,cnF]
theorem p_jBehind(v:List Eng.Node)(hv:v.length<=2000000){a:Nat}(ha:a<v.length):zaf_s v (a:Int)=some (jbF v (v.length - a) 1 a:Int):=by
 unfold zaf_s;rw[deF (show ¬(a:Int)<0 by omega),deF (show ¬(v.length:Int)<=a by omega),Bool.or_self,cnF,p_jb v hv (v.length - a) 1 a (Nat.le_refl _)];rfl
theorem jbF_trees{v:List Eng.Node}(hv:v.length<=2000000){k a e:Nat}(h:Trees v k a e):∀(L:Nat),L+e<=4000000->jbF v (v.length - a) ((L+k:Nat):Int) a=jbF v (v.length - e) (L:Int) e:=by
 induction h with
 | nil a ha=>intro L hL;rfl
 | @cons k a b e n hn h0 h1 h2 i1 i2 =>
  intro L hL;have ha:=(List.getElem?_eq_some_iff.1 hn).1;have l1:=h1.le;have l2:=h2.le;obtain⟨m,hm⟩:=Int.eq_ofNat_of_zero_le h0;have hmn:n.kids.toNat=m:=by omega
  rw[hmn] at i1 l1;have ih1:=i1 (L+k) (by omega);rw[i2 L hL] at ih1;rw[<-ih1,show v.length - a=(v.length - (a+1))+1 by omega];conv=>lhs;unfold jbF
  rw[if_pos ⟨by omega,ha⟩,nd_get hn,hm,w64_id (x:=(m:Int) - 1) (by unfold qAc;omega),w64_id (by unfold qAc;omega)];congr 1
  omega
theorem jBehind_tree{v:List Eng.Node}(hv:v.length<=2000000){a e:Nat}(h:Tree v a e):zaf_s v (a:Int)=some (e:Int):=by
 have hl:=Trees.le h;rw[p_jBehind v hv (by omega)];have:=jbF_trees hv h 0 (by omega);rw[show((0+1:Nat):Int)=1 from rfl] at this;rw[this];congr 1
 cases hf:v.length - e with
 | zero=>rfl
 | succ f =>
  unfold jbF;rw[if_neg (λh=>by have:=h.1;simp at this)]
theorem rb_loop{v:List Eng.Node}(hv:v.length<=2000000){a:Nat}(ha:a<v.length){kids:Nat}(hk:(v.getD a (ET.dft .node)).kids=kids)(hkb:kids<=4000000){self:List Eng.Node->Int->Option Int}(hself:∀b e:Nat,a<b->Tree v b e->self v (b:Int)=some (e:Int)) :
  ∀(k i next e:Nat),i+k=kids->a<next->Trees v k next e->zbo_p0 self (a:Int) (next:Int) (i:Int) v=some (e:Int)
 | 0,i,next,e,h1,h2,h=>by
  have:=h.zero;subst this;unfold zbo_p0;refine qAf ?_;unfold qF3;dsimp only;rw[qAa (by omega),qAa (by omega),qAa (by omega),Int.toNat_natCast,hk,deF (show ¬(i:Int)<kids by omega),Bool.false_and,cnF]
 | k+1,i,next,e,h1,h2,h=>by
  obtain⟨b,g1,g2⟩:=h.one;have l1:=Trees.le g1;have l3:=h.le;have ih:=rb_loop hv ha hk hkb hself k (i+1) b e (by omega) (by omega) g2;unfold zbo_p0 at ih ⊢;rw[qAm (y:=((b:Int),((i+1:Nat):Int))) ?_]
  ·exact ih
  ·unfold qF3;dsimp only;rw[qAa (by omega),qAa (by omega),qAa (by omega),Int.toNat_natCast,hk,deT (show(i:Int)<kids by omega),deT (show(0:Int)<=next by omega),Bool.and_self,cnT,hself next b h2 g1,obS];exact(qAa (by unfold qAc;omega) _).trans rfl
theorem rb_all{v:List Eng.Node}(hv:v.length<=2000000):∀(m a e:Nat),v.length - a<=m->Tree v a e->∀n,m<n->zbo_n n v (a:Int)=some (e:Int)
 | 0,a,e,h,ht,n,hn=>by
  have:=Trees.le ht;omega
 | m+1,a,e,h,ht,n,hn=>by
  obtain⟨nd,h1,h2,h3⟩:=ht.node;have ha:=(List.getElem?_eq_some_iff.1 h1).1;have l3:=h3.le;obtain⟨kk,hkk⟩:=Int.eq_ofNat_of_zero_le h2;rw[hkk,Int.toNat_natCast] at h3 l3;cases n with
  | zero=>omega
  | succ n =>
   show zbo_t (zbo_n n) v a=_;unfold zbo_t;rw[deF (show ¬(a:Int)<0 by omega),deF (show ¬(v.length:Int)<=a by omega),Bool.or_self,cnF,qAa (by unfold qAc;omega)];have:=rb_loop hv ha (kids:=kk) (by rw[nd_get h1,hkk]) (by omega) (self:=zbo_n n) (λb e' hb hb2=>rb_all hv m b e' (by omega) hb2 n (by omega)) kk 0 (a+1) e (by omega) (by omega) h3;rw[show((a+1:Nat):Int)=(a:Int)+1 by omega,show((0:Nat):Int)=0 from rfl] at this;rw[this];rfl
theorem rBehind_tree{v:List Eng.Node}(hv:v.length<=2000000){a e:Nat}(h:Tree v a e):zbo_s v (a:Int)=some (e:Int) :=
 evt_eq (N:=v.length+1) λn hn=>rb_all hv v.length a e (by omega) h n (by omega)
def upN(l:List Nat):List Int:=l.map λx:Nat=>(x:Int)
theorem qG1(l:List Nat):(upN l).length=l.length:=by simp[upN]
theorem j_kids_loop{v:List Eng.Node}(hv:v.length<=2000000){a:Nat}(ha:a<v.length){kids:Nat}(hk:(v.getD a (ET.dft .node)).kids=kids)(hkb:kids<=4000000) :
  ∀(k i next e:Nat) (l:List Nat) (out:List Int),i+k=kids->out.length=i->Trees v k next e->qFs v k next l e->zag_p0 (a:Int) (next:Int) (i:Int) v out=some (out++upN l)
 | 0,i,next,e,l,out,h1,ho,h,hp=>by
  obtain⟨rfl,rfl⟩:=hp;unfold zag_p0;refine qAf ?_;unfold qFz;dsimp only;rw[qAa (by omega),qAa (by omega),qAa (by omega),Int.toNat_natCast,hk,deF (show ¬(i:Int)<kids by omega),Bool.false_and,Bool.false_and,cnF];simp[upN]
 | k+1,i,next,e,l,out,h1,ho,h,hp=>by
  obtain⟨b,r,rfl,g1,g3⟩:=hp;obtain⟨b',g1',g2⟩:=h.one;have:=Trees.det g1 g1';subst this;have l1:=Trees.le g1;have ih:=j_kids_loop hv ha hk hkb k (i+1) b e r (out++[(next:Int)]) (by omega) (by simp[ho]) g2 g3;unfold zag_p0 at ih ⊢;rw[qAm (y:=((b:Int),((i+1:Nat):Int),out++[(next:Int)])) ?_]
  ·rw[ih];simp[upN]
  ·unfold qFz;dsimp only;rw[qAa (by omega),qAa (by omega),qAa (by omega),Int.toNat_natCast,hk,deT (show(i:Int)<kids by omega),deT (show(0:Int)<=next by omega),deT (show(next:Int)<v.length by omega),Bool.and_self,Bool.and_self,cnT];rw[qAa (by simp only[List.length_singleton,ho];omega),jBehind_tree hv g1,obS];exact(qAa (by unfold qAc;omega) _).trans rfl
theorem j_kids{v:List Eng.Node}(hv:v.length<=2000000){a e:Nat}{nd:Eng.Node}(h1:v[a]?=some nd)(h2:0<=nd.kids)(h3:Trees v nd.kids.toNat (a+1) e){l:List Nat}(hl:qFs v nd.kids.toNat (a+1) l e):zag_s v (a:Int)=some (upN l):=by
 have ha:=(List.getElem?_eq_some_iff.1 h1).1;have l3:=h3.le;obtain⟨kk,hkk⟩:=Int.eq_ofNat_of_zero_le h2;rw[hkk,Int.toNat_natCast] at h3 l3 hl;unfold zag_s;rw[deF (show ¬(a:Int)<0 by omega),deF (show ¬(v.length:Int)<=a by omega),Bool.or_self,cnF,qAa (by unfold qAc;omega)];have:=j_kids_loop hv ha (kids:=kk) (by rw[nd_get h1,hkk]) (by omega) kk 0 (a+1) e l [] (by omega) rfl h3 hl;rw[show((a+1:Nat):Int)=(a:Int)+1 by omega,show((0:Nat):Int)=0 from rfl] at this;rw[this];rfl
theorem r_kids_loop{v:List Eng.Node}(hv:v.length<=2000000){a:Nat}(ha:a<v.length){kids:Nat}(hk:(v.getD a (ET.dft .node)).kids=kids)(hkb:kids<=4000000) :
  ∀(k i next e:Nat) (l:List Nat) (out:List Int),i+k=kids->out.length=i->Trees v k next e->qFs v k next l e->zbp_p0 (a:Int) (next:Int) (i:Int) v out=some (out++upN l)
 | 0,i,next,e,l,out,h1,ho,h,hp=>by
  obtain⟨rfl,rfl⟩:=hp;unfold zbp_p0;refine qAf ?_;unfold qF4;dsimp only;rw[qAa (by omega),qAa (by omega),qAa (by omega),Int.toNat_natCast,hk,deF (show ¬(i:Int)<kids by omega),Bool.false_and,Bool.false_and,cnF];simp[upN]
 | k+1,i,next,e,l,out,h1,ho,h,hp=>by
  obtain⟨b,r,rfl,g1,g3⟩:=hp;obtain⟨b',g1',g2⟩:=h.one;have:=Trees.det g1 g1';subst this;have l1:=Trees.le g1;have ih:=r_kids_loop hv ha hk hkb k (i+1) b e r (out++[(next:Int)]) (by omega) (by simp[ho]) g2 g3;unfold zbp_p0 at ih ⊢;rw[qAm (y:=((b:Int),((i+1:Nat):Int),out++[(next:Int)])) ?_]
  ·rw[ih];simp[upN]
  ·unfold qF4;dsimp only;rw[qAa (by omega),qAa (by omega),qAa (by omega),Int.toNat_natCast,hk,deT (show(i:Int)<kids by omega),deT (show(0:Int)<=next by omega),deT (show(next:Int)<v.length by omega),Bool.and_self,Bool.and_self,cnT];rw[qAa (by simp only[List.length_singleton,ho];omega),rBehind_tree hv g1,obS];exact(qAa (by unfold qAc;omega) _).trans rfl
theorem r_kids{v:List Eng.Node}(hv:v.length<=2000000){a e:Nat}{nd:Eng.Node}(h1:v[a]?=some nd)(h2:0<=nd.kids)(h3:Trees v nd.kids.toNat (a+1) e){l:List Nat}(hl:qFs v nd.kids.toNat (a+1) l e):zbp_s v (a:Int)=some (upN l):=by
 have ha:=(List.getElem?_eq_some_iff.1 h1).1;have l3:=h3.le;obtain⟨kk,hkk⟩:=Int.eq_ofNat_of_zero_le h2;rw[hkk,Int.toNat_natCast] at h3 l3 hl;unfold zbp_s;rw[deF (show ¬(a:Int)<0 by omega),deF (show ¬(v.length:Int)<=a by omega),Bool.or_self,cnF,qAa (by unfold qAc;omega)];have:=r_kids_loop hv ha (kids:=kk) (by rw[nd_get h1,hkk]) (by omega) kk 0 (a+1) e l [] (by omega) rfl h3 hl;rw[show((a+1:Nat):Int)=(a:Int)+1 by omega,show((0:Nat):Int)=0 from rfl] at this;rw[this];rfl
theorem places_in{v:List Eng.Node}:∀ {k a e:Nat} {l:List Nat},qFs v k a l e->∀p∈l,p<v.length
 | 0,a,e,l,h,p,hp=>by rw[h.1] at hp;cases hp
 | k+1,a,e,l,h,p,hp=>by
  obtain⟨b,r,rfl,g1,g2⟩:=h;rcases List.mem_cons.1 hp with rfl | hp
  ·have:=Trees.le g1;omega
  ·exact places_in g2 p hp
def TreeAt(val:Nat->Rd (List Eng.Node)):Prop:=∀a b l,val a=.ok b l->∀(k:BA) (pre post:List Eng.Node),Tree (pre++qFx k l++post) pre.length (pre.length+l.length)
theorem at_pre(pre post:List Eng.Node)(n:Eng.Node)(l:List Eng.Node):(pre++(n::l)++post)[pre.length]?=some n:=by
 rw[List.append_assoc,List.getElem?_append_right (Nat.le_refl _),Nat.sub_self];rfl
theorem leaf_tree(pre post:List Eng.Node)(n:Eng.Node)(h:n.kids=0):Tree (pre++[n]++post) pre.length (pre.length+1) :=
 Tree.mk (at_pre pre post n []) (by omega) (by rw[h];exact Trees.nil _ (by simp))
theorem scalR_tree(t:BA):TreeAt (qFw t):=by
 intro a b l h k pre post;unfold qFw at h;repeat' split at h
 all_goals first
  | (cases h;done)
  | (cases h;exact leaf_tree pre post _ rfl)
theorem setKey_self:∀l:List Eng.Node,∃k,qFx k l=l
 | []=>⟨⟨#[]⟩,rfl⟩
 | n::r=>⟨n.key,rfl⟩
theorem itemR_set{t:BA}{val:Nat->Rd (List Eng.Node)}{obj:Bool}{names:List BA}{a b:Nat}{x:BA × List Eng.Node}(h:qFq t val obj names a=.ok b x):∃a' l k,val a'=.ok b l/\x.2=qFx k l:=by
 unfold qFq at h;repeat' split at h
 all_goals first
  | (cases h;done)
  | skip
 ·rename_i h7;cases h;exact⟨_,_,_,h7,rfl⟩
 ·rename_i b1 l1 h7;cases h;obtain⟨k,hk⟩:=setKey_self l1;exact⟨_,_,k,h7,hk.symm⟩
theorem rowR_trees{t:BA}{val:Nat->Rd (List Eng.Node)}(hv:TreeAt val){obj:Bool}:∀ {m a k:Nat} {acc:List Eng.Node} {names:List BA} {b:Nat} {x:Nat × List Eng.Node},rowR t val obj m a k acc names=.ok b x ->
  ∃(j:Nat) (more:List Eng.Node),x.1=k+j/\x.2=acc++more/\∀pre post,Trees (pre++more++post) j pre.length (pre.length+more.length)
 | 0,a,k,acc,names,b,x,h=>by cases h
 | m+1,a,k,acc,names,b,x,h=>by
  unfold rowR at h;split at h
  ·cases h
  ·rename_i b1 y h1;obtain⟨a',l,kk,hl,hy⟩:=itemR_set h1;have hlen:y.2.length=l.length:=by rw[hy,setKey_len]
   have ht:∀pre post,Tree (pre++y.2++post) pre.length (pre.length+y.2.length):=λpre post=>by
    rw[hlen,hy];exact hv _ _ _ hl kk pre post
   split at h
   ·cases h;exact⟨1,y.2,rfl,rfl,ht⟩
   ·split at h
    ·obtain⟨j,more,e1,e2,h3⟩:=rowR_trees hv h;refine⟨j+1,y.2++more,by omega,by rw[e2,List.append_assoc],λpre post=>?_⟩;have h4:=ht pre (more++post);have h5:=h3 (pre++y.2) post;rw[List.length_append] at h5;have e3:pre++(y.2++more)++post=pre++y.2++(more++post):=by simp
     have e4:pre++y.2++more++post=pre++y.2++(more++post):=by simp
     rw[e4] at h5;rw[e3,List.length_append,show pre.length+(y.2.length+more.length)=pre.length+y.2.length+more.length by omega];exact Trees.app h4 h5
    ·cases h
theorem boxR_tree{t:BA}{val:Nat->Rd (List Eng.Node)}(hv:TreeAt val){obj:Bool}{a b:Nat}{l:List Eng.Node}(h:boxR t val obj a=.ok b l)(k:BA)(pre post:List Eng.Node):Tree (pre++qFx k l++post) pre.length (pre.length+l.length):=by
 unfold boxR at h;split at h
 ·cases h;exact leaf_tree pre post _ rfl
 ·split at h
  ·cases h
  ·rename_i b1 x h1;cases h;obtain⟨j,more,e1,e2,h3⟩:=rowR_trees hv h1;simp only[List.nil_append,Nat.zero_add] at e1 e2;rw[e1,e2];have h4:=h3 (pre++[setK k (nd0 (qGx obj) ⟨#[]⟩ false 0 (j:Int))]) post;have e3:pre++[setK k (nd0 (qGx obj) ⟨#[]⟩ false 0 (j:Int))]++more++post=pre++(setK k (nd0 (qGx obj) ⟨#[]⟩ false 0 (j:Int))::more)++post:=by simp
   rw[e3,List.length_append,List.length_singleton] at h4;refine Tree.mk (n:=setK k (nd0 (qGx obj) ⟨#[]⟩ false 0 (j:Int))) (at_pre pre post _ more) (show(0:Int)<=(j:Int) by omega) ?_;show Trees _ (Int.toNat (j:Int)) _ _;rw[Int.toNat_natCast,List.length_cons,show pre.length+(more.length+1)=pre.length+1+more.length by omega];exact h4
theorem valR_tree(t:BA):∀d,TreeAt (valR t d)
 | 0=>λa b l h k pre post=>by
  unfold valR at h;split at h
  ·cases h
  ·exact scalR_tree t a b l h k pre post
 | d+1=>λa b l h k pre post=>by
  unfold valR at h;split at h
  ·exact boxR_tree (valR_tree t d) h k pre post
  ·exact scalR_tree t a b l h k pre post
theorem readR_tree{t:BA}{b:Nat}{l:List Eng.Node}(h:readR t=.ok b l):Tree l 0 l.length:=by
 unfold readR at h;split at h
 ·cases h
 ·rename_i b1 l1 h1;split at h
  ·cases h
  ·cases h;have:=valR_tree t 32 _ _ _ h1 ⟨#[]⟩ [] [];rw[valR_key h1,List.nil_append,List.append_nil,List.length_nil,Nat.zero_add] at this;exact this
def qG3(m:Nat)(n:Eng.Node):Prop:=n.key.size<=m/\n.text.size<=m/\0<=n.kids/\n.kids<=m/\1<=n.kind/\n.kind<=7
theorem qG3.mono{m m':Nat}(h:m<=m'){n:Eng.Node}(hn:qG3 m n):qG3 m' n:=by
 unfold qG3 at *
 omega
def SizeAt(t:BA)(val:Nat->Rd (List Eng.Node)):Prop:=∀a b l,a<=t.size->val a=.ok b l->∀n∈l,qG3 (4*t.size) n
theorem bytesI_size{l:List Int}:(qAq l).size=l.length:=by
 rw[bytesI_eq];show(l.map _).toArray.size=_;simp
theorem scalR_size(t:BA):SizeAt t (qFw t):=by
 intro a b l ha h n hn;unfold qFw at h;split at h
 ·have:=qA8 (t:=t) (a:=a) (by omega);split at h
  ·cases h
  ·rename_i h1;have h2:=quoR_ok h1 (by simp);cases h;simp only[List.mem_singleton] at hn;subst hn;refine⟨by show(0:Nat)<=_;omega,?_,by show(0:Int)<=0;omega,by show(0:Int)<=_;omega,by show(1:Int)<=5;omega,by show(5:Int)<=7;omega⟩;show(qAq _).size<=_;rw[bytesI_size];have:=h2.2.2.2;simp only[List.length_nil,Nat.zero_add] at this;omega
 ·split at h
  ·split at h
   ·cases h
   ·cases h;simp only[List.mem_singleton] at hn;subst hn;refine⟨by show(0:Nat)<=_;omega,?_,by show(0:Int)<=0;omega,by show(0:Int)<=_;omega,by show(1:Int)<=4;omega,by show(4:Int)<=7;omega⟩;show(t.extract _ _).size<=_;rw[ByteArray.size_extract];omega
  ·have lit:∀k:Int,1<=n.kind/\n.kind<=7->n=nd0 k ⟨#[]⟩ false 0 0->qG3 (4*t.size) n:=λk hk e=>by
    subst e;exact⟨by show(0:Nat)<=_;omega,by show(0:Nat)<=_;omega,by show(0:Int)<=0;omega,by show(0:Int)<=_;omega,hk.1,hk.2⟩
   repeat' split at h
   all_goals first
    | (cases h;done)
    | (cases h;have hn:=List.mem_singleton.1 hn;exact lit _ ⟨by rw[hn];show(1:Int)<=_;decide,by rw[hn];show _<=(7:Int);decide⟩ (hn.trans rfl))
theorem setKey_size{m:Nat}{k:BA}(hk:k.size<=m){l:List Eng.Node}(h:∀n∈l,qG3 m n):∀n∈qFx k l,qG3 m n:=by
 cases l with
 | nil=>intro n hn;cases hn
 | cons x r =>
  intro n hn;rcases List.mem_cons.1 hn with rfl | hn
  ·have:=h x List.mem_cons_self;exact⟨hk,this.2.1,this.2.2⟩
  ·exact h n (List.mem_cons_of_mem _ hn)
theorem itemR_size{t:BA}{val:Nat->Rd (List Eng.Node)}(hv:Adv t val)(hz:SizeAt t val){obj:Bool}{names:List BA}{a b:Nat}{x:BA × List Eng.Node}(ha:a<=t.size)(h:qFq t val obj names a=.ok b x):∀n∈x.2,qG3 (4*t.size) n:=by
 unfold qFq at h;split at h
 ·split at h
  ·have:=qA8 (t:=t) (a:=a) (by omega);split at h
   ·cases h
   ·rename_i b1 l h1;have h2:=quoR_ok h1 (by simp);split at h
    ·cases h
    ·split at h
     ·rename_i hc;have h3:=qA8 (t:=t) (a:=qAl t b1) (by omega);have h4:=qBy t b1;have h6:=qBg t (qAl t b1+1) (by omega);split at h
      ·cases h
      ·rename_i h7;have h8:=hz _ _ _ h6 h7;cases h;refine setKey_size ?_ h8;rw[bytesI_size];have:=h2.2.2.2;simp only[List.length_nil,Nat.zero_add] at this;omega
     ·cases h
  ·cases h
 ·split at h
  ·cases h
  ·rename_i h7;cases h;exact hz _ _ _ ha h7
theorem rowR_size{t:BA}{val:Nat->Rd (List Eng.Node)}(hv:Adv t val)(hz:SizeAt t val){obj:Bool}:∀ {m a k:Nat} {acc:List Eng.Node} {names:List BA} {b:Nat} {x:Nat × List Eng.Node},a<=t.size->(∀n∈acc,qG3 (4*t.size) n)->rowR t val obj m a k acc names=.ok b x->∀n∈x.2,qG3 (4*t.size) n
 | 0,a,k,acc,names,b,x,ha,hacc,h=>by cases h
 | m+1,a,k,acc,names,b,x,ha,hacc,h=>by
  unfold rowR at h;split at h
  ·cases h
  ·rename_i b1 x1 h1;have h2:=itemR_adv hv ha h1;have h3:=itemR_size hv hz ha h1;have h4:=qBy t b1;have h5:=qBg t b1 h2.2.1;have h6:∀n∈acc++x1.2,qG3 (4*t.size) n:=λn hn=>(List.mem_append.1 hn).elim (hacc n) (h3 n)
   split at h
   ·cases h;exact h6
   ·split at h
    ·have h5:=qA8 (t:=t) (a:=qAl t b1) (by omega);exact rowR_size hv hz (qBg t _ (by omega)) h6 h
    ·cases h
theorem valR_size(t:BA):∀d,SizeAt t (valR t d)
 | 0=>λa b l ha h=>by
  unfold valR at h;split at h
  ·cases h
  ·exact scalR_size t a b l ha h
 | d+1=>λa b l ha h=>by
  unfold valR at h;split at h
  ·have hlt:=qA8 (t:=t) (a:=a) (by omega);unfold boxR at h;have hd:∀(obj:Bool) (k:Nat),k<=t.size->qG3 (4*t.size) (nd0 (qGx obj) ⟨#[]⟩ false 0 (k:Int)):=λobj k hk=>⟨by show(0:Nat)<=_;omega,by show(0:Nat)<=_;omega,by show(0:Int)<=(k:Int);omega,by show(k:Int)<=_;omega,by show 1<=qGx obj;cases obj <;> decide,by show qGx obj<=7;cases obj <;> decide⟩
   split at h
   ·cases h;intro n hn;simp only[List.mem_singleton] at hn;subst hn;exact hd _ 0 (by omega)
   ·split at h
    ·cases h
    ·rename_i b1 x h1;cases h;have k2:=qBg t (a+1) (by omega);have h2:=rowR_adv (qFd t d) k2 h1;have h3:=rowR_size (qFd t d) (valR_size t d) k2 (by intro n hn;cases hn) h1;intro n hn;rcases List.mem_cons.1 hn with rfl | hn
     ·exact hd _ _ (by omega)
     ·exact h3 n hn
  ·exact scalR_size t a b l ha h
theorem readR_size{t:BA}{b:Nat}{l:List Eng.Node}(h:readR t=.ok b l):∀n∈l,qG3 (4*t.size) n:=by
 unfold readR at h;have k:=qBg t 0 (by omega);split at h
 ·cases h
 ·rename_i h1;split at h
  ·cases h
  ·cases h;exact valR_size t 32 _ _ _ k h1
theorem scalR_code{t:BA}{a b:Nat}{c:Int}(h:qFw t a=.bad c b):c≠0:=by
 unfold qFw at h;split at h
 ·split at h
  ·rename_i h1;have:=quoR_code h1;cases h;omega
  ·cases h
 ·split at h
  ·split at h
   ·rename_i h1;cases h;unfold numR at h1;split at h1
    ·rename_i h2;cases h1;unfold zeroR at h2;split at h2
     ·cases h2
     ·have:=qDp h2;omega
    ·split at h1
     ·rename_i h2;cases h1;unfold dotR at h2;split at h2
      ·have:=qDp h2;omega
      ·cases h2
     ·unfold powR at h1;split at h1
      ·have:=qDp h1;omega
      ·cases h1
   ·cases h
  ·repeat' split at h
   all_goals first
    | (cases h;done)
    | (rename_i h1;have:=litR_code h1;cases h;omega)
    | (cases h;decide)
theorem itemR_code{t:BA}{val:Nat->Rd (List Eng.Node)}(hv:∀a b c,val a=.bad c b->c≠0){obj:Bool}{names:List BA}{a b:Nat}{c:Int}(h:qFq t val obj names a=.bad c b):c≠0:=by
 unfold qFq at h;split at h
 ·split at h
  ·split at h
   ·rename_i h1;have:=quoR_code h1;cases h;omega
   ·split at h
    ·cases h;decide
    ·split at h
     ·split at h
      ·rename_i h1;cases h;exact hv _ _ _ h1
      ·cases h
     ·cases h;decide
  ·cases h;decide
 ·split at h
  ·rename_i h1;cases h;exact hv _ _ _ h1
  ·cases h
theorem rowR_code{t:BA}{val:Nat->Rd (List Eng.Node)}(hv:∀a b c,val a=.bad c b->c≠0){obj:Bool}:∀ {m a k:Nat} {acc:List Eng.Node} {names:List BA} {b:Nat} {c:Int},rowR t val obj m a k acc names=.bad c b->c≠0
 | 0,a,k,acc,names,b,c,h=>by cases h;decide
 | m+1,a,k,acc,names,b,c,h=>by
  unfold rowR at h;split at h
  ·rename_i h1;cases h;exact itemR_code hv h1
  ·split at h
   ·cases h
   ·split at h
    ·exact rowR_code hv h
    ·cases h;decide
theorem valR_code{t:BA}:∀(d a b:Nat) (c:Int),valR t d a=.bad c b->c≠0
 | 0,a,b,c,h=>by
  unfold valR at h;split at h
  ·cases h;decide
  ·exact scalR_code h
 | d+1,a,b,c,h=>by
  unfold valR at h;split at h
  ·unfold boxR at h;split at h
   ·cases h
   ·split at h
    ·rename_i h1;cases h;exact rowR_code (valR_code d) h1
    ·cases h
  ·exact scalR_code h
theorem parseR_cases(t:BA):(∃l,parseR t=(l,0,0)/\t.size<=262144/\readR t=.ok t.size l/\l≠[]/\l.length<=t.size/\Tree l 0 l.length/\∀n∈l,qG3 1048576 n)\/(∃c b,parseR t=([],c,b)/\c≠0):=by
 unfold parseR;by_cases hs:262144<t.size
 ·rw[if_pos hs];exact .inr ⟨10,0,rfl,by decide⟩
 ·rw[if_neg hs];cases h:readR t with
  | bad c b =>
   refine .inr ⟨c,b,rfl,?_⟩;unfold readR at h;split at h
   ·rename_i h1;cases h;exact valR_code _ _ _ _ h1
   ·split at h
    ·cases h;decide
    ·cases h
  | ok b l =>
   have hb:b=t.size:=by
    unfold readR at h;have k:=qBg t 0 (by omega);split at h
    ·cases h
    ·rename_i h1;have h2:=qFd t 32 _ _ _ k h1;have:=qBg t _ h2.2.1;split at h
     ·cases h
     ·cases h;omega
   subst hb;exact .inl ⟨l,rfl,by omega,rfl,(readR_len h).1,(readR_len h).2,readR_tree h,λn hn=>(readR_size h n hn).mono (by omega)⟩
def ValidI(l:List Int):Prop:=Lib.validD (l.map λn=>UInt8.ofNat n.toNat)=true
theorem ValidI.nil:ValidI []:=rfl
section
variable {t:BA} {a b:Nat} (hb:b<=t.size)
include hb
end
theorem qG3.okN{m:Nat}(hm:m<=3000000){n:Eng.Node}(h:qG3 m n):OkN n:=⟨by unfold qG3 at h;omega,by unfold qG3 at h;omega,by unfold qG3 at h;unfold qAc;omega⟩
end Go.Proofs.YtbokbmjcodoccabDoor
namespace Go.Proofs.YtbokbmjcodoccabDoor
open Go.Eng
end Go.Proofs.YtbokbmjcodoccabDoor
