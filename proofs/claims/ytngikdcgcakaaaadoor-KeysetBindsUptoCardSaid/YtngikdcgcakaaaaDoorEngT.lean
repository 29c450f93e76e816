import Derived.Test.YtngikdcgcakaaaaDoorEngR
namespace Go.Eng
set_option linter.unusedVariables false
set_option linter.unusedSimpArgs false
def Valid(P:Program)(f:Nat)(C:Con):Prop :=
 ∀(args:List SV) (hp:List SB) (p:Prop) (r:SV) (q:Option (List SB)),C args hp=some (p,r,q)->p->(∀v∈args,v.lt hp.length) ->
  match q with
  | none=>r.lt hp.length/\∀(X:Nat->Prop) (w0 w:World) (Z:Nat->Value),HpSat X w0 w Z hp->Stays X w0 w ->
   Calls P f (args.map (SV.den Z)).toArray w λe w'=>e=.returned (r.den Z)/\HpSat X w0 w' Z hp/\Stays X w0 w'
  | some hp'=>r.lt hp'.length/\hp.length<=hp'.length/\∀(X:Nat->Prop) (w0 w:World) (Z:Nat->Value),HpSat X w0 w Z hp->Stays X w0 w ->
   Calls P f (args.map (SV.den Z)).toArray w λe w'=>∃Z',(∀i<hp.length,Z' i=Z i)/\e=.returned (r.den Z')/\HpSat X w0 w' Z' hp'/\Stays X w0 w'
section
variable {E:Env} {Z:Nat->Value} {S:St} {a:Act} {o:Oper} {act:Prop}
theorem rowLen_spec{hp:List SB}{X:Nat->Prop}{w0 w:World}(h:HpSat X w0 w Z hp){s:S0}{n:Nat}(hn:qEm hp s=some n):∃ad cap,s.den Z=.slice ad n cap:=by
 unfold qEm at hn;split at hn
 ·cases hn;exact⟨none,0,rfl⟩
 ·rename_i hh;split at hn
  ·rename_i t e l hsb;cases hn;obtain⟨h1,_⟩:=h.sat hh _ hsb;rcases h1.2 with⟨hv,h0⟩ | ⟨g,cap,cur,hv,_⟩
   ·exact⟨none,0,by rw[S0.den,hv,h0]⟩
   ·exact⟨_,_,hv⟩
  ·rename_i t l hsb;cases hn;obtain⟨ad,cap,hv,_⟩:=h.sat hh _ hsb;exact⟨_,_,hv⟩
  ·rename_i k lo n' sz hsb;cases hb:Nat.beq sz 0 with
   | true=>rw[hb] at hn;cases hn
   | false =>
    rw[hb] at hn;cases hn;obtain⟨ad,len,cap,ad',_,hv,_⟩:=(h.sat hh _ hsb).1 (Nat.pos_of_ne_zero λh0=>by rw[h0] at hb;cases hb);exact⟨_,_,hv⟩
  ·rename_i k n' sz hsb;cases hn;obtain⟨b,_,hv⟩:=h.sat hh _ hsb;exact⟨_,_,hv⟩
  ·rename_i t l hsb;cases hn;rcases h.sat hh _ hsb with⟨cap,hv,h0⟩ | ⟨b,cap,hv,_⟩
   ·exact⟨_,_,by rw[h0];exact hv⟩
   ·exact⟨_,_,hv⟩
  ·rename_i e sz n' l hsb;cases hn;obtain⟨_,_,h1,_⟩:=h.sat hh _ hsb;rcases h1.2 with⟨hv,h0⟩ | ⟨g,cap,cur,hv,_⟩
   ·exact⟨none,0,by rw[S0.den,hv,h0]⟩
   ·exact⟨_,_,hv⟩
  ·unfold ghoLen at hn;split at hn
   ·rename_i t l hg;cases hn;rcases gho_sat h hg with⟨cap,hv,h0⟩ | ⟨b,cap,hv,_⟩
    ·exact⟨_,_,by rw[h0];exact hv⟩
    ·exact⟨_,_,hv⟩
   ·cases hn
  ·cases hn
 ·rename_i k;split at hn
  ·rename_i ks e l hsb;cases hn;obtain⟨u,rs,hv,hb⟩:=h.sat k _ hsb;obtain⟨ad,cap,h1⟩:=hb.slice;exact⟨ad,cap,by rw[S0.den,hv,qAq rs hb.one,h1]⟩
  ·rename_i t e l m g hsb;cases hn;obtain⟨u,hv,h1,_⟩:=h.sat k _ hsb;rcases h1.2 with⟨hu,h0⟩ | ⟨b,cap,cur,hu,_⟩
   ·exact⟨none,0,by rw[S0.den,hv,qAq _ (by rw[hu];rfl),hu,h0]⟩
   ·exact⟨_,_,by rw[S0.den,hv,qAq _ (by rw[hu];rfl),hu]⟩
  ·cases hn
 ·rename_i h0 off n0 lo0 len0;split at hn
  ·rename_i e l hsb;cases hn;obtain⟨b,hv,_⟩:=h.sat h0 _ hsb;exact⟨_,_,by rw[S0.den,hv];rfl⟩
  ·cases hn
 ·cases hn
theorem lenS_ok(hs:qCv Z S a)(hact:act){t:Nat}{x:Operand}{y:Arg}(hu:E.P.underlying t=some .string)(hx:arg x=some y)
  (ho:o.op=.call { callee:=.builtin .len,args := #[x],argTypes := #[t] }) {J:Nat->Option Con}:OpOK E Z S a o (runP J S act (.lenS y)):=by
 simp only[runP];split
 ·rename_i p s h;refine qAe (λ_=>trivial) (λhp w0 _ w=>?_);obtain⟨e1,_⟩:=qAc hs hact hx h hp;unfold execOp;simp[ho,resolve,invoke,builtin,e1,SV.den,SC.den,S0.den,Builtin.len_,run_underlying hu,goInt]
 ·trivial
theorem len_ok(hs:qCv Z S a)(hact:act){t e:Nat}{x:Operand}{y:Arg}(hu:E.P.underlying t=some (.slice e))(hx:arg x=some y)
  (ho:o.op=.call { callee:=.builtin .len,args := #[x],argTypes := #[t] }) {J:Nat->Option Con}:OpOK E Z S a o (runP J S act (.len y)):=by
 simp only[runP];split
 ·rename_i p s h;split
  ·rename_i n hn;refine qAe (λ_=>trivial) (λhp w0 hw w=>?_);obtain⟨e1,_⟩:=qAc hs hact hx h hp;obtain⟨ad,cap,hv⟩:=rowLen_spec hw.1 hn;have e2:a.eval x=.slice ad n cap:=by rw[e1];exact hv
   unfold execOp;simp[ho,resolve,invoke,builtin,e2,SV.den,SC.den,S0.den,Builtin.len_,run_underlying hu,goInt]
  ·trivial
 ·trivial
theorem extract_ok(hs:qCv Z S a)(hact:act){x:Operand}{y:Arg}{i:Nat}(hx:arg x=some y)(ho:o.op=.extract x i){J:Nat->Option Con}:OpOK E Z S a o (runP J S act (.extract y i)):=by
 simp only[runP];split
 ·rename_i p l h;split
  ·rename_i z hz;refine qAe (λhp=>?_) (λhp w0 _ w=>?_)
   ·exact(qAc hs hact hx h hp).2 z (List.mem_of_getElem? hz)
   ·obtain⟨e1,_⟩:=qAc hs hact hx h hp;unfold execOp;simp[ho,e1,SV.den,Instr.extract,hz]
  ·trivial
 ·trivial
theorem src_spec{X:Nat->Prop}{w0 w:World}{hp:List SB}(h:HpSat X w0 w Z hp){t:ET}{s:S0}{m:List t.T}(hm:srcL hp t s=some m)(ho:AllP (srcO hp s)) :
  ∃ad cap,s.den Z=.slice ad m.length cap/\∀j u,(m.flatMap t.enc)[j]?=some u->∃a,ad=some a/\w.cell? (a.add j)=some u:=by
 unfold srcL at hm;split at hm
 ·rename_i hh;split at hm
  ·rename_i t' e l hsb;split at hm
   ·rename_i ht;subst ht;simp only[snJ] at hm;subst hm;obtain⟨h1,_⟩:=h.sat hh _ hsb;rcases h1.2 with⟨hv,h0⟩ | ⟨g,cap,cur,hv,_⟩
    ·have hnil:l=[]:=List.eq_nil_of_length_eq_zero h0;subst hnil;exact⟨none,0,hv,λj u hu=>by simp at hu⟩
    ·exact⟨_,_,hv,λj u hu=>⟨_,rfl,World.ownsRow.cells h1 (g:=g) (by rw[hv];rfl) j u hu⟩⟩
   ·cases hm
  ·rename_i t' l hsb;split at hm
   ·rename_i ht;subst ht;simp only[snJ] at hm;subst hm;obtain⟨ad,cap,hv,_,h1⟩:=h.sat hh _ hsb;exact⟨ad,cap,hv,λj u hu=>by
     obtain⟨a,ha,hc,_⟩:=h1 j u hu;exact⟨a,ha,hc⟩⟩
   ·cases hm
  ·rename_i k lo n sz hsb;split at hm
   ·rename_i t' e l hsb2;split at hm
    ·rename_i ht;subst ht;cases hz:Nat.beq sz t'.sz with
     | false=>rw[hz] at hm;cases hm
     | true =>
      rw[hz] at hm;simp only[cnT,snJ] at hm;subst hm;have hsz:sz=t'.sz:=Nat.eq_of_beq_eq_true hz;have hle:lo+n<=l.length:=by
       simp only[srcO,hsb,hsb2,AllP,and_true] at ho;exact ho
      obtain⟨ad,len,cap,ad',p1,p2,p3,p4,_⟩:=(h.sat hh _ hsb).1 (by rw[hsz];exact t'.sz_pos);obtain⟨h1,_⟩:=h.sat k _ hsb2;have hlen:((l.drop lo).take n).length=n:=by rw[List.length_take,List.length_drop];omega
      refine⟨ad',cap - lo,by rw[hlen];exact p2,λj u hj=>?_⟩;have hj2:j<n*t'.sz:=by
       have:=(List.getElem?_eq_some_iff.1 hj).1;rwa [qAm t'.enc_len,hlen] at this
      have hn:0<n:=by
       rcases Nat.eq_zero_or_pos n with h0 | h0
       ·rw[h0] at hj2;omega
       ·exact h0
      obtain⟨x,hx1,hx2⟩:=p4 (by omega);have hsplit:l.flatMap t'.enc=(l.take lo).flatMap t'.enc++(((l.drop lo).take n).flatMap t'.enc++((l.drop lo).drop n).flatMap t'.enc):=by
       rw[<-List.flatMap_append,<-List.flatMap_append,List.take_append_drop,List.take_append_drop]
      have hil:((l.take lo).flatMap t'.enc).length=lo*t'.sz:=by rw[qAm t'.enc_len,List.length_take,Nat.min_eq_left (by omega)]
      have hget:(l.flatMap t'.enc)[lo*t'.sz+j]?=some u:=by
       rw[hsplit,List.getElem?_append_right (by omega),hil,Nat.add_sub_cancel_left,List.getElem?_append_left (by rw[qAm t'.enc_len,hlen];exact hj2)];exact hj
      rcases h1.2 with⟨hv,h0⟩ | ⟨g,cap',cur,hv,_⟩
      ·omega
      ·have hc:=World.ownsRow.cells h1 (g:=g) (by rw[hv];rfl) _ _ hget;rw[hv] at p1;simp only[Value.slice.injEq] at p1;rw[<-p1.1] at hx1;simp only[snJ] at hx1;subst hx1;exact⟨_,hx2,by rw[hsz,add_add];exact hc⟩
    ·cases hm
   ·cases hm
  ·cases hm
 ·simp only[snJ] at hm;subst hm;exact⟨none,0,rfl,λj u hu=>by simp at hu⟩
 ·cases hm
theorem qEu{P:Program}{w:World}{t ty e bytes:Nat}{tt:ET}{i:TypeInfo}{z:Value}(ht:P.underlying t=some (.slice e))(hi:P.info? e=some i)(hz:i.zero=some z)(hsize:i.size=tt.sz)(hby:i.bytes=bytes)(hzs:z.cells.size=tt.sz)
  {v:Value} {l m:List tt.T} (hown:w.ownsRow 0 e tt.sz v l.length (l.flatMap tt.enc)) {ad:Option Addr} {cap:Nat}
  (hsrc:∀j u,(m.flatMap tt.enc)[j]?=some u->∃a,ad=some a/\w.cell? (a.add j)=some u) (h63:l.length+m.length<=maxLen) (hbytes:(l.length+m.length)*bytes<=140737488355328) :
  ∃v' w',(Builtin.append_ #[t,t] ty #[v,.slice ad m.length cap]).run P w=.ok v' w'/\w'.ownsRow 0 e tt.sz v' (l++m).length ((l++m).flatMap tt.enc)/\w.grownBy w' v.ownBlock/\(∃ad n c,v'=.slice ad n c)/\(∀b,v'.ownBlock=some b->v.ownBlock=some b\/w.heap.size<=b):=by
 cases ad with
 | none =>
  have hm:m=[]:=by
   cases m with
   | nil=>rfl
   | cons x r =>
    exfalso;have hl:=tt.enc_len x;have hp:=tt.sz_pos;have:(tt.enc x)[0]?=some ((tt.enc x)[0]'(by omega)):=by simp
    obtain⟨a,ha,_⟩:=hsrc 0 _ (by
     rw[List.flatMap_cons,List.getElem?_append_left (by omega)];exact this)
    cases ha
  subst hm;refine⟨v,w,?_,by simpa using hown,⟨rfl,rfl,rfl,Nat.le_refl _,λ_ _ _=>rfl⟩,?_,λb hb=>.inl hb⟩
  ·rcases hown.2 with⟨rfl,h0⟩ | ⟨g,cap',cur,rfl,hbg,hg,hnc,hcm,hcs,htake⟩
   ·simp[Builtin.append_,run_underlying ht,sizeOf,typeInfo,hi,Builtin.lenOf,Builtin.firstCells,loadCells,loadCellsFrom]
   ·have hle:l.length<=cap':=hnc;simp[Builtin.append_,run_underlying ht,sizeOf,typeInfo,hi,Builtin.lenOf,Builtin.firstCells,loadCells,loadCellsFrom,hle,storeCells]
  ·rcases hown.2 with⟨rfl,h0⟩ | ⟨g,cap',cur,rfl,_⟩ <;> exact⟨_,_,_,rfl⟩
 | some ad =>
  obtain⟨v',w',hr,h2,h3,h4⟩:=run_append_own (P:=P) w 0 t ty e i z tt.sz bytes ht hi hz hsize hby hzs tt.sz_pos v l.length _ hown ad m.length cap (m.flatMap tt.enc) (qAm tt.enc_len m)
   (λj u hu=>by
    obtain⟨a,ha,hc⟩:=hsrc j u hu;cases ha;exact hc)
   (λu hu=>by
    obtain⟨x,_,hx⟩:=List.mem_flatMap.1 hu;exact tt.enc_one x u hx) h63 hbytes (Nat.zero_le _)
  refine⟨v',w',hr,by rw[List.length_append,List.flatMap_append];exact h2,h3,?_,?_⟩
  ·rcases h2.2 with⟨rfl,h0⟩ | ⟨g,cap',cur,rfl,_⟩ <;> exact⟨_,_,_,rfl⟩
  ·intro b hb;subst hby;have hbnd:(l.length+m.length:Nat)<=9223372036854775807:=by simp only[maxLen] at h63;omega
   have hnews:∀j u,(m.flatMap tt.enc)[j]?=some u->w.cell? (ad.add j)=some u:=λj u hu=>by
    obtain⟨a,ha,hc⟩:=hsrc j u hu;cases ha;exact hc
   have hml:(m.flatMap tt.enc).length=m.length*i.size:=by rw[hsize];exact qAm tt.enc_len m
   rcases hown.2 with⟨rfl,h0⟩ | ⟨g,cap',cur,rfl,hbg,hg,hnc,hcm,hcs,htake⟩
   ·by_cases hm0:m.length=0
    ·have hv':=h4.2 ⟨rfl,hm0⟩;subst hv';simp[Value.ownBlock] at hb
    ·rw[run_append_nil (P:=P) w t ty e i z ht hi hz ad m.length cap _ hml hnews (by omega) (by omega) (by rw[h0] at hbytes;simp at hbytes;omega)] at hr;simp only[Result.ok.injEq] at hr;obtain⟨rfl,_⟩:=hr;simp only[Value.ownBlock,snJ] at hb;omega
   ·by_cases hroom:l.length+m.length<=cap'
    ·have hfit:l.length*i.size+(m.flatMap tt.enc).length<=cur.size:=by rw[hml,hcs,hsize,<-Nat.add_mul];exact Nat.mul_le_mul_right _ hroom
     rw[run_append_room (P:=P) w t ty e i ht hi g l.length cap' cur hg ad m.length cap _ hml hnews (λu hu=>by
      obtain⟨x,_,hx⟩:=List.mem_flatMap.1 hu;exact tt.enc_one x u hx) hroom hfit] at hr
     simp only[Result.ok.injEq] at hr;obtain⟨rfl,_⟩:=hr;exact .inl hb
    ·rw[run_append_grow (P:=P) w t ty e i z ht hi hz ⟨g,0,none⟩ l.length cap' (l.flatMap tt.enc) (by rw[hsize];exact hown.1) (hown.cells (g:=g) rfl) ad m.length cap _ hml hnews (by omega) (by omega) (growslice_fits (by omega) hbytes)] at hr;simp only[Result.ok.injEq] at hr;obtain⟨rfl,_⟩:=hr;simp only[Value.ownBlock,snJ] at hb;omega
theorem qDc{P:Program}{w:World}{t ty e bytes sz:Nat}{i:TypeInfo}{z:Value}(ht:P.underlying t=some (.slice e))(hi:P.info? e=some i)(hz:i.zero=some z)(hsize:i.size=sz)(hby:i.bytes=bytes)(hzs:z.cells.size=sz)(hpos:0<sz)
  {v:Value} {n m:Nat} {xs ys:List Value} (hown:w.ownsRow 0 e sz v n xs) (hyl:ys.length=m*sz) (hone:∀u∈ys,u.oneCell'=true) {ad:Option Addr} {cap:Nat}
  (hsrc:∀j u,ys[j]?=some u->∃a,ad=some a/\w.cell? (a.add j)=some u) (h63:n+m<=maxLen) (hbytes:(n+m)*bytes<=140737488355328) :
  ∃v' w',(Builtin.append_ #[t,t] ty #[v,.slice ad m cap]).run P w=.ok v' w'/\w'.ownsRow 0 e sz v' (n+m) (xs++ys)/\w.grownBy w' v.ownBlock/\(∃ad n c,v'=.slice ad n c)/\(∀b,v'.ownBlock=some b->v.ownBlock=some b\/w.heap.size<=b):=by
 cases ad with
 | none =>
  have hm:ys=[]:=by
   cases ys with
   | nil=>rfl
   | cons x r =>
    exfalso;obtain⟨a,ha,_⟩:=hsrc 0 x rfl;cases ha
  subst hm;have hm0:m=0:=by
   rcases Nat.eq_zero_or_pos m with h | h
   ·exact h
   ·have:=Nat.mul_pos h hpos;simp at hyl;omega
  subst hm0;refine⟨v,w,?_,by simpa using hown,⟨rfl,rfl,rfl,Nat.le_refl _,λ_ _ _=>rfl⟩,?_,λb hb=>.inl hb⟩
  ·rcases hown.2 with⟨rfl,h0⟩ | ⟨g,cap',cur,rfl,hbg,hg,hnc,hcm,hcs,htake⟩
   ·simp[Builtin.append_,run_underlying ht,sizeOf,typeInfo,hi,Builtin.lenOf,Builtin.firstCells,loadCells,loadCellsFrom]
   ·have hle:n<=cap':=hnc;simp[Builtin.append_,run_underlying ht,sizeOf,typeInfo,hi,Builtin.lenOf,Builtin.firstCells,loadCells,loadCellsFrom,hle,storeCells]
  ·rcases hown.2 with⟨rfl,h0⟩ | ⟨g,cap',cur,rfl,_⟩ <;> exact⟨_,_,_,rfl⟩
 | some ad =>
  obtain⟨v',w',hr,h2,h3,h4⟩:=run_append_own (P:=P) w 0 t ty e i z sz bytes ht hi hz hsize hby hzs hpos v n _ hown ad m cap ys hyl
   (λj u hu=>by
    obtain⟨a,ha,hc⟩:=hsrc j u hu;cases ha;exact hc)
   hone h63 hbytes (Nat.zero_le _)
  refine⟨v',w',hr,h2,h3,?_,?_⟩
  ·rcases h2.2 with⟨rfl,h0⟩ | ⟨g,cap',cur,rfl,_⟩ <;> exact⟨_,_,_,rfl⟩
  ·intro b hb;subst hby;have hbnd:n+m<=9223372036854775807:=by simp only[maxLen] at h63;omega
   have hnews:∀j u,ys[j]?=some u->w.cell? (ad.add j)=some u:=λj u hu=>by
    obtain⟨a,ha,hc⟩:=hsrc j u hu;cases ha;exact hc
   have hml:ys.length=m*i.size:=by rw[hsize];exact hyl
   rcases hown.2 with⟨rfl,h0⟩ | ⟨g,cap',cur,rfl,hbg,hg,hnc,hcm,hcs,htake⟩
   ·by_cases hm0:m=0
    ·have hv':=h4.2 ⟨rfl,hm0⟩;subst hv';simp[Value.ownBlock] at hb
    ·rw[run_append_nil (P:=P) w t ty e i z ht hi hz ad m cap _ hml hnews (by omega) (by omega) (by rw[h0] at hbytes;simp at hbytes;omega)] at hr;simp only[Result.ok.injEq] at hr;obtain⟨rfl,_⟩:=hr;simp only[Value.ownBlock,snJ] at hb;omega
   ·by_cases hroom:n+m<=cap'
    ·have hfit:n*i.size+ys.length<=cur.size:=by rw[hml,hcs,hsize,<-Nat.add_mul];exact Nat.mul_le_mul_right _ hroom
     rw[run_append_room (P:=P) w t ty e i ht hi g n cap' cur hg ad m cap _ hml hnews hone hroom hfit] at hr;simp only[Result.ok.injEq] at hr;obtain⟨rfl,_⟩:=hr;exact .inl hb
    ·rw[run_append_grow (P:=P) w t ty e i z ht hi hz ⟨g,0,none⟩ n cap' xs (by rw[hsize];exact hown.1) (hown.cells (g:=g) rfl) ad m cap _ hml hnews (by omega) (by omega) (growslice_fits (by omega) hbytes)] at hr;simp only[Result.ok.injEq] at hr;obtain⟨rfl,_⟩:=hr;simp only[Value.ownBlock,snJ] at hb;omega
theorem append_core{hp0:List SB}{tt:ET}{e:Nat}{l:List tt.T}{v v':Value}{w w':World}(hlen:hp0.length=S.hp.length)(hw:HpSat E.X E.w0 w Z hp0)(hf:Stays E.X E.w0 w)
  (hown:w'.ownsRow 0 e tt.sz v' l.length (l.flatMap tt.enc)) (hgr:w.grownBy w' v.ownBlock) (href:∃ad n c,v'=.slice ad n c) (hblk:∀b,v'.ownBlock=some b->v.ownBlock=some b\/w.heap.size<=b)
  (hex:∀b,v.ownBlock=some b->Excl E.X E.w0 b) (hth:∀b,v.ownBlock=some b->¬Froz w b) (hdead:∀b,v.ownBlock=some b->∀(i:Nat) (sb:SB),hp0[i]?=some sb->sb.ex=true->¬b∈fp (Z i)) :
  ∃Z',(∀i<S.hp.length,Z' i=Z i)/\Z' S.hp.length=v'/\Cls E Z' (hp0++[.row tt e l]) w':=by
 obtain⟨ad,n,c,rfl⟩:=href;have hk:∀k,k<w.heap.size->v.ownBlock≠some k->Same w w' k:=λk hk hne=>hgr.block k hk (λe=>hne e.symm)
 have hr0:∀i<hp0.length,(λi=>if i=hp0.length then Value.slice ad n c else Z i) i=Z i:=λi hi=>by
  have:¬i=hp0.length:=by omega
  simp[this]
 have hview:∀k,k<E.w0.heap.size->¬E.X k->Same w w' k:=λk h1 h2=>hk k (Nat.lt_of_lt_of_le h1 hf.size) λhb=>by
  rcases hex k hb with h | h
  ·omega
  ·exact h2 h
 refine⟨λi=>if i=hp0.length then Value.slice ad n c else Z i,by rw[<-hlen];exact hr0,by simp[hlen],?_,hf.keep hgr.os hgr.output hgr.size hview⟩;refine hw.push (.row tt e l) hr0 hview (λk hz=>hk k hz.lt λhb=>hth k hb hz) (λi sb k hi hx hfp=>hk k (hw.fp_lt hi hx hfp).1 λhb=>hdead k hb i sb hi hx hfp) ?_ trivial (by simp[qBs]) ?_
 ·simp only[if_true];refine⟨hown,λb hb=>?_⟩;rcases hblk b hb with h | h
  ·exact hex b h
  ·exact .inl (Nat.le_trans hf.size h)
 ·intro _ b hb j sb' hj hx' hfp;simp only[if_true] at hb;have hlt:=(hw.fp_lt hj hx' hfp).1;have hob:(Value.slice ad n c).ownBlock=some b:=by
   cases ad with
   | none=>simp[fp,fp1] at hb
   | some ad=>simpa[fp,fp1,Value.ownBlock,eq_comm] using hb
  rcases hblk b hob with h | h
  ·exact hdead b h j sb' hj hx' hfp
  ·omega
theorem bag_apart{X:Nat->Prop}{w0 w:World}{hp:List SB}(h:HpSat X w0 w Z hp){i j:Nat}(hij:i≠j){ks ks':List NK}{e e':Nat}{l:List (NT ks)}{m:List (NT ks')}(hi:hp[i]?=some (.bag ks e l))(hj:hp[j]?=some (.bag ks' e' m)){b:Nat}(h1:b∈fp (Z i))(h2:b∈fp (Z j)):False:=h.apart i j _ _ b hij hi hj rfl rfl h1 h2
theorem append_side{P:Program}{w w':World}{t ty e bytes sz:Nat}{i:TypeInfo}{z:Value}(ht:P.underlying t=some (.slice e))(hi:P.info? e=some i)(hz:i.zero=some z)(hsize:i.size=sz)(hby:i.bytes=bytes)(hpos:0<sz)
  {v v':Value} {n m:Nat} {xs ys:List Value} (hown:w.ownsRow 0 e sz v n xs) (hyl:ys.length=m*sz) (hone:∀u∈ys,u.oneCell'=true) {ad:Option Addr} {cap:Nat}
  (hsrc:∀j u,ys[j]?=some u->∃a,ad=some a/\w.cell? (a.add j)=some u) (h63:n+m<=maxLen) (hbytes:(n+m)*bytes<=140737488355328)
  (hr:(Builtin.append_ #[t,t] ty #[v,.slice ad m cap]).run P w=.ok v' w'):v'.ownBlock=v.ownBlock\/∀k,k<w.heap.size->Same w w' k:=by
 cases ad with
 | none =>
  have hm0:m=0:=by
   rcases Nat.eq_zero_or_pos m with h | h
   ·exact h
   ·exfalso;have:=Nat.mul_pos h hpos;obtain⟨a,ha,_⟩:=hsrc 0 (ys[0]'(by omega)) (by simp);cases ha
  subst hm0;rcases hown.2 with⟨rfl,h0⟩ | ⟨g,cap',cur,rfl,hbg,hg,hnc,hcm,hcs,htake⟩
  ·simp[Builtin.append_,run_underlying ht,sizeOf,typeInfo,hi,Builtin.lenOf,Builtin.firstCells,loadCells,loadCellsFrom] at hr;exact .inl (by rw[<-hr.1])
  ·simp[Builtin.append_,run_underlying ht,sizeOf,typeInfo,hi,Builtin.lenOf,Builtin.firstCells,loadCells,loadCellsFrom,hnc,storeCells] at hr;exact .inl (by rw[<-hr.1])
 | some ad =>
  have hbnd:n+m<=9223372036854775807:=by simp only[maxLen] at h63;omega
  have hnews:∀j u,ys[j]?=some u->w.cell? (ad.add j)=some u:=λj u hu=>by
   obtain⟨a,ha,hc⟩:=hsrc j u hu;cases ha;exact hc
  subst hby;have hml:ys.length=m*i.size:=by rw[hsize];exact hyl
  have halloc:∀o:Obj,∀k,k<w.heap.size->Same w (w.drew.alloc o) k:=λo k hk=>by
   show(w.heap.push o)[k]?=w.heap[k]?;rw[Array.getElem?_push,if_neg (by omega)]
  rcases hown.2 with⟨rfl,h0⟩ | ⟨g,cap',cur,rfl,hbg,hg,hnc,hcm,hcs,htake⟩
  ·by_cases hm0:m=0
   ·subst hm0;simp[Builtin.append_,run_underlying ht,sizeOf,typeInfo,hi,Builtin.lenOf,Builtin.firstCells,loadCells,loadCellsFrom] at hr;exact .inl (by rw[<-hr.1])
   ·rw[run_append_nil (P:=P) w t ty e i z ht hi hz ad m cap _ hml hnews (by omega) (by omega) (by rw[h0] at hbytes;simp at hbytes;omega)] at hr;simp only[Result.ok.injEq] at hr;obtain⟨_,rfl⟩:=hr;exact .inr λk hk=>halloc _ k hk
  ·by_cases hroom:n+m<=cap'
   ·have hfit:n*i.size+ys.length<=cur.size:=by rw[hml,hcs,hsize,<-Nat.add_mul];exact Nat.mul_le_mul_right _ hroom
    rw[run_append_room (P:=P) w t ty e i ht hi g n cap' cur hg ad m cap _ hml hnews hone hroom hfit] at hr;simp only[Result.ok.injEq] at hr;obtain⟨rfl,_⟩:=hr;exact .inl rfl
   ·rw[run_append_grow (P:=P) w t ty e i z ht hi hz ⟨g,0,none⟩ n cap' xs (by rw[hsize];exact hown.1) (hown.cells (g:=g) rfl) ad m cap _ hml hnews (by omega) (by omega) (growslice_fits (by omega) hbytes)] at hr;simp only[Result.ok.injEq] at hr;obtain⟨_,rfl⟩:=hr;exact .inr λk hk=>halloc _ k hk
theorem srcS_spec{hp:List SB}{X:Nat->Prop}{w0 w:World}(h:HpSat X w0 w Z hp){sz m:Nat}{x:S0}{l:List S0}(hs:srcS hp sz x=some (m,l)) :
  l.length=m*sz/\(∃ad cap,x.den Z=.slice (some ad) m cap/\∀j u,(l.map (S0.den Z))[j]?=some u->w.cell? (ad.add j)=some u)/\∀y∈l,y.lt hp.length:=by
 unfold srcS at hs;split at hs
 ·rename_i hh;split at hs
  ·rename_i k n s hsl;split at hs
   ·rename_i e' l' hc;cases hb:(bif Nat.beq s sz then Nat.beq l'.length (n*sz) else false) with
    | false=>rw[hb] at hs;cases hs
    | true =>
     rw[hb] at hs;simp only[cnT,snJ,Prod.mk.injEq] at hs;obtain⟨rfl,rfl⟩:=hs;have hlen:l'.length=n*sz:=by
      cases h3:Nat.beq s sz with
      | false=>rw[h3] at hb;cases hb
      | true=>rw[h3] at hb;exact Nat.eq_of_beq_eq_true hb
     obtain⟨b,hb1,hv⟩:=h.sat hh _ hsl;obtain⟨b',hb2,hcell,_⟩:=h.sat k _ hc;rw[hb1] at hb2;simp only[Value.pointer.injEq,snJ,Addr.mk.injEq,and_true] at hb2;subst hb2;exact⟨hlen,⟨_,_,hv,λj u hu=>by rw[qAw,cell_of_row w b j _ e' (0,0) hcell];simpa using hu⟩,h.lt k _ hc⟩
   ·cases hs
  ·cases hs
 ·cases hs
theorem append_srow(hw0:∀i<S.hp.length,qBs (Z i)){t e bytes:Nat}{i:TypeInfo}{v:Value}{s s':S0}(hu:E.P.underlying t=some (.slice e))(hi:E.P.info? e=some i)(hz:i.zero=some v)(hzl:v.cells.size=i.size)(hby:i.bytes=bytes)
  (hrun:∀w,(execOp a.eval o).run E.P w=((Builtin.append_ #[t,t] o.type #[s.den Z,s'.den Z]).run E.P w).andThen λv w'=>.ok (.value v) w'):OpOK E Z S a o (srowAppQ S.hp e i.size bytes s s').toR:=by
 unfold srowAppQ;split
 ·rename_i m l' hsS;cases hc:(bif Nat.blt 0 i.size then allOneB l' else false) with
  | false=>trivial
  | true =>
   have hc1:0<i.size/\allOneB l'=true:=by
    cases h3:Nat.blt 0 i.size with
    | false=>rw[h3] at hc;cases hc
    | true=>rw[h3] at hc;exact⟨by simpa using h3,hc⟩
   obtain⟨hpos,hone0⟩:=hc1;rw[cnT];have src:=λ(w:World) (hw:HpSat E.X E.w0 w Z S.hp)=>srcS_spec hw hsS
   split
   ·intro hp;have hp1:=hp.1;refine⟨by simp[SV.lt,SC.lt,S0.lt],by simp,λw hw K Q hK=>?_⟩;obtain⟨hlen,⟨ad,cap,hv',hsrc⟩,hlt⟩:=src w hw.1;have hone:=allOne_den hw0 hlt (allOne_of hone0);obtain⟨v',w',hr,hown',hgr,href,hblk⟩:=qDc (P:=E.P) (w:=w) (ty:=o.type) (bytes:=bytes) (cap:=cap) (n:=0) (m:=m) (xs:=[]) (ys:=l'.map (S0.den Z)) hu hi hz rfl hby hzl hpos (v:=.slice none 0 0)
     (World.ownsRow_nil w 0 e i.size) (by rw[List.length_map];exact hlen) hone (λj u hu=>⟨ad,rfl,hsrc j u hu⟩) (by simp only[Nat.zero_add,maxLen];omega) (by simp only[Nat.zero_add];exact hp1.2)
    simp only[Nat.zero_add,List.nil_append] at hown';have hsame:∀k,k<w.heap.size->Same w w' k:=λk hk=>hgr.block k hk (by simp[Value.ownBlock])
    have hnewb:∀b,v'.ownBlock=some b->w.heap.size<=b:=λb hb=>by
     rcases hblk b hb with h | h
     ·simp[Value.ownBlock] at h
     ·exact h
    obtain⟨Z',hag,hnw,hsat⟩:=sb_push (w':=w') hw.1 [] (.srow e i.size m l') v' (by obtain⟨_,_,_,h⟩:=href;rw[h];trivial) (λk hk _=>hsame k (Nat.lt_of_lt_of_le hk hw.2.size)) (λk hk=>hsame k hk.lt) (λj sb k _ hj hx hk=>hsame k (hw.1.fp_lt hj hx hk).1)
     (λZ' hag=>⟨hlen,hpos,by rw[show l'.map (S0.den Z')=l'.map (S0.den Z) from List.map_congr_left λy hy=>S0.den_congr hag (hlt y hy)];exact hown',λb hb=>.inl (Nat.le_trans hw.2.size (hnewb b hb))⟩) (λy hy=>S0.lt_mono (Nat.le_succ _) (hlt y hy)) (λb hb=>by
      obtain⟨ad',n',c',rfl⟩:=href;cases ad' with
      | none=>simp[fp,fp1] at hb
      | some ad'=>exact .inl (hnewb b (by simpa[fp,fp1,Value.ownBlock,eq_comm] using hb)))
    have:=hK Z' w' hag ⟨hsat,hw.2.keep hgr.os hgr.output hgr.size λk hk _=>hsame k (Nat.lt_of_lt_of_le hk hw.2.size)⟩;simp only[SV.den,SC.den,S0.den,hnw] at this;unfold Oper.wp;rw[hrun w,show(S0.val (Value.slice none 0 0)).den Z=.slice none 0 0 from rfl,hv',hr];exact this
   ·rename_i h;split
    ·rename_i e1 s1 n l hsb;cases hc:(bif Nat.beq e e1 then Nat.beq i.size s1 else false) with
     | false=>trivial
     | true =>
      have hc1:e=e1/\i.size=s1:=by
       cases h3:Nat.beq e e1 with
       | false=>rw[h3] at hc;cases hc
       | true=>rw[h3] at hc;exact⟨Nat.eq_of_beq_eq_true h3,Nat.eq_of_beq_eq_true hc⟩
      obtain⟨rfl,rfl⟩:=hc1;rw[cnT];intro hp;have hp1:=hp.1;refine⟨by simp[SV.lt,SC.lt,S0.lt],by simp,λw hw K Q hK=>?_⟩;obtain⟨hlen,⟨ad,cap,hv',hsrc⟩,hlt⟩:=src w hw.1;have hone:=allOne_den hw0 hlt (allOne_of hone0);obtain⟨q1,_,q3,q4⟩:=hw.1.sat h _ hsb;have hlt2:=hw.1.lt h _ hsb;obtain⟨v',w',hr,hown',hgr,href,hblk⟩:=qDc (P:=E.P) (w:=w) (ty:=o.type) (bytes:=bytes) (cap:=cap) (n:=n) (m:=m) (xs:=l.map (S0.den Z)) (ys:=l'.map (S0.den Z)) hu hi hz rfl hby hzl hpos (v:=Z h)
       q3 (by rw[List.length_map];exact hlen) hone (λj u hu=>⟨ad,rfl,hsrc j u hu⟩) (by simp only[maxLen];omega) hp1.2
      have hsame:∀k,k<w.heap.size->(Z h).ownBlock≠some k->Same w w' k:=λk hk hne=>hgr.block k hk (λe=>hne e.symm)
      have hview:∀k,k<E.w0.heap.size->¬E.X k->Same w w' k:=λk h1 h2=>hsame k (Nat.lt_of_lt_of_le h1 hw.2.size) λhb=>by
       rcases q4 k hb with h | h
       ·omega
       ·exact h2 h
      obtain⟨Z',hag,hnw,hsat⟩:=sb_push (w':=w') hw.1 [h] (.srow e i.size (n+m) (l++l')) v' (by obtain⟨_,_,_,h⟩:=href;rw[h];trivial) hview (λk hk=>hsame k hk.lt λq=>qDi q3 q hk) (λj sb k hj hjs hx hk=>hsame k (hw.1.fp_lt hjs hx hk).1 λq=>hw.1.apart j h sb _ k (λe=>hj (by simp[e])) hjs hsb hx rfl hk (fp_own q))
       (λZ' hag=>⟨by rw[List.length_append,q1,hlen,Nat.add_mul],hpos,by
        rw[List.map_append,show l.map (S0.den Z')=l.map (S0.den Z) from List.map_congr_left λy hy=>S0.den_congr hag (hlt2 y hy),show l'.map (S0.den Z')=l'.map (S0.den Z) from List.map_congr_left λy hy=>S0.den_congr hag (hlt y hy)];exact hown',λb hb=>by
        rcases hblk b hb with q | q
        ·exact q4 b q
        ·exact .inl (Nat.le_trans hw.2.size q)⟩) (λy hy=>by
        rcases List.mem_append.1 hy with hy | hy
        ·exact S0.lt_mono (Nat.le_succ _) (hlt2 y hy)
        ·exact S0.lt_mono (Nat.le_succ _) (hlt y hy)) (λb hb=>by
        obtain⟨ad',n',c',rfl⟩:=href;cases ad' with
        | none=>simp[fp,fp1] at hb
        | some ad' =>
         rcases hblk b (by simpa[fp,fp1,Value.ownBlock,eq_comm] using hb) with q | q
         ·exact .inr ⟨h,by simp,_,hsb,rfl,fp_own q⟩
         ·exact .inl q)
      have:=hK Z' w' hag ⟨hsat,hw.2.keep hgr.os hgr.output hgr.size hview⟩;simp only[SV.den,SC.den,S0.den,hnw] at this;unfold Oper.wp;rw[hrun w,show(S0.own h).den Z=Z h from rfl,hv',hr];exact this
    ·trivial
   ·trivial
 ·trivial
theorem allP_app':∀ {l m:List Prop},AllP (l++m)->AllP l/\AllP m
 | [],_,h=>⟨trivial,h⟩
 | _::_,_,h=>⟨⟨h.1,(allP_app' h.2).1⟩,(allP_app' h.2).2⟩
theorem append_gro{t e bytes h:Nat}{i:TypeInfo}{v:Value}{s':S0}(hu:E.P.underlying t=some (.slice e))(hi:E.P.info? e=some i)(hz:i.zero=some v)(hzl:v.cells.size=i.size)(hby:i.bytes=bytes)
  (hrun:∀w,(execOp a.eval o).run E.P w=((Builtin.append_ #[t,t] o.type #[(S0.bsl h).den Z,s'.den Z]).run E.P w).andThen λv w'=>.ok (.value v) w'):OpOK E Z S a o (groAppQ S.hp e i.size bytes h s').toR:=by
 unfold groAppQ;split
 ·rename_i tt e' l n g hsb;cases hc:(bif Nat.beq i.size tt.sz then Nat.beq e e' else false) with
  | false=>trivial
  | true =>
   have hc1:i.size=tt.sz/\e=e':=by
    cases h3:Nat.beq i.size tt.sz with
    | false=>rw[h3] at hc;cases hc
    | true=>rw[h3] at hc;exact⟨Nat.eq_of_beq_eq_true h3,Nat.eq_of_beq_eq_true hc⟩
   obtain⟨hsz,rfl⟩:=hc1;rw[cnT];split
   ·rename_i m hm;intro hp;obtain⟨hp1,hp2⟩:=allP_app' hp;refine⟨by simp[SV.lt,SC.lt,S0.lt],by simp,λw hw K Q hK=>?_⟩;obtain⟨ad,cap,hv',hsrc⟩:=src_spec hw.1 hm hp1;obtain⟨u,hv,q1,q2,q3,q4⟩:=hw.1.sat h _ hsb;have hg:=hw.1.lt h _ hsb;have hone1:u.oneCell'=true:=by rcases q1.2 with⟨hu,_⟩ | ⟨b,cap,cur,hu,_⟩ <;> rw[hu] <;> rfl
    obtain⟨v',w',hr,hown',hgr,href,hblk⟩:=qEu (P:=E.P) (w:=w) (ty:=o.type) (bytes:=bytes) (cap:=cap) (tt:=tt) hu hi hz hsz hby (by rw[<-hsz,hzl]) (v:=u) (l:=l) (m:=m)
     q1 hsrc (by simp only[maxLen];have:=hp2.1;omega) hp2.1.2
    have hside:=append_side (P:=E.P) (w:=w) (w':=w') (ty:=o.type) (bytes:=bytes) (sz:=tt.sz) (n:=l.length) (m:=m.length) (xs:=l.flatMap tt.enc) (ys:=m.flatMap tt.enc) hu hi hz hsz hby tt.sz_pos q1 (qAm tt.enc_len m) (λu hu=>by
     obtain⟨x,_,hx⟩:=List.mem_flatMap.1 hu;exact tt.enc_one x u hx) hsrc (by simp only[maxLen];have:=hp2.1;omega) hp2.1.2 hr
    have hsame:∀k,k<w.heap.size->u.ownBlock≠some k->Same w w' k:=λk hk hne=>hgr.block k hk (λe=>hne e.symm)
    have hfu:∀k,u.ownBlock=some k->k∈fp (Z h):=λk hk=>by rw[hv,fp_bag,List.mem_append];exact .inl (fpI_own hk)
    have hfg:∀k,fp1 (Z g)=some k->k∈fp (Z h):=λk hk=>by rw[hv,fp_bag,List.mem_append];exact .inr (by simp[hk])
    have hview:∀k,k<E.w0.heap.size->¬E.X k->Same w w' k:=λk h1 h2=>hsame k (Nat.lt_of_lt_of_le h1 hw.2.size) λhb=>by
     rcases q2 k hb with h | h
     ·omega
     ·exact h2 h
    have hgho:VrowAt E.X E.w0 w' tt (Z g) ((l++m).take n):=by
     rw[List.take_append_of_le_length q3];rcases q4 with h0 | ⟨b,c,k1,k2,k3,k4,k5,k6⟩
     ·exact .inl h0
     have hk4:b<w'.heap.size:=Nat.lt_of_lt_of_le k4 hgr.size;by_cases hub:u.ownBlock=some b
     ·rcases hside with hs | hs
      ·have hvb:v'.ownBlock=some b:=hs.trans hub;refine .inr ⟨b,c,k1,k2,λj x hx=>?_,hk4,k5,qDi hown' hvb⟩;have hcell:=World.ownsRow.cells hown' (g:=b) (by
        rcases hown'.2 with⟨hh,_⟩ | ⟨b',cap',cur',hh,_⟩
        ·rw[hh] at hvb;cases hvb
        ·rw[hh] at hvb ⊢;simp only[Value.ownBlock,snJ] at hvb;rw[hvb];rfl) j x (by
        rw[List.flatMap_append,List.getElem?_append_left]
        ·rw[qDg tt.enc_len] at hx;rw[List.getElem?_take] at hx;split at hx
         ·exact hx
         ·cases hx
        ·rw[qAm tt.enc_len];have:=(List.getElem?_eq_some_iff.1 hx).1;rw[qAm tt.enc_len,List.length_take] at this;have hle:min n l.length*tt.sz<=l.length*tt.sz:=Nat.mul_le_mul_right _ (Nat.min_le_right _ _);omega)
       rwa [qAw] at hcell
      ·have hs:=hs b k4;exact .inr ⟨b,c,k1,k2,λj x hx=>(Same.cell (a:=⟨b,j,none⟩) hs).trans (k3 j x hx),hk4,k5,λ⟨C,e,k,hb⟩=>k6 ⟨C,e,k,hs.symm.trans hb⟩⟩
     ·have hs:=hsame b k4 hub;exact .inr ⟨b,c,k1,k2,λj x hx=>(Same.cell (a:=⟨b,j,none⟩) hs).trans (k3 j x hx),hk4,k5,λ⟨C,e,k,hb⟩=>k6 ⟨C,e,k,hs.symm.trans hb⟩⟩
    obtain⟨Z',hag,hnw,hsat⟩:=sb_push (w':=w') hw.1 [h] (.gro tt e (l++m) n g) (bagV v' [[Z g]]) trivial hview (λk hk=>hsame k hk.lt λq=>qDi q1 q hk) (λj sb k hj hjs hx hk=>hsame k (hw.1.fp_lt hjs hx hk).1 λq=>hw.1.apart j h sb _ k (λe=>hj (by simp[e])) hjs hsb hx rfl hk (hfu k q))
     (λZ' hag=>⟨v',by rw[hag g hg],hown',λb hb=>by
      rcases hblk b hb with q | q
      ·exact q2 b q
      ·exact .inl (Nat.le_trans hw.2.size q),by rw[List.length_append];omega,by rw[hag g hg];exact hgho⟩) (Nat.lt_succ_of_lt hg) (λb hb=>by
      rw[fp_bag,List.mem_append] at hb;rcases hb with hb | hb
      ·obtain⟨ad',n',c',rfl⟩:=href;cases ad' with
       | none=>simp[fpI,fp1] at hb
       | some ad' =>
        rcases hblk b (by simpa[fpI,fp1,Value.ownBlock,eq_comm] using hb) with q | q
        ·exact .inr ⟨h,by simp,_,hsb,rfl,hfu b q⟩
        ·exact .inl q
      ·exact .inr ⟨h,by simp,_,hsb,rfl,hfg b (by
        cases hq:fp1 (Z g) with
        | none=>simp[hq] at hb
        | some k=>simp[hq] at hb;rw[hb])⟩)
    have hone':v'.oneCell'=true:=by obtain⟨_,_,_,h⟩:=href;rw[h];rfl
    have:=hK Z' w' hag ⟨hsat,hw.2.keep hgr.os hgr.output hgr.size hview⟩;simp only[SV.den,SC.den,S0.den,hnw,qAq _ hone'] at this;unfold Oper.wp;rw[hrun w,show(S0.bsl h).den Z=u by rw[S0.den,hv,qAq _ hone1],hv',hr];exact this
   ·trivial
 ·trivial
theorem append_bag(hw0:∀i<S.hp.length,qBs (Z i)){t e bytes:Nat}{i:TypeInfo}{v:Value}{s s':S0}(hu:E.P.underlying t=some (.slice e))(hi:E.P.info? e=some i)(hz:i.zero=some v)(hzl:v.cells.size=i.size)(hby:i.bytes=bytes)
  (hrun:∀w,(execOp a.eval o).run E.P w=((Builtin.append_ #[t,t] o.type #[s.den Z,s'.den Z]).run E.P w).andThen λv w'=>.ok (.value v) w'):OpOK E Z S a o (qDo S.hp e i.size bytes s s').toR:=by
 have src:∀ {k:Nat} {ks:List NK} {e2:Nat} {m:List (NT ks)} {w:World},HpSat E.X E.w0 w Z S.hp->S.hp[k]?=some (.bag ks e2 m)->∃u rs ad cap,Z k=bagV u rs/\BagOK E.X E.w0 w ks e2 m u rs/\u=.slice ad m.length cap /\
   (∀j u',(qAs ks m rs)[j]?=some u'->∃a,ad=some a/\w.cell? (a.add j)=some u')/\∀u'∈qAs ks m rs,u'.oneCell'=true:=by
  intro k ks e2 m w hw hsb;obtain⟨u,rs,hv,hb⟩:=hw.sat k _ hsb;have one:∀(m:List (NT ks)) (rs:List (List Value)),qAr E.X E.w0 w ks m rs->∀u'∈qAs ks m rs,u'.oneCell'=true:=by
   intro m;induction m with
   | nil=>intro rs _ u' hu';cases rs <;> simp[qAs] at hu'
   | cons x m ih =>
    intro rs h u' hu';cases rs with
    | nil=>simp[qAs] at hu'
    | cons r rs =>
     simp only[qAs,List.mem_append] at hu';rcases hu' with hu' | hu'
     ·exact qD0 h.1 u' hu'
     ·exact ih rs h.2 u' hu'
  rcases hb.row.2 with⟨h1,hn⟩ | ⟨g,cap,cur,h1,_⟩
  ·refine⟨u,rs,none,0,hv,hb,by rw[h1,hn],λj u' hu'=>?_,one m rs hb.refs⟩;have:=(List.getElem?_eq_some_iff.1 hu').1;rw[qCw hb.refs.len,hn] at this;omega
  ·exact⟨u,rs,some ⟨g,0,none⟩,cap,hv,hb,h1,λj u' hu'=>⟨_,rfl,World.ownsRow.cells hb.row (g:=g) (by rw[h1];rfl) j u' hu'⟩,one m rs hb.refs⟩
 unfold qDo;split
 ·rename_i h';split
  ·rename_i ks e' m hsb;cases hc:(bif Nat.beq i.size ks.length then Nat.beq e e' else false) with
   | false=>trivial
   | true =>
    simp only[cnT];have hc1:i.size=ks.length/\e=e':=by
     cases h3:Nat.beq i.size ks.length with
     | false=>rw[h3] at hc;simp at hc
     | true=>rw[h3] at hc;exact⟨by simpa using h3,by simpa using hc⟩
    obtain⟨hsz,rfl⟩:=hc1;intro hp;have hp1:=hp.1;refine⟨by simp[SV.lt,SC.lt,S0.lt],by simp,λw hw K Q hK=>?_⟩;obtain⟨u,rs,ad,cap,hv,hb,hu',hsrc,hone⟩:=src hw.1 hsb;obtain⟨v',w',hr,hown',hgr,href,hblk⟩:=qDc (P:=E.P) (w:=w) (ty:=o.type) (bytes:=bytes) (cap:=cap) (n:=0) (m:=m.length) (xs:=[]) (ys:=qAs ks m rs) hu hi hz hsz hby (by rw[hzl,hsz]) hb.pos (v:=.slice none 0 0)
     (World.ownsRow_nil w 0 e ks.length) (qCw hb.refs.len) hone hsrc (by simp only[Nat.zero_add,maxLen];omega) (by simp only[Nat.zero_add];exact hp1.2)
    simp only[Nat.zero_add,List.nil_append] at hown';have hsame:∀k,k<w.heap.size->Same w w' k:=λk hk=>hgr.block k hk (by simp[Value.ownBlock])
    have hnewb:∀b,v'.ownBlock=some b->w.heap.size<=b:=λb hb=>by
     rcases hblk b hb with h | h
     ·simp[Value.ownBlock] at h
     ·exact h
    have hslb:∃ad n c,u=.slice ad n c:=⟨_,_,_,hu'⟩;obtain⟨Z',hag,hnw,hsat⟩:=bag_push (w':=w') (ks:=ks) (e:=e) (l:=m) (u:=v') (rs:=rs) hw.1 [h'] (λk hk _=>hsame k (Nat.lt_of_lt_of_le hk hw.2.size)) (λk hk=>hsame k hk.lt) (λj sb k _ hj hx hk=>hsame k (hw.1.fp_lt hj hx hk).1)
     ⟨hown',λb hb=>.inl (Nat.le_trans hw.2.size (hnewb b hb)),hb.refs.keep λk hk=>hsame k (hb.refs.fp_lt hk).1,hb.uniq,λi j x b q1 q2 q3=>by
      have:=(hb.refs.fp_lt (qDx.2 ⟨i,j,x,q1,q2⟩)).1;have:=hnewb b q3;omega,hb.pos⟩ (λb hb2=>by
      rcases (qCo href).1 hb2 with hb2 | hb2
      ·exact .inl (hnewb b hb2)
      ·exact .inr ⟨h',by simp,_,hsb,rfl,by rw[hv];exact(qCo hslb).2 (.inr hb2)⟩)
    have hone':v'.oneCell'=true:=by obtain⟨_,_,_,h⟩:=href;rw[h];rfl
    have:=hK Z' w' hag ⟨hsat,hw.2.keep hgr.os hgr.output hgr.size λk hk _=>hsame k (Nat.lt_of_lt_of_le hk hw.2.size)⟩;simp only[SV.den,SC.den,S0.den,hnw,qAq _ hone'] at this;unfold Oper.wp;rw[hrun w,show(S0.val (Value.slice none 0 0)).den Z=.slice none 0 0 from rfl,show(S0.bsl h').den Z=.slice ad m.length cap by rw[S0.den,hv,qAq rs hb.one,hu'],hr];exact this
  ·trivial
 ·rename_i h h';split
  ·rename_i ks e1 l ks' e2 m hsb1 hsb2;split
   ·rename_i hk;subst hk;cases hc:(bif Nat.beq i.size ks'.length then(bif Nat.beq e e1 then(bif Nat.beq h h' then false else true) else false) else false) with
    | false=>trivial
    | true =>
     simp only[cnT];have hc1:i.size=ks'.length/\e=e1/\h≠h':=by
      cases h3:Nat.beq i.size ks'.length with
      | false=>rw[h3] at hc;simp at hc
      | true =>
       rw[h3] at hc;cases h4:Nat.beq e e1 with
       | false=>rw[h4] at hc;simp at hc
       | true =>
        rw[h4] at hc;cases h5:Nat.beq h h' with
        | true=>rw[h5] at hc;simp at hc
        | false=>exact⟨by simpa using h3,by simpa using h4,λe=>by rw[e] at h5;simp at h5⟩
     obtain⟨hsz,rfl,hne⟩:=hc1;intro hp;have hp1:=hp.1;refine⟨by simp[SV.lt,SC.lt,S0.lt],by simp,λw hw K Q hK=>?_⟩;obtain⟨u,rs,ad,cap,hv,hb,hu',hsrc,hone⟩:=src hw.1 hsb2;obtain⟨u1,rs1,ad1,cap1,hv1,hb1,hu1,_,_⟩:=src hw.1 hsb1;have hsl:∃ad n c,u=.slice ad n c:=⟨_,_,_,hu'⟩;have hsl1:∃ad n c,u1=.slice ad n c:=⟨_,_,_,hu1⟩;obtain⟨v',w',hr,hown',hgr,href,hblk⟩:=qDc (P:=E.P) (w:=w) (ty:=o.type) (bytes:=bytes) (cap:=cap) (n:=l.length) (m:=m.length) (xs:=qAs ks' l rs1) (ys:=qAs ks' m rs) hu hi hz hsz hby (by rw[hzl,hsz]) hb.pos (v:=u1)
      hb1.row (qCw hb.refs.len) hone hsrc (by simp only[maxLen];omega) hp1.2
     have hsame:∀k,k<w.heap.size->u1.ownBlock≠some k->Same w w' k:=λk hk hne=>hgr.block k hk (λe=>hne e.symm)
     have hx1:∀b,u1.ownBlock=some b->Excl E.X E.w0 b:=hb1.excl;have m1:∀b,u1.ownBlock=some b->b∈fp (Z h):=λb hb=>by rw[hv1];exact(qCo hsl1).2 (.inl hb)
     have r1:∀i j x b,qBo rs1 i j=some x->fp1 x=some b->b∈fp (Z h):=λi j x b q1 q2=>by rw[hv1];exact(qCo hsl1).2 (.inr ⟨i,j,x,q1,q2⟩)
     have r2:∀i j x b,qBo rs i j=some x->fp1 x=some b->b∈fp (Z h'):=λi j x b q1 q2=>by rw[hv];exact(qCo hsl).2 (.inr ⟨i,j,x,q1,q2⟩)
     have l1:∀i j x b,qBo rs1 i j=some x->fp1 x=some b->b<w.heap.size:=λi j x b q1 q2=>(hb1.refs.fp_lt (qDx.2 ⟨i,j,x,q1,q2⟩)).1
     have l2:∀i j x b,qBo rs i j=some x->fp1 x=some b->b<w.heap.size:=λi j x b q1 q2=>(hb.refs.fp_lt (qDx.2 ⟨i,j,x,q1,q2⟩)).1
     have s1:∀i j x b,qBo rs1 i j=some x->fp1 x=some b->u1.ownBlock≠some b:=λi j x b q1 q2=>hb1.alone i j x b q1 q2
     have s2:∀i j x b,qBo rs i j=some x->fp1 x=some b->u1.ownBlock≠some b:=λi j x b q1 q2 q3=>bag_apart hw.1 hne hsb1 hsb2 (m1 b q3) (r2 i j x b q1 q2)
     have hview:∀k,k<E.w0.heap.size->¬E.X k->Same w w' k:=λk q1 q2=>hsame k (Nat.lt_of_lt_of_le q1 hw.2.size) λq3=>by
      rcases hx1 k q3 with q | q
      ·omega
      ·exact q2 q
     have hlen1:=hb1.refs.len;obtain⟨Z',hag,hnw,hsat⟩:=bag_push (w':=w') (ks:=ks') (e:=e) (l:=l++m) (u:=v') (rs:=rs1++rs) hw.1 [h,h'] hview (λk hk=>hsame k hk.lt λq=>hw.1.thaw hsb1 rfl (m1 k q) hk) (λj sb k hj hjs hx hk=>hsame k (hw.1.fp_lt hjs hx hk).1 λq=>hw.1.apart j h sb _ k (λe=>hj (by simp[e])) hjs hsb1 hx rfl hk (m1 k q))
      ⟨by rw[List.length_append,bagVals_append _ _ _ _ hlen1];exact hown',λb hb2=>by
       rcases hblk b hb2 with q | q
       ·exact hx1 b q
       ·exact .inl (Nat.le_trans hw.2.size q),qAr.append (hb.refs.keep λk hk=>by
       obtain⟨i,j,x,q1,q2⟩:=qDx.1 hk;exact hsame k (l2 i j x k q1 q2) (s2 i j x k q1 q2)) (hb1.refs.keep λk hk=>by
       obtain⟨i,j,x,q1,q2⟩:=qDx.1 hk;exact hsame k (l1 i j x k q1 q2) (s1 i j x k q1 q2)),λi j i' j' x x' b q1 q2 q3 q4=>by
       rcases qEl q1 with⟨a1,q1⟩ | ⟨a1,q1⟩ <;> rcases qEl q2 with⟨a2,q2⟩ | ⟨a2,q2⟩
       ·exact hb1.uniq i j i' j' x x' b q1 q2 q3 q4
       ·exact(bag_apart hw.1 hne hsb1 hsb2 (r1 _ _ _ _ q1 q3) (r2 _ _ _ _ q2 q4)).elim
       ·exact(bag_apart hw.1 hne hsb1 hsb2 (r1 _ _ _ _ q2 q4) (r2 _ _ _ _ q1 q3)).elim
       ·obtain⟨e1,e2⟩:=hb.uniq _ j _ j' x x' b q1 q2 q3 q4;exact⟨by omega,e2⟩,λi j x b q1 q2 q3=>by
       rcases qEl q1 with⟨a1,q1⟩ | ⟨a1,q1⟩
       ·rcases hblk b q3 with q | q
        ·exact s1 _ _ _ _ q1 q2 q
        ·have:=l1 _ _ _ _ q1 q2;omega
       ·rcases hblk b q3 with q | q
        ·exact s2 _ _ _ _ q1 q2 q
        ·have:=l2 _ _ _ _ q1 q2;omega,hb.pos⟩ (λb hb2=>by
       rcases (qCo href).1 hb2 with hb2 | ⟨i,j,x,q1,q2⟩
       ·rcases hblk b hb2 with q | q
        ·exact .inr ⟨h,by simp,_,hsb1,rfl,m1 b q⟩
        ·exact .inl q
       ·rcases qEl q1 with⟨a1,q1⟩ | ⟨a1,q1⟩
        ·exact .inr ⟨h,by simp,_,hsb1,rfl,r1 _ _ _ _ q1 q2⟩
        ·exact .inr ⟨h',by simp,_,hsb2,rfl,r2 _ _ _ _ q1 q2⟩)
     have hone':v'.oneCell'=true:=by obtain⟨_,_,_,h⟩:=href;rw[h];rfl
     have:=hK Z' w' hag ⟨hsat,hw.2.keep hgr.os hgr.output hgr.size hview⟩;simp only[SV.den,SC.den,S0.den,hnw,qAq _ hone'] at this;unfold Oper.wp;rw[hrun w,show(S0.bsl h).den Z=u1 by rw[S0.den,hv1,qAq rs1 hb1.one],show(S0.bsl h').den Z=.slice ad m.length cap by rw[S0.den,hv,qAq rs hb.one,hu'],hr];exact this
   ·trivial
  ·trivial
 ·exact append_srow hw0 hu hi hz hzl hby hrun
 ·exact append_srow hw0 hu hi hz hzl hby hrun
 ·exact append_gro hu hi hz hzl hby hrun
 ·trivial
theorem append_ok(hw0:∀i<S.hp.length,qBs (Z i)){t e bytes:Nat}{i:TypeInfo}{zero:List Value}{x y:Operand}{s s':S0}(hu:E.P.underlying t=some (.slice e))(hi:E.P.info? e=some i)(hz:qBj E.P e=some zero)(hzl:zero.length=i.size)(hby:i.bytes=bytes)
  (hx:a.eval x=s.den Z) (hy:a.eval y=s'.den Z) (ho:o.op=.call { callee:=.builtin .append,args := #[x,y],argTypes := #[t,t] }):OpOK E Z S a o (appendR S.hp e i.size bytes zero s s'):=by
 obtain⟨i',v,h1,h2,rfl⟩:=zero_of hz;have hii:i'=i:=by rw[hi] at h1;exact(Option.some.inj h1).symm
 subst hii;have hrun:∀w,(execOp a.eval o).run E.P w=((Builtin.append_ #[t,t] o.type #[s.den Z,s'.den Z]).run E.P w).andThen λv w'=>.ok (.value v) w':=λw=>by
  unfold execOp;simp[ho,resolve,invoke,builtin,hx,hy]
 unfold appendR;cases hap:apart0 s s' with
 | false=>trivial
 | true =>
  simp only[cnT];split
  ·
   split
   ·rename_i tt htt;cases hsz:(i'.size == tt.sz) with
    | false=>trivial
    | true =>
     simp only[cnT];have hsz':i'.size=tt.sz:=by simpa using hsz
     split
     ·rename_i m hm;intro hp;refine⟨by simp[SV.lt,SC.lt,S0.lt],by simp,λw hw K Q hK=>?_⟩;obtain⟨ad,cap,hv',hsrc⟩:=src_spec hw.1 hm hp.1;replace hp:=hp.2;obtain⟨v',w',hr,hown',hgr,href,hblk⟩:=qEu (P:=E.P) (w:=w) (ty:=o.type) (bytes:=bytes) (cap:=cap) (tt:=tt) hu hi h2 hsz' hby (by rw[<-hsz',<-hzl];simp) (v:=.slice none 0 0) (l:=[]) (m:=m)
       (by exact World.ownsRow_nil w 0 e tt.sz) hsrc (by simp only[List.length_nil,Nat.zero_add,maxLen];omega) (by simp only[List.length_nil,Nat.zero_add];exact hp.2)
      obtain⟨Z',hag,hnew,hcls⟩:=append_core (S:=S) (E:=E) rfl hw.1 hw.2 hown' hgr href hblk (λb hb=>by simp[Value.ownBlock] at hb) (λb hb=>by simp[Value.ownBlock] at hb) (λb hb=>by simp[Value.ownBlock] at hb);have:=hK _ w' hag (by simpa using hcls);simp only[SV.den,SC.den,S0.den,hnew] at this;unfold Oper.wp;rw[hrun w,show(S0.val (Value.slice none 0 0)).den Z=.slice none 0 0 from rfl,hv',hr];exact this
     ·trivial
   ·exact append_bag hw0 hu hi h2 (by simpa using hzl) hby hrun
  ·
   rename_i hh;split
   ·rename_i tt e' l hsb;cases hsz:(i'.size == tt.sz && e == e') with
    | false=>trivial
    | true =>
     simp only[cnT];simp only[Bool.and_eq_true,beq_iff_eq] at hsz;obtain⟨hsz',rfl⟩:=hsz;split
     ·rename_i m hm;intro hp;refine⟨by simp[SV.lt,SC.lt,S0.lt],by simp,λw hw K Q hK=>?_⟩;obtain⟨ad,cap,hv',hsrc⟩:=src_spec hw.1 hm hp.1;replace hp:=hp.2;obtain⟨h1',h2'⟩:=hw.1.sat hh _ hsb;obtain⟨v',w',hr,hown',hgr,href,hblk⟩:=qEu (P:=E.P) (w:=w) (ty:=o.type) (bytes:=bytes) (cap:=cap) (tt:=tt) hu hi h2 hsz' hby (by rw[<-hsz',<-hzl];simp) (v:=Z hh) (l:=l) (m:=m)
       h1' hsrc (by simp only[maxLen];omega) hp.2
      obtain⟨Z',hag,hnew,hcls⟩:=append_core (S:=S) (E:=E) (hp0:=S.hp.set hh .dead) (by simp) (hw.1.kill hh) hw.2 hown' hgr href hblk h2' (λ_=>qDi h1') (λb hb j sb hj hx' hfp=>by
       by_cases hjh:j=hh
       ·subst hjh;rw[List.getElem?_set_self (List.getElem?_eq_some_iff.1 hsb).1] at hj;cases hj;cases hx'
       ·rw[List.getElem?_set_ne (Ne.symm hjh)] at hj;exact hw.1.apart j hh sb _ b hjh hj hsb hx' rfl hfp (fp_own hb))
      have:=hK _ w' hag hcls;simp only[SV.den,SC.den,S0.den,hnew] at this;unfold Oper.wp;rw[hrun w,show(S0.own hh).den Z=Z hh from rfl,hv',hr];exact this
     ·trivial
   ·exact append_bag hw0 hu hi h2 (by simpa using hzl) hby hrun
   ·trivial
  ·exact append_bag hw0 hu hi h2 (by simpa using hzl) hby hrun
theorem qA4(hs:qCv Z S a)(hact:act):∀ {xs:List Operand} {ys:List Arg},args xs=some ys->∀ {p:Prop} {l:List SV},argsE S act ys=some (p,l)->p->xs.map a.eval=l.map (SV.den Z)/\∀v∈l,v.lt S.hp.length
 | [],ys,h,p,l,h2,_=>by
  simp only[args,snJ] at h;subst h;simp only[argsE,snJ,Prod.mk.injEq] at h2;obtain⟨_,rfl⟩:=h2;exact⟨rfl,λv hv=>by simp at hv⟩
 | x::xs,ys,h,p,l,h2,hp=>by
  simp only[args] at h;split at h
  ·rename_i y s h3 h4;simp only[snJ] at h;subst h;simp only[argsE] at h2;split at h2
   ·rename_i p1 v q l2 h5 h6;simp only[snJ,Prod.mk.injEq] at h2;obtain⟨rfl,rfl⟩:=h2;obtain⟨e1,e2⟩:=qAc hs hact h3 h5 hp.1;obtain⟨e3,e4⟩:=qA4 hs hact h4 h6 hp.2;refine⟨by simp[e1,e3],λu hu=>?_⟩;rcases List.mem_cons.1 hu with rfl | hu
    ·exact e2
    ·exact e4 u hu
   ·cases h2
  ·cases h
theorem qDl{P:Program}{f:Nat}{fn:Func}{vs:Array Value}{w:World}(hf:P.funcs[f]?=some fn)(hb:fn.body.isSome=true)(hn:fn.name ≠ "runtime.NumGoroutine"):(callFunc f vs).run P w=.ok (.enter f vs) w:=by
 have hb':fn.body.isNone=false:=by
  cases h:fn.body <;> simp_all
 simp[callFunc,hf,hb',hn];intro h;rw[h] at hb;cases hb
theorem call_ok(hs:qCv Z S a)(hact:act){f:Nat}{fn:Func}{c:Call}{ys:List Arg}(hf:E.P.funcs[f]?=some fn)(hb:fn.body.isSome=true)(hn:fn.name ≠ "runtime.NumGoroutine")(hc:c.callee=.value (.func f))(hargs:args c.args.toList=some ys)
  (ho:o.op=.call c) {J:Nat->Option Con} (hJ:∀f C,J f=some C->Valid E.P f C):OpOK E Z S a o (runP J S act (.call f ys)):=by
 have hrun:∀(l:List SV),c.args.toList.map a.eval=l.map (SV.den Z)->∀w,(execOp a.eval o).run E.P w=.ok (.enter f (l.map (SV.den Z)).toArray) w:=λl hl w=>by
  have hmap:c.args.map a.eval=(l.map (SV.den Z)).toArray:=by
   rw[<-hl];apply Array.toList_inj.1;rw[Array.toList_map]
  unfold execOp;simp only[ho,resolve,hc,hmap,Act.eval,Deferred.ofValue,Sem.run_bind,Sem.run_pure,Result.andThen_ok,invoke,Array.empty_append,Array.append_empty,qDl hf hb hn]
 simp only[runP];split
 ·rename_i C p l h1 h2;have hV:=hJ f C h1;split
  ·rename_i q v h3;intro hp;obtain⟨e1,e2⟩:=qA4 hs hact hargs h2 hp.1;have hv:=hV l S.hp q v none h3 (hp.2 hact) e2;refine⟨hv.1,λw hw=>?_⟩;unfold Oper.quietAt;rw[hrun l e1 w];exact⟨rfl,hv.2 E.X E.w0 w Z hw.1 hw.2⟩
  ·rename_i q v hp' h3;intro hp;obtain⟨e1,e2⟩:=qA4 hs hact hargs h2 hp.1;have hv:=hV l S.hp q v (some hp') h3 (hp.2 hact) e2;refine⟨hv.1,hv.2.1,λw hw K Q hK=>?_⟩;unfold Oper.wp;rw[hrun l e1 w];refine(hv.2.2 E.X E.w0 w Z hw.1 hw.2).mono ?_;rintro e w' ⟨Z',hag,rfl,h4,h5⟩
   exact hK Z' w' hag ⟨h4,h5⟩
  ·trivial
 ·trivial
theorem callW_ok(hs:qCv Z S a)(hact:act){c:Call}{t:Nat}{ys:List Arg}(hlt:∀(h:Nat) (sb:SB),S.hp[h]?=some sb->sb.lt S.hp.length)(hc:c.callee=.value (.tmp t))(hargs:args c.args.toList=some ys)
  (ho:o.op=.call c) {J:Nat->Option Con} (hJ:∀f C,J f=some C->Valid E.P f C):OpOK E Z S a o (runP J S act (.callW (bodyL E.P) (.t t) ys)):=by
 simp only[runP];split
 ·rename_i p s q l hx hl;split
  ·rename_i f l1 l2 hcl;cases hb:(bodyL E.P).contains f with
   | false=>trivial
   | true =>
    simp only[cnT];obtain⟨fn,hf,hbo,hn⟩:=bodyL_spec hb;have key:p/\q->(∀v∈l1++l++l2,v.lt S.hp.length)/\∀w0,Cls E Z S.hp w0->∀w,(execOp a.eval o).run E.P w=.ok (.enter f ((l1++l++l2).map (SV.den Z)).toArray) w:=λhpq=>by
     obtain⟨e1,e1'⟩:=qAc hs hact (x:=.tmp t) rfl hx hpq.1;clear e1';obtain⟨e3,e4⟩:=qA4 hs hact hargs hl hpq.2;unfold cloL at hcl;split at hcl
     ·rename_i hh;split at hcl
      ·rename_i f0 k0 l0 hsb;simp only[snJ,Prod.mk.injEq] at hcl;obtain⟨rfl,rfl,rfl⟩:=hcl;have hlt0:=hlt hh _ hsb;refine⟨λv hv=>?_,λw0 hw w=>?_⟩
       ·simp only[List.mem_append,List.mem_map] at hv;rcases hv with(⟨y,hy,rfl⟩ | hv) | ⟨y,hy,rfl⟩
        ·exact hlt0 y (List.mem_of_mem_take hy)
        ·exact e4 v hv
        ·exact hlt0 y (List.mem_of_mem_drop hy)
       ·have hval:Z hh=_:=hw.1.sat hh _ hsb;have hmap:c.args.map a.eval=(l.map (SV.den Z)).toArray:=by
         rw[<-e3];apply Array.toList_inj.1;rw[Array.toList_map]
        have hxv:a.eval (.tmp t)=.func (.func f0) ((l0.take k0).map (S0.den Z)).toArray ((l0.drop k0).map (S0.den Z)).toArray:=by rw[e1];exact hval
        unfold execOp;simp only[ho,resolve,hc,hmap,hxv,Deferred.ofValue,Sem.run_bind,Sem.run_pure,Result.andThen_ok,invoke,qDl hf hbo hn];congr 2
        simp[SV.den,SC.den,Function.comp_def]
      ·cases hcl
     ·cases hcl
    split
    ·rename_i C h1;have hV:=hJ f C h1;split
     ·rename_i z v h3;intro hp;obtain⟨e2,hrun⟩:=key hp.1;have hv:=hV _ S.hp z v none h3 (hp.2 hact) e2;refine⟨hv.1,λw hw=>?_⟩;unfold Oper.quietAt;rw[hrun w hw w];exact⟨rfl,hv.2 E.X E.w0 w Z hw.1 hw.2⟩
     ·rename_i z v hp' h3;intro hp;obtain⟨e2,hrun⟩:=key hp.1;have hv:=hV _ S.hp z v (some hp') h3 (hp.2 hact) e2;refine⟨hv.1,hv.2.1,λw hw K Q hK=>?_⟩;unfold Oper.wp;rw[hrun w hw w];refine(hv.2.2 E.X E.w0 w Z hw.1 hw.2).mono ?_;rintro e w' ⟨Z',hag,rfl,h4,h5⟩
      exact hK Z' w' hag ⟨h4,h5⟩
     ·trivial
    ·trivial
  ·trivial
 ·trivial
end
end Go.Eng
