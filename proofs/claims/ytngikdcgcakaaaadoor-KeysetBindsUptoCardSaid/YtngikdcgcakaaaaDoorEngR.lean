import Derived.Test.YtngikdcgcakaaaaDoorEngG
namespace Go.Eng
set_option linter.unusedVariables false
set_option linter.unusedSimpArgs false
theorem add_add(a:Addr)(n j:Nat):(a.add n).add j=a.add (n+j):=by
 unfold Addr.add;by_cases hn:n=0 <;> by_cases hj:j=0 <;> simp_all [Nat.add_assoc]
theorem add_block(a:Addr)(n:Nat):(a.add n).block=a.block:=by unfold Addr.add;split <;> rfl
theorem qAw(b n:Nat):(⟨b,0,none⟩:Addr).add n=⟨b,n,none⟩:=by unfold Addr.add;split <;> simp_all
theorem qAm{U:Type}{f:U->List Value}{sz:Nat}(hf:∀x,(f x).length=sz):∀(l:List U),(l.flatMap f).length=l.length*sz
 | []=>by simp
 | x::l=>by simp only[List.flatMap_cons,List.length_append,hf,qAm hf l,List.length_cons,Nat.add_mul,Nat.one_mul,Nat.add_comm]
theorem qCa{U:Type}{f:U->List Value}{sz:Nat}(hf:∀x,(f x).length=sz)(d:U):∀(l:List U) (i k:Nat) (u:Value),i<l.length->(f (l.getD i d))[k]?=some u->(l.flatMap f)[i*sz+k]?=some u
 | [],i,k,u,hi,_=>by simp at hi
 | x::l,0,k,u,_,h=>by
  simp only[List.getD_cons_zero] at h;have hk:k<(f x).length:=(List.getElem?_eq_some_iff.1 h).1;simp only[List.flatMap_cons,Nat.zero_mul,Nat.zero_add];rw[List.getElem?_append_left hk];exact h
 | x::l,i+1,k,u,hi,h=>by
  simp only[List.getD_cons_succ] at h;simp only[List.flatMap_cons];rw[List.getElem?_append_right (by rw[hf,Nat.add_mul];omega),hf];have:=qCa hf d l i k u (by simpa using hi) h;rw[show(i+1)*sz+k - sz=i*sz+k by rw[Nat.add_mul];omega];exact this
theorem qDg{U:Type}{f:U->List Value}{sz:Nat}(hf:∀x,(f x).length=sz):∀(l:List U) (n:Nat),(l.take n).flatMap f=(l.flatMap f).take (n*sz)
 | [],n=>by simp
 | x::l,0=>by simp
 | x::l,n+1=>by
  have hx:=hf x;have e1:(n+1)*sz=(f x).length+n*sz:=by rw[Nat.add_mul,hx];omega
  rw[List.take_succ_cons,List.flatMap_cons,List.flatMap_cons,qDg hf l n,e1,List.take_length_add_append]
theorem vals_map{Z:Nat->Value}:∀ {l:List S0} {vs:List Value},vals l=some vs->l.map (S0.den Z)=vs
 | [],vs,h=>by simp only[vals,snJ] at h;subst h;rfl
 | .val v::r,vs,h=>by
  simp only[vals] at h;split at h
  ·rename_i s hs;simp only[snJ] at h;subst h;simp[vals_map hs,S0.den]
  ·cases h
 | .hd _ _::_,vs,h=>by simp[vals] at h
 | .own _::_,vs,h=>by simp[vals] at h
 | .el _ _ _ _::_,vs,h=>by simp[vals] at h
 | .opt _ _ _::_,vs,h=>by simp[vals] at h
theorem decs_spec{t:ET}:∀ {n:Nat} {vs:List Value} {m:List t.T},decs t n vs=some m->m.length=n/\m.flatMap t.enc=vs.take (n*t.sz)
 | 0,vs,m,h=>by simp only[decs,snJ] at h;subst h;simp
 | n+1,vs,m,h=>by
  simp only[decs] at h;split at h
  ·rename_i x r h1 h2;simp only[snJ] at h;subst h;obtain⟨i1,i2⟩:=decs_spec h2;refine⟨by simp[i1],?_⟩;rw[List.flatMap_cons,ET.enc_dec h1,i2,Nat.add_mul,Nat.one_mul,Nat.add_comm (n*t.sz),List.take_add]
  ·cases h
theorem zeros_eq(z:List Value)(hz:0<z.length)(n:Nat):(Array.range (n*z.length)).map (λi=>(z.toArray)[i % z.toArray.size]!)=(List.replicate n z).flatten.toArray:=by
 apply Array.ext_getElem?;intro i;rw[Array.getElem?_map,Array.getElem?_range,List.getElem?_toArray];have key:∀(n i:Nat),(List.replicate n z).flatten[i]?=if i<n*z.length then z[i % z.length]? else none:=by
  intro n;induction n with
  | zero=>intro i;simp
  | succ n ih =>
   intro i;rw[List.replicate_succ,List.flatten_cons,Nat.add_mul,Nat.one_mul];by_cases h:i<z.length
   ·rw[List.getElem?_append_left h,if_pos (by omega),Nat.mod_eq_of_lt h]
   ·rw[List.getElem?_append_right (by omega),ih];have hm:(i - z.length) % z.length=i % z.length:=by
     conv=>rhs;rw[show i=(i - z.length)+z.length by omega]
     rw[Nat.add_mod_right]
    rw[hm];by_cases h2:i - z.length<n*z.length
    ·rw[if_pos h2,if_pos (by omega)]
    ·rw[if_neg h2,if_neg (by omega)]
 rw[key];by_cases h:i<n*z.length
 ·have hm:i % z.length<z.length:=Nat.mod_lt _ hz;simp[h,hm]
 ·simp[h]
theorem new_row{w:World}{e sz n cap:Nat}{cur:Array Value}{xs:List Value}(h1:xs.length=n*sz)(h2:n<=cap)(h3:cap<=maxLen)(h4:cur.size=cap*sz)(h5:cur.toList.take (n*sz)=xs) :
  (w.alloc (.cells cur e)).ownsRow 0 e sz (.slice (some ⟨w.heap.size,0,none⟩) n cap) n xs :=
 ⟨h1,.inr ⟨w.heap.size,cap,cur,rfl,Nat.zero_le _,heap_alloc_new w _,h2,h3,h4,h5⟩⟩
section
variable {E:Env} {Z:Nat->Value} {S:St} {a:Act} {o:Oper} {act:Prop}
theorem plain_spec{sz:Nat}:∀ {ps:List (Nat × Operand)} {rs:List (Nat × Arg)},qB3 ps=some rs ->
  (ps.map λx=>(some (x.1*sz,sz),arg x.2))=((rs.map λx=>(x.1*sz,sz,x.2)).map λx=>(some (x.1,x.2.1),some x.2.2))
 | [],rs,h=>by simp only[qB3,snJ] at h;subst h;rfl
 | (i,x)::ps,rs,h=>by
  simp only[qB3] at h;split at h
  ·rename_i y s h1 h2;simp only[snJ] at h;subst h;simp only[List.map_cons,h1,plain_spec h2]
  ·cases h
theorem bslice_ok(hw0:∀i<S.hp.length,qBs (Z i))(hs:qCv Z S a)(hact:act){t e n:Nat}{i:TypeInfo}{z:List Value}{ps:Array (Nat × Operand)}{rs:List (Nat × Arg)}
  (hu:E.P.underlying t=some (.slice e)) (hi:E.P.info? e=some i) (hz:qBj E.P e=some z) (hps:qB3 ps.toList=some rs) (hzl:z.length=i.size) (h0:0<n*i.size) (hbig:n*i.size<=16777216)
  (ho:o.op=.buildSlice t n ps) {J:Nat->Option Con}:OpOK E Z S a o (runP J S act (.bslice e i.size n z rs)):=by
 obtain⟨i',v,h1,h2,rfl⟩:=zero_of hz;have hii:i'=i:=by rw[hi] at h1;exact(Option.some.inj h1).symm
 subst hii;simp only[runP];split
 ·rename_i tt htt;cases hsz:(i'.size == tt.sz) with
  | false=>trivial
  | true =>
   simp only[cnT];have hsz':i'.size=tt.sz:=by simpa using hsz
   split
   ·rename_i p l h;split
    ·rename_i vs hvs;split
     ·rename_i m hm;intro hp;refine⟨by simp[SV.lt,SC.lt,S0.lt],by simp,λw hw K Q hK=>?_⟩;have e1:(((List.replicate n v.cells.toList).flatten).map S0.val).map (S0.den Z)=(List.replicate n v.cells.toList).flatten:=by
       rw[List.map_map];exact(List.map_congr_left λ_ _=>rfl).trans (List.map_id _)
      have hf:=qD1 hw0 hs hact (λi=>some (i*i'.size,i'.size)) ps.toList _ _ l p (plain_spec hps) h hp (λx hx=>by
       simp only[List.mem_map] at hx;obtain⟨u,_,rfl⟩:=hx;trivial)
      rw[e1,vals_map hvs] at hf;obtain⟨d1,d2⟩:=decs_spec hm;have hpos:0<v.cells.toList.length:=by
       rw[hzl];rcases Nat.eq_zero_or_pos i'.size with h' | h'
       ·rw[h'] at h0;simp at h0
       ·exact h'
      have hvl:vs.length=n*tt.sz:=by
       have h5:l.length=((List.replicate n v.cells.toList).flatten.map S0.val).length:=by
        clear hf hm hvs;generalize ((List.replicate n v.cells.toList).flatten.map S0.val)=l0 at h
        generalize (rs.map λx=>(x.1*i'.size,i'.size,x.2))=q at h
        induction q generalizing l0 p with
        | nil =>
         simp only[fillL,snJ,Prod.mk.injEq] at h;rw[h.2]
        | cons r q ih =>
         obtain⟨off,sz,y⟩:=r;simp only[fillL] at h;split at h
         ·split at h
          ·rename_i cs _;cases hb:(cs.length == sz && Nat.ble (off+sz) l0.length) with
           | false=>rw[hb] at h;simp at h
           | true =>
            rw[hb] at h;simp only[cnT] at h;split at h
            ·rename_i q2 m2 h3;simp only[snJ,Prod.mk.injEq] at h;obtain⟨rfl,rfl⟩:=h;rw[ih _ hp.2 _ h3,setL_length]
            ·cases h
          ·cases h
         ·cases h
       have h6:vs.length=l.length:=by rw[<-vals_map (Z:=Z) hvs,List.length_map]
       rw[h6,h5];simp[List.length_flatten,hzl,hsz']
      have hd:m.flatMap tt.enc=vs:=by rw[d2,<-hvl,List.take_length]
      have hrun:(execOp a.eval o).run E.P w=.ok (.value (.slice (some ⟨w.heap.size,0,none⟩) n n)) (w.alloc (.cells vs.toArray e)):=by
       unfold execOp;have hb:¬(n*i'.size > 2 ^ 24):=by simp;omega
       have h00:¬(n*i'.size=0):=by omega
       have hzz:(Array.range (n*i'.size)).map (λi=>v.cells[i % v.cells.size]!)=(List.replicate n v.cells.toList).flatten.toArray:=by
        have:=zeros_eq v.cells.toList hpos n;rw[hzl] at this;simpa using this
       have hpl:(Array.map (λx=>match x with | (i,x)=>(i,a.eval x)) ps).toList=ps.toList.map λx=>(x.1,a.eval x.2):=by simp
       simp only[ho,Instr.buildSlice,Sem.run_bind,run_underlying hu,Result.andThen_ok,sizeOf,typeInfo,run_program,hi,Sem.run_pure,hb,h00,if_false,qEo h1 h2,hzz,hpl,hf.1];rfl
      obtain⟨Z',hag,hnew,hsat⟩:=hw.1.alloc hw.2 (.cells vs.toArray e) (.row tt e m) (.slice (some ⟨w.heap.size,0,none⟩) n n) rfl
       (λZ' hag hn=>by
        refine⟨?_,λb hb=>?_⟩
        ·rw[d1,hd];exact new_row hvl (Nat.le_refl _) (by
          have:n<=n*i'.size:=Nat.le_mul_of_pos_right _ (by rw[<-hzl];exact hpos);simp only[maxLen];omega) (by simpa using hvl) (by simp[<-hvl])
        ·simp only[Value.ownBlock,snJ] at hb;subst hb;exact .inl hw.2.size)
       trivial trivial
      have:=hK Z' _ hag ⟨hsat,hw.2.alloc _⟩;simp only[SV.den,SC.den,S0.den,hnew] at this;unfold Oper.wp;rw[hrun];exact this
     ·trivial
    ·trivial
   ·trivial
 ·split
  ·rename_i p l h;split
   ·rename_i v' hp' hnew;unfold litBag at hnew;split at hnew;rotate_left
    ·unfold litNew at hnew;cases hlen:Nat.beq l.length (n*i'.size) with
     | false=>rw[hlen] at hnew;cases hnew
     | true =>
      rw[hlen] at hnew;simp only[cnT,snJ,Prod.mk.injEq] at hnew;obtain⟨rfl,rfl⟩:=hnew;have hlen':l.length=n*i'.size:=Nat.eq_of_beq_eq_true hlen;intro hp;refine⟨by simp[SV.lt,SC.lt,S0.lt],by simp,λw hw K Q hK=>?_⟩;have e1:(((List.replicate n v.cells.toList).flatten).map S0.val).map (S0.den Z)=(List.replicate n v.cells.toList).flatten:=by
       rw[List.map_map];exact(List.map_congr_left λ_ _=>rfl).trans (List.map_id _)
      have hf:=qD1 hw0 hs hact (λi=>some (i*i'.size,i'.size)) ps.toList _ _ l p (plain_spec hps) h hp (λx hx=>by
       simp only[List.mem_map] at hx;obtain⟨u,_,rfl⟩:=hx;trivial)
      rw[e1] at hf;have hpos:0<v.cells.toList.length:=by
       rw[hzl];rcases Nat.eq_zero_or_pos i'.size with h' | h'
       ·rw[h'] at h0;simp at h0
       ·exact h'
      have hrun:(execOp a.eval o).run E.P w=.ok (.value (.slice (some ⟨w.heap.size,0,none⟩) n n)) (w.alloc (.cells (l.map (S0.den Z)).toArray e)):=by
       unfold execOp;have hb:¬(n*i'.size > 2 ^ 24):=by simp;omega
       have h00:¬(n*i'.size=0):=by omega
       have hzz:(Array.range (n*i'.size)).map (λi=>v.cells[i % v.cells.size]!)=(List.replicate n v.cells.toList).flatten.toArray:=by
        have:=zeros_eq v.cells.toList hpos n;rw[hzl] at this;simpa using this
       have hpl:(Array.map (λx=>match x with | (i,x)=>(i,a.eval x)) ps).toList=ps.toList.map λx=>(x.1,a.eval x.2):=by simp
       simp only[ho,Instr.buildSlice,Sem.run_bind,run_underlying hu,Result.andThen_ok,sizeOf,typeInfo,run_program,hi,Sem.run_pure,hb,h00,if_false,qEo h1 h2,hzz,hpl,hf.1];rfl
      obtain⟨Z',hag,hnew,hsat⟩:=hw.1.alloc hw.2 (.cells (l.map (S0.den Z)).toArray e) (.cells e l) (.pointer (some ⟨w.heap.size,0,none⟩)) rfl
       (λZ' hag hn=>⟨w.heap.size,rfl,by
        rw[heap_alloc_new w _,show l.map (S0.den Z')=l.map (S0.den Z) from List.map_congr_left λy hy=>S0.den_congr hag (hf.2 y hy)],.inl hw.2.size⟩)
       (λy hy=>S0.lt_mono (Nat.le_succ _) (hf.2 y hy)) trivial
      obtain⟨Z2,hag2,hnew2,hsat2⟩:=hsat.more (.slc S.hp.length n i'.size) (.slice (some ⟨w.heap.size,0,none⟩) n n) trivial (λZ2 hag2=>⟨w.heap.size,by rw[hag2 _ (by simp),hnew],rfl⟩) (by simp[SB.lt];omega) (λhx=>by cases hx);have hl1:(S.hp++[SB.cells e l]).length=S.hp.length+1:=by simp
      rw[hl1] at hnew2;rw[List.append_assoc] at hsat2;have:=hK Z2 _ (λi hi=>by rw[hag2 i (by rw[hl1];omega),hag i hi]) ⟨hsat2,hw.2.alloc _⟩;simp only[SV.den,SC.den,S0.den,hnew2] at this;unfold Oper.wp;rw[hrun];exact this
    rename_i xx hxx;cases hnew;have hnew:=hxx;clear hxx;unfold bagNew at hnew;split at hnew
    ·rename_i ks hks;cases hsz:(bif Nat.beq i'.size ks.length then Nat.blt 0 i'.size else false) with
     | false=>rw[hsz] at hnew;simp at hnew
     | true =>
      rw[hsz] at hnew;simp only[cnT] at hnew;have hsz1:i'.size=ks.length/\0<i'.size:=by
       cases h3:Nat.beq i'.size ks.length with
       | false=>rw[h3] at hsz;simp at hsz
       | true =>
        rw[h3] at hsz;exact⟨by simpa using h3,by simpa using hsz⟩
      split at hnew
      ·rename_i x hs' ht;cases hnd:nodupN hs' with
       | false=>rw[hnd] at hnew;simp at hnew
       | true =>
        rw[hnd] at hnew;simp only[cnT,snJ,Prod.mk.injEq] at hnew;obtain⟨rfl,rfl⟩:=hnew;intro hp;refine⟨by simp[SV.lt,SC.lt,S0.lt,killL_len],by simp[killL_len],λw hw K Q hK=>?_⟩;have e1:(((List.replicate 1 v.cells.toList).flatten).map S0.val).map (S0.den Z)=(List.replicate 1 v.cells.toList).flatten:=by
         rw[List.map_map];exact(List.map_congr_left λ_ _=>rfl).trans (List.map_id _)
        have hf:=qD1 hw0 hs hact (λi=>some (i*i'.size,i'.size)) ps.toList _ _ l p (plain_spec hps) h hp (λx hx=>by
         simp only[List.mem_map] at hx;obtain⟨u,_,rfl⟩:=hx;trivial)
        rw[e1] at hf;obtain⟨r,t1,t2,t3,t4,t5⟩:=qBy hw.1 ht hnd;have hpos:0<v.cells.toList.length:=by rw[hzl];exact hsz1.2
        have hvl:(qAh ks x r).length=1*ks.length:=by rw[qAl,Nat.one_mul]
        have hrun:(execOp a.eval o).run E.P w=.ok (.value (.slice (some ⟨w.heap.size,0,none⟩) 1 1)) (w.alloc (.cells (qAh ks x r).toArray e)):=by
         unfold execOp;have hb:¬(1*i'.size > 2 ^ 24):=by simp;omega
         have h00:¬(1*i'.size=0):=by omega
         have hzz:(Array.range (1*i'.size)).map (λi=>v.cells[i % v.cells.size]!)=(List.replicate 1 v.cells.toList).flatten.toArray:=by
          have:=zeros_eq v.cells.toList hpos 1;rw[hzl] at this;simpa using this
         have hpl:(Array.map (λx=>match x with | (i,x)=>(i,a.eval x)) ps).toList=ps.toList.map λx=>(x.1,a.eval x.2):=by simp
         simp only[ho,Instr.buildSlice,Sem.run_bind,run_underlying hu,Result.andThen_ok,sizeOf,typeInfo,run_program,hi,Sem.run_pure,hb,h00,if_false,qEo h1 h2,hzz,hpl,hf.1,t1];rfl
        obtain⟨Z',hag,hnw,hsat⟩:=bag_push (w':=w.alloc (.cells (qAh ks x r).toArray e)) (ks:=ks) (e:=e) (l:=[x]) (u:=.slice (some ⟨w.heap.size,0,none⟩) 1 1) (rs:=[r]) hw.1 hs' (λk hk _=>Same.alloc (Nat.lt_of_lt_of_le hk hw.2.size)) (λk hk=>Same.alloc hk.lt) (λi sb k _ hi hx hk=>Same.alloc (hw.1.fp_lt hi hx hk).1)
         ⟨by
          have:=new_row (w:=w) (e:=e) (sz:=ks.length) (n:=1) (cap:=1) (cur:=(qAh ks x r).toArray) (xs:=qAh ks x r) hvl (Nat.le_refl _) (by simp[maxLen]) (by simpa using hvl) (by simp[<-hvl]);simpa[qAs] using this,λb hb=>by
          simp only[Value.ownBlock,snJ] at hb;subst hb;exact .inl hw.2.size,⟨t2.keep λk hk=>Same.alloc (t2.fp_lt hk).1,tV⟩,λi j i' j' v v' b q1 q2 q3 q4=>by
          cases i with
          | succ i=>simp[qBo] at q1
          | zero =>
           cases i' with
           | succ i'=>simp[qBo] at q2
           | zero=>exact⟨rfl,t4 j j' v v' b (by simpa[qBo] using q1) (by simpa[qBo] using q2) q3 q4⟩,λi j v b q1 q2 q3=>by
          cases i with
          | succ i=>simp[qBo] at q1
          | zero =>
           simp only[Value.ownBlock,snJ] at q3;have:=(t2.fp_lt (k:=b) (List.mem_filterMap.2 ⟨v,List.mem_of_getElem? (i:=j) (by simpa[qBo] using q1),q2⟩)).1;omega,by omega⟩
         (λb hb=>by
          rcases (qCo ⟨_,_,_,rfl⟩).1 hb with hb | ⟨i,j,v,q1,q2⟩
          ·simp only[Value.ownBlock,snJ] at hb;exact .inl (by omega)
          ·cases i with
           | succ i=>simp[qBo] at q1
           | zero =>
            obtain⟨i,hi',hb'⟩:=t3 j v b (by simpa[qBo] using q1) q2;obtain⟨m,hm,hmx⟩:=t5 i hi';exact .inr ⟨i,hi',_,hm,hmx,hb'⟩)
        have:=hK Z' _ hag ⟨hsat,hw.2.alloc _⟩;simp only[SV.den,SC.den,S0.den,hnw,qAq _ (show(Value.slice (some ⟨w.heap.size,0,none⟩) 1 1).oneCell'=true from rfl)] at this;unfold Oper.wp;rw[hrun];exact this
      ·cases hnew
    ·cases hnew
   ·trivial
  ·trivial
theorem qBz{P:Program}{w:World}{t:Nat}{ad:Addr}{v:Value}(h:qB4 P t=some none)(hc:w.cell? ad=some v):(loadVar t ad).run P w=.ok v w:=by
 unfold qB4 at h;split at h <;> try (simp at h;done)
 rename_i d h1 hd hi h2;have hagg:(isAgg t).run P w=.ok false w:=by
  simp only[isAgg,Sem.run_bind,run_underlying h2,Result.andThen_ok];cases d <;> first | rfl | (exact(h1 _ rfl).elim) | (exact(hd _ _ rfl).elim)
 simp only[loadVar,Sem.run_bind,hagg,Result.andThen_ok];simp[hc]
theorem qDm{P:Program}{w:World}{t n:Nat}{ad:Addr}{cs:List Value}(h:qB4 P t=some (some n))(hn:cs.length=n)(hc:∀j v,cs[j]?=some v->w.cell? (ad.add j)=some v):(loadVar t ad).run P w=.ok (.agg cs.toArray) w:=by
 unfold qB4 at h;split at h
 ·rename_i i fs h1 h2;simp only[snJ] at h;have hagg:(isAgg t).run P w=.ok true w:=by
   simp only[isAgg,Sem.run_bind,run_underlying h2,Result.andThen_ok];rfl
  have hl:=run_loadCells_list (P:=P) w ad cs hc;rw[hn,<-h] at hl;simp only[loadVar,Sem.run_bind,hagg,Result.andThen_ok,if_true,sizeOf,typeInfo,run_program,h1,Sem.run_pure,hl]
 ·rename_i i l e h1 h2;simp only[snJ] at h;have hagg:(isAgg t).run P w=.ok true w:=by
   simp only[isAgg,Sem.run_bind,run_underlying h2,Result.andThen_ok];rfl
  have hl:=run_loadCells_list (P:=P) w ad cs hc;rw[hn,<-h] at hl;simp only[loadVar,Sem.run_bind,hagg,Result.andThen_ok,if_true,sizeOf,typeInfo,run_program,h1,Sem.run_pure,hl]
 ·simp at h
 ·simp at h
theorem qEa{X:Nat->Prop}{w0 w:World}{hp:List SB}(h:HpSat X w0 w Z hp){hh:Nat}{t:ET}{l:List t.T}(hsb:(∃e,hp[hh]?=some (.row t e l))\/hp[hh]?=some (.view t l)){i:Nat}(hi:i<l.length) :
  ∃ad n c,Z hh=.slice (some ad) n c/\∀k u,(t.enc (l.getD i t.dft))[k]?=some u->w.cell? (ad.add (i*t.sz+k))=some u:=by
 rcases hsb with⟨e,hsb⟩ | hsb
 ·obtain⟨h1,h2⟩:=h.sat hh _ hsb;rcases h1.2 with⟨_,hn⟩ | ⟨g,cap,cur,hv,hb,hg,rest⟩
  ·omega
  ·refine⟨_,_,_,hv,λk u hk=>?_⟩;exact World.ownsRow.cells h1 (g:=g) (by rw[hv];rfl) _ _ (qCa t.enc_len t.dft l i k u hi hk)
 ·obtain⟨ad,cap,hv,_,h1⟩:=h.sat hh _ hsb;cases ad with
  | none =>
   exfalso;have hne:(t.enc (l.getD i t.dft))≠[]:=by
    intro e;have h1:=t.enc_len (l.getD i t.dft);have h2:=t.sz_pos;rw[e] at h1;simp at h1;omega
   obtain⟨u,r,hur⟩:=List.exists_cons_of_ne_nil hne;obtain⟨ad,had,_⟩:=h1 _ _ (qCa t.enc_len t.dft l i 0 u hi (by rw[hur];rfl));cases had
  | some ad =>
   refine⟨ad,_,_,hv,λk u hk=>?_⟩;obtain⟨ad',had,h2,_⟩:=h1 _ _ (qCa t.enc_len t.dft l i k u hi hk);cases had;exact h2
theorem sub_get{U:Type}{l:List U}{i n j:Nat}{v:U}(h:((l.drop i).take n)[j]?=some v):l[i+j]?=some v:=by
 rw[List.getElem?_take] at h;split at h
 ·rwa [List.getElem?_drop] at h
 ·cases h
theorem qEq{X:Nat->Prop}{w0 w:World}{t:ET}{l:List t.T}{v:Value}(h:VrowAt X w0 w t v l){i:Nat}(hi:i<l.length) :
  ∃ad n c,v=.slice (some ad) n c/\∀k u,(t.enc (l.getD i t.dft))[k]?=some u->w.cell? (ad.add (i*t.sz+k))=some u:=by
 rcases h with⟨cap,hv,h0⟩ | ⟨b,cap,hv,_,h1,_⟩
 ·rw[h0] at hi;simp at hi
 exact⟨_,_,_,hv,λk u hk=>by rw[qAw];exact h1 _ _ (qCa t.enc_len t.dft l i k u hi hk)⟩
theorem vrow_cells{X:Nat->Prop}{w0 w:World}{hp:List SB}(h:HpSat X w0 w Z hp){hh:Nat}{t:ET}{l:List t.T}(hsb:hp[hh]?=some (.vrow t l)){i:Nat}(hi:i<l.length) :
  ∃ad n c,Z hh=.slice (some ad) n c/\∀k u,(t.enc (l.getD i t.dft))[k]?=some u->w.cell? (ad.add (i*t.sz+k))=some u:=qEq (h.sat hh _ hsb) hi
theorem ghoB_spec{g:Nat}{sb:SB}:∀ {hp:List SB},ghoB g hp=some sb->∃(k:Nat) (t:ET) (e:Nat) (l:List t.T) (n:Nat),hp[k]?=some (.gro t e l n g)/\sb=.vrow t (l.take n)
 | [],h=>by cases h
 | sb0::r,h=>by
  have rest:ghoB g r=some sb->∃(k:Nat) (t:ET) (e:Nat) (l:List t.T) (n:Nat),(sb0::r)[k]?=some (.gro t e l n g)/\sb=.vrow t (l.take n):=λh=>by
   obtain⟨k,t,e,l,n,h1,h2⟩:=ghoB_spec h;exact⟨k+1,t,e,l,n,by simpa using h1,h2⟩
  unfold ghoB at h;split at h
  ·rename_i t e l n g';cases hb:Nat.beq g' g with
   | true =>
    have:=Nat.eq_of_beq_eq_true hb;subst this;rw[hb] at h;simp only[cnT,snJ] at h;exact⟨0,t,e,l,n,rfl,h.symm⟩
   | false =>
    rw[hb] at h;exact rest h
  ·exact rest h
theorem gho_sat{X:Nat->Prop}{w0 w:World}{hp:List SB}(h:HpSat X w0 w Z hp){g:Nat}{t:ET}{l:List t.T}(hg:ghoB g hp=some (.vrow t l)):VrowAt X w0 w t (Z g) l:=by
 obtain⟨k,t',e,l',n,h1,h2⟩:=ghoB_spec hg;cases h2;obtain⟨u,_,_,_,_,h3⟩:=h.sat k _ h1;exact h3
theorem gro_cells{X:Nat->Prop}{w0 w:World}{hp:List SB}(h:HpSat X w0 w Z hp){k:Nat}{t:ET}{e:Nat}{l:List t.T}{n g:Nat}(hsb:hp[k]?=some (.gro t e l n g)){i:Nat}(hi:i<l.length) :
  ∃ad c,baseV (Z k)=.slice (some ad) l.length c/\∀j u,(t.enc (l.getD i t.dft))[j]?=some u->w.cell? (ad.add (i*t.sz+j))=some u:=by
 obtain⟨u,hv,h1,_⟩:=h.sat k _ hsb;rcases h1.2 with⟨_,hn⟩ | ⟨b,cap,cur,hu,_⟩
 ·omega
 ·refine⟨_,_,by rw[hv,qAq _ (by rw[hu];rfl),hu],λj x hj=>?_⟩;exact World.ownsRow.cells h1 (g:=b) (by rw[hu];rfl) _ _ (qCa t.enc_len t.dft l i j x hi hj)
theorem srow_cells{X:Nat->Prop}{w0 w:World}{hp:List SB}(h:HpSat X w0 w Z hp){k:Nat}{e sz n:Nat}{l:List S0}(hsb:hp[k]?=some (.srow e sz n l))(hn:0<n) :
  ∃b c,Z k=.slice (some ⟨b,0,none⟩) n c/\l.length=n*sz/\∀j u,(l.map (S0.den Z))[j]?=some u->w.cell? ⟨b,j,none⟩=some u:=by
 obtain⟨h1,h2,h3,_⟩:=h.sat k _ hsb;rcases h3.2 with⟨_,h0⟩ | ⟨b,cap,cur,hu,_⟩
 ·omega
 ·refine⟨b,_,hu,h1,λj x hj=>?_⟩;have:=World.ownsRow.cells h3 (g:=b) (by rw[hu];rfl) j x hj;rwa [qAw] at this
theorem rowLoadQ_R{t:ET}{l:List t.T}{i off:Nat}{n:Option Nat}:(qCq t l i off n).toR=qC2 t l i off n:=by
 cases n with
 | none =>
  simp only[qCq,qC2];split <;> simp only[RQ.toR,AllP,and_true]
 | some m =>
  simp only[qCq,qC2];cases Nat.ble (off+m) t.sz <;> simp only[cnT,cnF,RQ.toR,AllP,and_true]
theorem cellsLoadQ_R{l:List S0}{off:Nat}{n:Option Nat}:(qCh l off n).toR=qBx l off n:=by
 cases n with
 | none =>
  simp only[qCh,qBx];split <;> simp only[RQ.toR,AllP]
 | some m =>
  simp only[qCh,qBx];cases Nat.ble (off+m) l.length <;> simp only[cnT,cnF,RQ.toR,AllP]
theorem load_rowC{t:Nat}{x:Operand}{n:Option Nat}{i off:Nat}{tt:ET}{l:List tt.T}{B:Value}(hn:qB4 E.P t=some n)(ho:o.op=.load t x)(hx:a.eval x=qBb B (i*tt.sz+off))
  (hcl:∀w,Cls E Z S.hp w->i<l.length->∃ad n c,B=.slice (some ad) n c/\∀k u,(tt.enc (l.getD i tt.dft))[k]?=some u->w.cell? (ad.add (i*tt.sz+k))=some u):OpOK E Z S a o (qC2 tt l i off n):=by
 cases n with
 | none =>
  simp only[qC2];split
  ·rename_i u hu;refine qBf (λ_=>trivial) (λhi w hw=>?_);obtain⟨ad,n,c,hv,hc⟩:=hcl w hw hi;unfold execOp;simp only[ho,hx,hv,qBb,Instr.loadAt,Instr.sureAddr,Sem.run_bind,Sem.run_pure,Result.andThen_ok,qBz hn (hc off u hu)];rfl
  ·trivial
 | some m =>
  simp only[qC2];cases hb:Nat.ble (off+m) tt.sz with
  | false=>trivial
  | true =>
   simp only[cnT];have hb':off+m<=tt.sz:=by simpa using hb
   refine qBf (λ_=>?_) (λhi w hw=>?_)
   ·intro y hy;have:=List.mem_of_mem_take hy;have:=List.mem_of_mem_drop this;simp only[List.mem_map] at this;obtain⟨u,_,rfl⟩:=this;trivial
   ·obtain⟨ad,n,c,hv,hc⟩:=hcl w hw hi;have hlen:=tt.enc_len (l.getD i tt.dft);have e1:(qBg ((tt.enc (l.getD i tt.dft)).map S0.val) off m).map (S0.den Z)=((tt.enc (l.getD i tt.dft)).drop off).take m:=by
     unfold qBg;rw[<-List.map_drop,<-List.map_take,List.map_map];exact(List.map_congr_left λ_ _=>rfl).trans (List.map_id _)
    have hr:=qDm (P:=E.P) (w:=w) (t:=t) (n:=m) (ad:=ad.add (i*tt.sz+off)) (cs:=((tt.enc (l.getD i tt.dft)).drop off).take m) hn (by rw[List.length_take,List.length_drop,hlen];omega)
     (λj v hv=>by rw[add_add,Nat.add_assoc];exact hc _ _ (sub_get hv))
    unfold execOp;simp only[ho,hx,hv,qBb,Instr.loadAt,Instr.sureAddr,Sem.run_bind,Sem.run_pure,Result.andThen_ok,hr,SV.den,SC.den,e1]
theorem load_row{t:Nat}{x:Operand}{n:Option Nat}{hh i off:Nat}{tt:ET}{l:List tt.T}(hn:qB4 E.P t=some n)(ho:o.op=.load t x)(hx:a.eval x=(S0.el hh i tt.sz off).den Z)
  (hsb:(∃e,S.hp[hh]?=some (.row tt e l))\/S.hp[hh]?=some (.view tt l)):OpOK E Z S a o (qC2 tt l i off n):=load_rowC hn ho hx λw hw hi=>qEa hw.1 hsb hi
theorem qAi(b off:Nat):ptrAdd (.pointer (some ⟨b,0,none⟩)) off=.pointer (some ⟨b,off,none⟩):=by simp only[ptrAdd,qAw]
theorem load_cellsC{t:Nat}{x:Operand}{n:Option Nat}{off:Nat}{l:List S0}(hw1:∀x∈l,x.lt S.hp.length)(hn:qB4 E.P t=some n)(ho:o.op=.load t x)
  (hcell:∀w,Cls E Z S.hp w->∃b,a.eval x=.pointer (some ⟨b,off,none⟩)/\∀j u,(l.map (S0.den Z))[j]?=some u->w.cell? ⟨b,j,none⟩=some u):OpOK E Z S a o (qBx l off n):=by
 cases n with
 | none =>
  simp only[qBx];split
  ·rename_i u hu;refine qBf (λ_=>hw1 u (List.mem_of_getElem? hu)) (λ_ w hw=>?_);obtain⟨b,hv,hc⟩:=hcell w hw;have hc':=hc off (u.den Z) (by simp[hu]);unfold execOp;simp only[ho,hv,Instr.loadAt,Instr.sureAddr,Sem.run_bind,Sem.run_pure,Result.andThen_ok,qBz hn hc',SV.den,SC.den]
  ·trivial
 | some m =>
  simp only[qBx];cases hb:Nat.ble (off+m) l.length with
  | false=>trivial
  | true =>
   simp only[cnT];have hb':off+m<=l.length:=by simpa using hb
   refine qBf (λ_ y hy=>hw1 y (List.mem_of_mem_drop (List.mem_of_mem_take hy))) (λ_ w hw=>?_);obtain⟨b,hv,hc⟩:=hcell w hw;have e1:(qBg l off m).map (S0.den Z)=((l.map (S0.den Z)).drop off).take m:=by
    unfold qBg;rw[<-List.map_drop,<-List.map_take]
   have hr:=qDm (P:=E.P) (w:=w) (t:=t) (n:=m) (ad:=⟨b,off,none⟩) (cs:=((l.map (S0.den Z)).drop off).take m) hn (by simp;omega)
     (λj v hv=>by rw[<-qAw,add_add,qAw];exact hc _ _ (sub_get hv))
   unfold execOp;simp only[ho,hv,Instr.loadAt,Instr.sureAddr,Sem.run_bind,Sem.run_pure,Result.andThen_ok,hr,SV.den,SC.den,e1]
theorem load_cells{t:Nat}{x:Operand}{n:Option Nat}{hh off:Nat}{e:Nat}{l:List S0}(hw1:∀x∈l,x.lt S.hp.length)(hn:qB4 E.P t=some n)(ho:o.op=.load t x)(hx:a.eval x=(S0.hd hh off).den Z)
  (hsb:S.hp[hh]?=some (.cells e l)):OpOK E Z S a o (qBx l off n) :=
 load_cellsC hw1 hn ho λw hw=>by
  obtain⟨b,hv,hb,_⟩:=hw.1.sat hh _ hsb;refine⟨b,by rw[hx,S0.den,hv,qAi],λj u hu=>?_⟩;rw[cell_of_row w b j _ e (0,0) hb];simpa using hu
theorem qEw{X:Nat->Prop}{w0 w:World}{ks:List NK}{e:Nat}{l:List (NT ks)}{u:Value}{rs:List (List Value)}(h:BagOK X w0 w ks e l u rs){i:Nat}(hi:i<l.length)(d:NT ks) :
  ∃ad n c r,u=.slice (some ad) n c/\rs[i]?=some r/\qAt X w0 w ks (l.getD i d) r/\∀k v,(qAh ks (l.getD i d) r)[k]?=some v->w.cell? (ad.add (i*ks.length+k))=some v:=by
 obtain⟨r,hr,ho⟩:=h.refs.at d hi;rcases h.row.2 with⟨_,hn⟩ | ⟨g,cap,cur,hv,hb,hg,rest⟩
 ·omega
 ·refine⟨_,_,_,r,hv,hr,ho,λk v hk=>?_⟩;exact World.ownsRow.cells h.row (g:=g) (by rw[hv];rfl) _ _ (bagVals_get d l rs i k r v h.refs.len hr hk)
theorem intsOf_den{k:IntKind}:∀ {l:List S0} {cs:List Int},intsOf k l=some cs->l.map (S0.den Z)=cs.map λn=>Value.int k n
 | [],cs,h=>by simp only[intsOf,snJ] at h;subst h;rfl
 | x::r,cs,h=>by
  unfold intsOf at h;split at h
  ·rename_i heq;cases heq
  ·rename_i k' n r' heq;simp only[List.cons.injEq] at heq;obtain⟨rfl,rfl⟩:=heq;cases hk:decide (k'=k) with
   | false=>rw[hk] at h;cases h
   | true =>
    rw[hk,cnT] at h;have hk:=of_decide_eq_true hk;subst hk;split at h
    ·rename_i l hl;simp only[snJ] at h;subst h;simp only[List.map_cons,intsOf_den hl,S0.den]
    ·cases h
  ·cases h
theorem sprI_den(k:IntKind)(l:List Int):∀n i,(sprI k l n i).map (S0.den Z)=(List.range' i n).map λj=>Value.int k (l.getD j 0)
 | 0,i=>rfl
 | n+1,i=>by simp only[sprI,List.map_cons,List.range'_succ,S0.den,sprI_den k l n (i+1)]
theorem spr_den{k:IntKind}{n:Nat}{l:List Int}(hl:l.length=n):(spr k n l).map (S0.den Z)=l.map (Value.int k):=by
 subst hl;unfold spr;rw[sprI_den];refine List.ext_getElem (by simp) λi h1 h2=>?_
 simp only[List.getElem_map,List.getElem_range',Nat.zero_add,Nat.one_mul];rw[List.getD_eq_getElem?_getD,List.getElem?_eq_getElem (by simpa using h2)];rfl
theorem sprI_lt(k:IntKind)(l:List Int)(m:Nat):∀n i,∀x∈sprI k l n i,x.lt m
 | 0,i,x,hx=>by simp[sprI] at hx
 | n+1,i,x,hx=>by
  rcases List.mem_cons.1 hx with rfl | hx
  ·trivial
  ·exact sprI_lt k l m n (i+1) x hx
theorem sprI_len(k:IntKind)(l:List Int):∀n i,(sprI k l n i).length=n
 | 0,i=>rfl
 | n+1,i=>by simp only[sprI,List.length_cons,sprI_len k l n]
theorem arL_spec{l:List S0}{off n:Nat}{k:IntKind}{cs:List Int}(h:arL l off n=some (k,cs)):cs.length=n/\((l.map (S0.den Z)).drop off).take n=cs.map (Value.int k)/\(0<n->off+n<=l.length):=by
 unfold arL at h;split at h
 ·split at h
  ·rename_i k' _ cs' hcs;cases hb:Nat.beq cs'.length n with
   | false=>rw[hb] at h;cases h
   | true =>
    rw[hb] at h;simp only[cnT,snJ,Prod.mk.injEq] at h;obtain⟨rfl,rfl⟩:=h;have hn:=Nat.eq_of_beq_eq_true hb;have e1:=intsOf_den (Z:=Z) hcs;have e2:(qBg l off n).map (S0.den Z)=((l.map (S0.den Z)).drop off).take n:=by
     unfold qBg;rw[List.map_take,List.map_drop]
    refine⟨hn,by rw[<-e2,e1],λh0=>?_⟩;have e3:=congrArg List.length e1;simp only[qBg,List.length_map,List.length_take,List.length_drop] at e3;omega
  ·cases h
 ·cases h
theorem arAt_spec{hp:List SB}{h off n e:Nat}{l:List S0}{k:IntKind}{cs:List Int}(ha:arAt hp h off n=some (e,l,k,cs)):hp[h]?=some (.cells e l)/\arL l off n=some (k,cs):=by
 unfold arAt at ha;split at ha
 ·rename_i e' l' hsb;split at ha
  ·rename_i k' cs' hcs;simp only[snJ,Prod.mk.injEq] at ha;obtain⟨rfl,rfl,rfl,rfl⟩:=ha;exact⟨hsb,hcs⟩
  ·cases ha
 ·cases ha
theorem arL_get{l:List S0}{off n i:Nat}{k:IntKind}{cs:List Int}(h:arL l off n=some (k,cs))(hi:i<n):(l.map (S0.den Z))[off+i]?=some (.int k (cs.getD i 0)):=by
 obtain⟨h1,h2,_⟩:=arL_spec (Z:=Z) h;apply sub_get (n:=n);rw[h2,List.getElem?_map,List.getElem?_eq_getElem (by omega),List.getD_eq_getElem?_getD,List.getElem?_eq_getElem (by omega)];rfl
theorem arPut_den{l:List S0}{off n:Nat}{k:IntKind}{cs:List Int}(hl:cs.length=n):(arPut l off n k cs).map (S0.den Z)=(l.map (S0.den Z)).take off++(cs.map (Value.int k)++(l.map (S0.den Z)).drop (off+n)):=by
 unfold arPut;rw[List.map_append,List.map_append,List.map_take,List.map_drop,spr_den hl]
theorem arPut_lt{l:List S0}{off n m:Nat}{k:IntKind}{cs:List Int}(h:∀x∈l,x.lt m):∀x∈arPut l off n k cs,x.lt m:=by
 intro x hx;unfold arPut at hx;rcases List.mem_append.1 hx with hx | hx
 ·exact h x (List.mem_of_mem_take hx)
 ·rcases List.mem_append.1 hx with hx | hx
  ·exact sprI_lt k cs m n 0 x hx
  ·exact h x (List.mem_of_mem_drop hx)
theorem arPut_set{l:List S0}{off n i:Nat}{k:IntKind}{cs:List Int}{v:Int}(h:arL l off n=some (k,cs))(hi:i<n):(arPut l off n k (cs.set i v)).map (S0.den Z)=(l.map (S0.den Z)).set (off+i) (.int k v):=by
 obtain⟨h1,h2,h3⟩:=arL_spec (Z:=Z) h;have h3:=h3 (by omega);rw[arPut_den (by rw[List.length_set];exact h1),List.map_set,<-h2];have hA:((l.map (S0.den Z)).take off).length=off:=by rw[List.length_take,List.length_map];omega
 have hM:(((l.map (S0.den Z)).drop off).take n).length=n:=by rw[List.length_take,List.length_drop,List.length_map];omega
 have e:l.map (S0.den Z)=(l.map (S0.den Z)).take off++(((l.map (S0.den Z)).drop off).take n++(l.map (S0.den Z)).drop (off+n)):=by
  rw[show(l.map (S0.den Z)).drop (off+n)=((l.map (S0.den Z)).drop off).drop n by rw[List.drop_drop],List.take_append_drop,List.take_append_drop]
 conv=>rhs;rw[e]
 rw[List.set_append_right _ _ (by omega),hA,List.set_append_left _ _ (by omega),Nat.add_sub_cancel_left]
theorem load_bag{t:Nat}{x:Operand}{s:S0}{n:Option Nat}(hn:qB4 E.P t=some n)(ho:o.op=.load t x)(hx:a.eval x=s.den Z):OpOK E Z S a o (bagLoadQ S.hp n s).toR:=by
 unfold bagLoadQ;split
 ·rename_i k i sz off;split
  ·rename_i ks e l hsb;cases hsz:Nat.beq sz ks.length with
   | false=>trivial
   | true =>
    simp only[cnT];have hsz':sz=ks.length:=by simpa using hsz
    subst hsz';have hkl:=(List.getElem?_eq_some_iff.1 hsb).1;have key:i<l.length->∀w,Cls E Z S.hp w->∃ad n c,baseV (Z k)=.slice (some ad) n c/\∀j v,((qBc k i ks (l.getD i (NT.dft ks)) 0).map (S0.den Z))[j]?=some v->w.cell? (ad.add (i*ks.length+j))=some v:=λhi w hw=>by
     obtain⟨u,rs,hv,hb⟩:=hw.1.sat k _ hsb;obtain⟨ad,n,c,r,h1,h2,h3,h4⟩:=qEw hb hi (NT.dft ks);refine⟨ad,n,c,by rw[hv,qAq rs hb.one,h1],λj v hj=>h4 j v ?_⟩;rw[qCb hv h2 ks _ 0 h3] at hj;exact hj
    cases n with
    | none =>
     simp only[bagLoad];split
     ·rename_i y hy;refine qBf (λ_=>qCy hkl ks _ 0 y (List.mem_of_getElem? hy)) (λhi w hw=>?_);obtain⟨ad,n,c,hv,hc⟩:=key hi.1 w hw;have hcell:=hc off (y.den Z) (by rw[List.getElem?_map,hy];rfl);unfold execOp;simp only[ho,hx,S0.den,hv,qBb,Instr.loadAt,Instr.sureAddr,Sem.run_bind,Sem.run_pure,Result.andThen_ok,qBz hn hcell];rfl
     ·trivial
    | some m =>
     simp only[bagLoad];cases hb:Nat.ble (off+m) ks.length with
     | false=>trivial
     | true =>
      simp only[cnT];have hb':off+m<=ks.length:=by simpa using hb
      refine qBf (λ_=>λy hy=>?_) (λhi w hw=>?_)
      ·exact qCy hkl ks _ 0 y (List.mem_of_mem_drop (List.mem_of_mem_take hy))
      ·obtain⟨u,rs,hv',hbg⟩:=hw.1.sat k _ hsb;obtain⟨_,_,_,r,_,h2,h3,_⟩:=qEw hbg hi.1 (NT.dft ks);have hlen:((qBc k i ks (l.getD i (NT.dft ks)) 0).map (S0.den Z)).length=ks.length:=by rw[qCb hv' h2 ks _ 0 h3,qAl]
       obtain⟨ad,n,c,hv,hc⟩:=key hi.1 w hw;have e1:(qBg (qBc k i ks (l.getD i (NT.dft ks)) 0) off m).map (S0.den Z)=(((qBc k i ks (l.getD i (NT.dft ks)) 0).map (S0.den Z)).drop off).take m:=by
        unfold qBg;rw[<-List.map_drop,<-List.map_take]
       have hr:=qDm (P:=E.P) (w:=w) (t:=t) (n:=m) (ad:=ad.add (i*ks.length+off)) (cs:=(((qBc k i ks (l.getD i (NT.dft ks)) 0).map (S0.den Z)).drop off).take m) hn (by rw[List.length_take,List.length_drop,hlen];omega)
        (λj v hv=>by rw[add_add,Nat.add_assoc];exact hc _ _ (sub_get hv))
       unfold execOp;simp only[ho,hx,S0.den,hv,qBb,Instr.loadAt,Instr.sureAddr,Sem.run_bind,Sem.run_pure,Result.andThen_ok,hr,SV.den,SC.den,e1]
  ·rename_i tt e l m g hsb;cases hsz:Nat.beq sz tt.sz with
   | false=>trivial
   | true =>
    have hsz':sz=tt.sz:=Nat.eq_of_beq_eq_true hsz;subst hsz';rw[cnT,rowLoadQ_R];exact load_rowC hn ho hx λw hw hi=>by
     obtain⟨ad,c,h1,h2⟩:=gro_cells hw.1 hsb hi;exact⟨ad,_,c,h1,h2⟩
  ·trivial
 ·rename_i h off m i;split
  ·rename_i e l k cs ha;obtain⟨hsb,hL⟩:=arAt_spec ha;refine qBf (λ_=>trivial) (λhi w hw=>?_);obtain⟨b,hv,hb,_⟩:=hw.1.sat h _ hsb;have hcell:w.cell? ⟨b,off+i,none⟩=some (.int k (cs.getD i 0)):=by
    unfold World.cell?;rw[hb];simpa using arL_get (Z:=Z) hL hi.1
   unfold execOp;simp only[ho,hx,S0.den,hv,qAi,Instr.loadAt,Instr.sureAddr,Sem.run_bind,Sem.run_pure,Result.andThen_ok,qBz hn hcell];rfl
  ·trivial
 ·rename_i g j;split
  ·rename_i k l hta;refine qBf (λ_=>trivial) (λhi w hw=>?_);obtain⟨h1,h2,h3⟩:=tabA_ok hw.1.tab hta;have hcell:w.cell? ⟨g,j,none⟩=some (.int k (l.getD j 0)):=(Same.cell (a:=⟨g,j,none⟩) (hw.2.block g h1 h2)).trans (h3 j hi.1);unfold execOp;simp only[ho,hx,S0.den,Instr.loadAt,Instr.sureAddr,Sem.run_bind,Sem.run_pure,Result.andThen_ok,qBz hn hcell];rfl
  ·rename_i k l m hta;cases hb:(bif Nat.beq j 0 then Nat.ble m l.length else false) with
   | false=>trivial
   | true =>
    simp only[cnT];cases hj:Nat.beq j 0 with
    | false=>rw[hj] at hb;cases hb
    | true =>
     rw[hj] at hb;have hj0:j=0:=Nat.eq_of_beq_eq_true hj;subst hj0;have hm:m<=l.length:=Nat.le_of_ble_eq_true hb;refine qBf (λ_=>sprI_lt k l _ m 0) (λhi w hw=>?_);obtain⟨h1,h2,h3⟩:=tabA_ok hw.1.tab hta;have e1:(spr k m l).map (S0.den Z)=(List.range' 0 m).map λj=>Value.int k (l.getD j 0):=sprI_den k l m 0
     have hr:=qDm (P:=E.P) (w:=w) (t:=t) (n:=m) (ad:=⟨g,0,none⟩) (cs:=(spr k m l).map (S0.den Z)) hn (by rw[List.length_map];exact sprI_len k l m 0) (λj v hv=>by
      have hjm:j<m:=by
       have:=(List.getElem?_eq_some_iff.1 hv).1;rwa [List.length_map,show(spr k m l).length=m from sprI_len k l m 0] at this
      rw[e1,List.getElem?_map,List.getElem?_range' hjm] at hv;simp only[Nat.zero_add,Nat.one_mul,Option.map_some,snJ] at hv;rw[<-hv,qAw];exact(Same.cell (a:=⟨g,j,none⟩) (hw.2.block g h1 h2)).trans (h3 j (by omega)))
     unfold execOp;simp only[ho,hx,S0.den,Instr.loadAt,Instr.sureAddr,Sem.run_bind,Sem.run_pure,Result.andThen_ok,hr,SV.den,SC.den]
  ·trivial
 ·trivial
theorem load_ok(hw1:∀(h:Nat) (sb:SB),S.hp[h]?=some sb->sb.lt S.hp.length){t:Nat}{x:Operand}{s:S0}{n:Option Nat}(hn:qB4 E.P t=some n)(hx:a.eval x=s.den Z)(ho:o.op=.load t x):OpOK E Z S a o (loadR S.hp n s):=by
 unfold loadR;split
 ·rename_i hh off;split
  ·rename_i e l hsb;exact load_cells (hw1 hh _ hsb) hn ho hx hsb
  ·trivial
 ·rename_i hh i sz off;split
  ·rename_i tt e l hsb;cases hsz:(sz == tt.sz) with
   | false=>trivial
   | true =>
    simp only[cnT];have:sz=tt.sz:=by simpa using hsz
    subst this;exact load_row hn ho hx (.inl ⟨e,hsb⟩)
  ·rename_i tt l hsb;cases hsz:(sz == tt.sz) with
   | false=>trivial
   | true =>
    simp only[cnT];have:sz=tt.sz:=by simpa using hsz
    subst this;exact load_row hn ho hx (.inr hsb)
  ·rename_i tt l hsb;cases hsz:(sz == tt.sz) with
   | false=>trivial
   | true =>
    simp only[cnT];have:sz=tt.sz:=by simpa using hsz
    subst this;exact load_rowC hn ho hx λw hw hi=>vrow_cells hw.1 hsb hi
  ·rename_i e s m l hsb;unfold srowLoadQ;cases hsz:(bif Nat.beq sz s then Nat.blt (i*sz+off) l.length else false) with
   | false=>trivial
   | true =>
    have hb:sz=s/\i*sz+off<l.length:=by
     cases h3:Nat.beq sz s with
     | false=>rw[h3] at hsz;cases hsz
     | true=>rw[h3] at hsz;exact⟨Nat.eq_of_beq_eq_true h3,by simpa using hsz⟩
    rw[cnT,cellsLoadQ_R];exact load_cellsC (hw1 hh _ hsb) hn ho λw hw=>by
     obtain⟨h1,h2,_⟩:=hw.1.sat hh _ hsb;have hm:0<m:=Nat.pos_of_ne_zero λh0=>by rw[h0,Nat.zero_mul] at h1;omega
     obtain⟨b,c,h3,_,h4⟩:=srow_cells hw.1 hsb hm;exact⟨b,by rw[hx,S0.den,h3,qBb,qAw],h4⟩
  ·unfold ghoLoadQ;split
   ·rename_i tt l hg;cases hsz:Nat.beq sz tt.sz with
    | false=>trivial
    | true =>
     have:sz=tt.sz:=Nat.eq_of_beq_eq_true hsz;subst this;rw[cnT,rowLoadQ_R];exact load_rowC hn ho hx λw hw hi=>qEq (gho_sat hw.1 hg) hi
   ·trivial
  ·trivial
 ·exact load_bag hn ho hx
theorem qEn{P:Program}{w:World}{t n g off:Nat}{e:Nat}{cur:Array Value}{v:Value}{i:TypeInfo}(hi:P.info? t=some i)(hn:i.size=n)(hg:w.heap[g]?=some (.cells cur e (0,0)))
  (hv:v.cells.size=n) (hfit:off+n<=cur.size) (h1:∀u∈v.cells.toList,u.oneCell'=true) :
  (Instr.storeAt t (.pointer (some ⟨g,off,none⟩)) v).run P w=.ok () (w.setRow g (cur.toList.take off++v.cells.toList++cur.toList.drop (off+n)).toArray):=by
 have hst:=run_storeCells_at P g off e v.cells.toList 0 cur w hg (by simp[hv];omega) h1;simp only[Nat.add_zero,Array.length_toList,hv] at hst;have hne:¬(v.cells.size≠i.size):=by rw[hv,hn];simp
 simp only[Instr.storeAt,Instr.sureAddr,storeVar,sizeOf,typeInfo,Sem.run_bind,Sem.run_pure,Result.andThen_ok,run_program,hi,hne,if_false];exact hst
theorem skip_ok{p:Prop}{hp':List SB}(hlen:S.hp.length<=hp'.length)
  (h:p->∀w,Cls E Z S.hp w->∃w',(execOp a.eval o).run E.P w=.ok .skip w'/\Cls E Z hp' w'):OpOK E Z S a o (.ok p (.c (.o (.val undef))) hp'):=by
 intro hp;refine⟨trivial,hlen,λw hw K Q hK=>?_⟩;obtain⟨w',hr,hc⟩:=h hp w hw;unfold Oper.wp;rw[hr];exact hK Z w' (λ_ _=>rfl) hc
theorem flatMap_set{U:Type}{f:U->List Value}{sz:Nat}(hf:∀x,(f x).length=sz)(y:U):∀(l:List U) (i:Nat),i<l.length->(l.set i y).flatMap f=(l.flatMap f).take (i*sz)++f y++(l.flatMap f).drop ((i+1)*sz)
 | [],i,h=>by simp at h
 | x::l,0,_=>by
  simp only[List.set_cons_zero,List.flatMap_cons,Nat.zero_mul,List.take_zero,List.nil_append,Nat.zero_add,Nat.one_mul];rw[List.drop_append,hf,Nat.sub_self,List.drop_zero,List.drop_of_length_le (by rw[hf];omega)];rfl
 | x::l,i+1,h=>by
  have ih:=flatMap_set hf y l i (by simpa using h);have hx:=hf x;simp only[List.set_cons_succ,List.flatMap_cons,ih];have e1:(i+1)*sz=(f x).length+i*sz:=by rw[Nat.add_mul,hx];omega
  have e2:(i+1+1)*sz=(f x).length+(i+1)*sz:=by rw[Nat.add_mul (i+1),hx];omega
  rw[e2,List.drop_length_add_append,e1,List.take_length_add_append];simp
theorem flatMap_el{U:Type}{f:U->List Value}{sz:Nat}(hf:∀x,(f x).length=sz)(d:U):∀(l:List U) (i:Nat),i<l.length->f (l.getD i d)=((l.flatMap f).drop (i*sz)).take sz
 | [],i,h=>by simp at h
 | x::l,0,_=>by
  simp only[List.getD_cons_zero,List.flatMap_cons,Nat.zero_mul,List.drop_zero];rw[List.take_append_of_le_length (by rw[hf];omega),List.take_of_length_le (by rw[hf];omega)]
 | x::l,i+1,h=>by
  have ih:=flatMap_el hf d l i (by simpa using h);have hx:=hf x;simp only[List.getD_cons_succ,List.flatMap_cons,ih];have e1:(i+1)*sz=(f x).length+i*sz:=by rw[Nat.add_mul,hx];omega
  rw[e1,List.drop_length_add_append]
theorem splice{xs cur el vs ey:List Value}{A sz off n N:Nat}(hx:cur.take N=xs)(hel:el=(xs.drop A).take sz)(hey:ey=el.take off++vs++el.drop (off+n))(hvs:vs.length=n)(h1:off+n<=sz)(h2:A+sz<=N)(h3:N<=cur.length) :
  (cur.take (A+off)++vs++cur.drop (A+off+n)).take N=xs.take A++ey++xs.drop (A+sz):=by
 have hxl:xs.length=N:=by rw[<-hx,List.length_take];omega
 have e1:xs.take A++el.take off=xs.take (A+off):=by
  rw[hel,List.take_take,List.take_add,Nat.min_eq_left (by omega)]
 have e2:el.drop (off+n)++xs.drop (A+sz)=xs.drop (A+off+n):=by
  have e3:xs.drop (A+sz)=(xs.drop (A+(off+n))).drop (sz - (off+n)):=by
   rw[List.drop_drop];congr 1
   omega
  rw[hel,List.drop_take,List.drop_drop,e3,List.take_append_drop,Nat.add_assoc]
 rw[hey];simp only[List.append_assoc];rw[e2,<-List.append_assoc (xs.take A),e1];have t1:cur.take (A+off)=xs.take (A+off):=by rw[<-hx,List.take_take,Nat.min_eq_left (by omega)]
 rw[t1,<-List.append_assoc,List.take_append,<-List.append_assoc];have hl:(xs.take (A+off)++vs).length=A+off+n:=by rw[List.length_append,List.length_take,hvs,hxl];omega
 rw[List.take_of_length_le (by rw[hl];omega),hl];congr 1
 rw[<-hx,List.drop_take]
theorem set_splice{l:List Value}{off:Nat}{u:Value}(h:off<l.length):l.set off u=l.take off++[u]++l.drop (off+1):=by
 rw[List.set_eq_take_append_cons_drop,if_pos h];simp
theorem store_bag{t:Nat}{x y:Operand}{s:S0}{l:List S0}{v:Value}{i:TypeInfo}(hi0:E.P.info? t=some i)
  (hx:a.eval x=s.den Z) (hy:a.eval y=v) (hv:v.cells=(l.map (S0.den Z)).toArray) (ho:o.op=.store t x y):OpOK E Z S a o (bagStoreQ S.hp i.size l s).toR:=by
 unfold bagStoreQ;split
 ·rename_i k ix sz off;split
  ·rename_i ks e l' z hsb hi1;cases hsz:Nat.beq sz ks.length with
   | false=>trivial
   | true =>
    simp only[cnT];have hsz':sz=ks.length:=by simpa using hsz
    subst hsz';split
    ·rename_i y' hy';refine skip_ok (by simp) λhlt w hw=>?_
     obtain⟨u,rs,hrv,hb⟩:=hw.1.sat k _ hsb;obtain⟨h1,uv,h2,h3,h4,h5⟩:=qD4 (X:=E.X) (w0:=E.w0) (w:=w) hy';subst h2;have hlt1:ix<l'.length:=hlt.1;obtain⟨r,hr,hok⟩:=hb.refs.at (NT.dft ks) hlt1;have hvc:v.cells = #[uv]:=by rw[hv];rfl
     rcases hb.row.2 with⟨_,hn⟩ | ⟨g,cap,cur,hu,hbz,hg,hnc,hcm,hcs,htake⟩
     ·omega
     ·have hfit:ix*ks.length+off+1<=cur.size:=by
       rw[hcs];have:(ix+1)*ks.length<=cap*ks.length:=Nat.mul_le_mul_right _ (by omega);rw[Nat.add_mul] at this;omega
      have hr1:=qEn (P:=E.P) (t:=t) (n:=1) (g:=g) (off:=ix*ks.length+off) (v:=v) hi0 hi1 hg (by rw[hvc];rfl) hfit (by rw[hvc];intro w' hw';simp at hw';subst hw';exact h3);have hgx:Excl E.X E.w0 g:=hb.excl g (by rw[hu];rfl);have hgm:g∈fp (Z k):=by
       rw[hrv];exact(qCo ⟨_,_,_,hu⟩).2 (.inl (by rw[hu];rfl))
      refine⟨w.setRow g (cur.toList.take (ix*ks.length+off)++v.cells.toList++cur.toList.drop (ix*ks.length+off+1)).toArray,?_,?_,hw.2.setRow hgx _⟩
      ·have hden:(S0.pel k ix ks.length off).den Z=.pointer (some ⟨g,ix*ks.length+off,none⟩):=by
        show qBb (baseV (Z k)) _=_;rw[hrv,qAq rs hb.one,hu];simp only[qBb,qAw]
       unfold execOp;simp only[ho,hx,hy,hden,Sem.run_bind,hr1,Result.andThen_ok,Sem.run_pure]
      ·refine hw.1.turn k _ (.bag ks e (l'.set ix y')) hsb (λ_=>rfl) (λk' h1 h2=>qBq λe=>?_) (λk' hk=>qBq λe=>hw.1.thaw hsb rfl hgm (e ▸ hk)) (λj sb' k' hj hjs hx' hk=>qBq λe=>?_) ?_ trivial
       ·subst e;rcases hgx with hgx | hgx
        ·omega
        ·exact h2 hgx
       ·subst e;exact hw.1.apart j k sb' _ g hj hjs hsb hx' rfl hk hgm
       ·refine⟨u,rs,hrv,⟨?_,.inr ⟨g,cap,_,by rw[List.length_set];exact hu,hbz,setRow_heap w g _ _ e _ hg,by rw[List.length_set];exact hnc,hcm,?_,?_⟩⟩,hb.excl,?_,hb.uniq,hb.alone,hb.pos⟩
        ·rw[qCw (by rw[List.length_set];exact hb.refs.len)]
        ·rw[hvc];simp[hcs] at hfit ⊢;omega
        ·rw[List.length_set,bagVals_set y' l' rs ix r hb.refs.len hr];have hel:=bagVals_el (NT.dft ks) l' rs ix r hb.refs.len hr;have he:qAh ks y' r=(qAh ks (l'.getD ix (NT.dft ks)) r).take off++v.cells.toList++(qAh ks (l'.getD ix (NT.dft ks)) r).drop (off+1):=by
          rw[h4,hvc,set_splice (by rw[qAl];exact h1)]
         have h7:(ix+1)*ks.length=ix*ks.length+ks.length:=by rw[Nat.add_mul,Nat.one_mul]
         have h8:(ix+1)*ks.length<=l'.length*ks.length:=Nat.mul_le_mul_right _ hlt.1;have h9:l'.length*ks.length<=cap*ks.length:=Nat.mul_le_mul_right _ hnc;rw[h7];exact splice htake hel he (by rw[hvc];rfl) (by omega) (by omega) (by simp[hcs];omega)
        ·refine hb.refs.turn (λr' hr'=>?_) λi' j v' _ hv' k' hk'=>?_
         ·rw[hr] at hr';cases hr';exact(h5 r hok).keep λk' hk'=>qBq λe=>by
           obtain⟨v',hv',hf⟩:=List.mem_filterMap.1 hk';obtain⟨j,hj⟩:=List.getElem?_of_mem hv';exact hb.alone ix j v' k' (by simp only[qBo,hr,obS,hj]) hf (by rw[hu,<-e];rfl)
         ·exact qBq λe=>hb.alone i' j v' k' hv' hk' (by rw[hu,<-e];rfl)
    ·trivial
  ·trivial
 ·rename_i h off m ix;split
  ·rename_i e l' k cs k' v' ha hn1;cases hk:decide (k'=k) with
   | false=>trivial
   | true =>
    simp only[cnT];have hk:=of_decide_eq_true hk;subst hk;obtain⟨hsb,hL⟩:=arAt_spec ha;have hvc:v.cells = #[.int k' v']:=by rw[hv];rfl
    refine skip_ok (by simp) λhi w hw=>?_
    obtain⟨b,hrv,hbk,hex⟩:=hw.1.sat h _ hsb;have hlen:=(arL_spec (Z:=Z) hL).2.2 (by have:=hi.1;omega);have hlt1:off+ix<(l'.map (S0.den Z)).length:=by have:=hi.1;rw[List.length_map];omega
    have hr:=qEn (P:=E.P) (t:=t) (n:=1) (g:=b) (off:=off+ix) (v:=v) hi0 hn1 hbk (by rw[hvc];rfl) (by simp only[List.size_toArray];exact hlt1) (by rw[hvc];intro u hu;simp at hu;subst hu;rfl);have hcs:(arPut l' off m k' (cs.set ix v')).map (S0.den Z)=(l'.map (S0.den Z)).take (off+ix)++[Value.int k' v']++(l'.map (S0.den Z)).drop (off+ix+1):=by rw[arPut_set hL hi.1,set_splice hlt1]
    suffices hc:Cls E Z (S.hp.set h (.cells e (arPut l' off m k' (cs.set ix v')))) (w.setRow b ((arPut l' off m k' (cs.set ix v')).map (S0.den Z)).toArray) by
     refine⟨_,?_,hc⟩;unfold execOp;simp only[ho,hx,hy,S0.den,hrv,qAi,Sem.run_bind,hr,Result.andThen_ok,Sem.run_pure,hvc,hcs]
    ·refine⟨hw.1.setRow (.cells e (arPut l' off m k' (cs.set ix v'))) hsb rfl (by rw[hrv];rfl) ?_ (arPut_lt (hw.1.lt h _ hsb)),hw.2.setRow hex _⟩;exact⟨b,hrv,setRow_heap w b _ _ e _ hbk,hex⟩
  ·trivial
 ·trivial
theorem store_ok(hw0:∀i<S.hp.length,qBs (Z i))(hw1:∀(h:Nat) (sb:SB),S.hp[h]?=some sb->sb.lt S.hp.length){t:Nat}{x y:Operand}{s:S0}{l:List S0}{v:Value}{i:TypeInfo}(hi:E.P.info? t=some i)
  (hx:a.eval x=s.den Z) (hy:a.eval y=v) (hv:v.cells=(l.map (S0.den Z)).toArray) (hl:∀x∈l,x.lt S.hp.length) (ho:o.op=.store t x y):OpOK E Z S a o (storeR S.hp i.size l s):=by
 unfold storeR;split
 ·rename_i hh off;split
  ·rename_i e cs hsb;cases hb:(l.length == i.size && Nat.ble (off+i.size) cs.length) with
   | false=>trivial
   | true =>
    simp only[cnT];simp only[Bool.and_eq_true,beq_iff_eq,Nat.ble_eq] at hb;refine skip_ok (by simp) λhp w hw=>?_
    obtain⟨b,hrv,hbk,hex⟩:=hw.1.sat hh _ hsb;have hr:=qEn (P:=E.P) (t:=t) (n:=i.size) (g:=b) (off:=off) (v:=v) hi rfl hbk (by rw[hv];simp[hb.1]) (by simp;omega)
     (by rw[hv];exact λu hu=>allOne_den hw0 hl hp u hu)
    suffices hc:Cls E Z (S.hp.set hh (.cells e (setL cs off l))) (w.setRow b ((setL cs off l).map (S0.den Z)).toArray) by
     refine⟨_,?_,hc⟩;unfold execOp;simp only[ho,hx,hy,S0.den,hrv,qAi,Sem.run_bind,hr,Result.andThen_ok,Sem.run_pure,hv];rw[qDd (S0.den Z) l cs off (by omega),hb.1]
    ·refine⟨hw.1.setRow (.cells e (setL cs off l)) hsb rfl (by rw[hrv];rfl) ?_ (setL_mem l cs off hl (hw1 hh _ hsb)),hw.2.setRow hex _⟩;refine⟨b,hrv,?_,hex⟩;rw[setRow_heap w b _ _ e _ hbk]
  ·trivial
 ·rename_i hh ix sz off;split
  ·rename_i tt e l' hsb;cases hb:(sz == tt.sz && (l.length == i.size && Nat.ble (off+i.size) tt.sz)) with
   | false=>trivial
   | true =>
    simp only[cnT];simp only[Bool.and_eq_true,beq_iff_eq,Nat.ble_eq] at hb;obtain⟨rfl,hb1,hb2⟩:=hb;split
    ·rename_i vs hvs;split
     ·rename_i y' hy';refine skip_ok (by simp) λhlt w hw=>?_
      obtain⟨h1,h2⟩:=hw.1.sat hh _ hsb;rcases h1.2 with⟨_,hn⟩ | ⟨g,cap,cur,hrv,hbz,hg,hnc,hcm,hcs,htake⟩
      ·omega
      ·have hlen:=tt.enc_len (l'.getD ix tt.dft);have hfit:ix*tt.sz+off+i.size<=cur.size:=by
        rw[hcs];have:(ix+1)*tt.sz<=cap*tt.sz:=Nat.mul_le_mul_right _ (by omega);rw[Nat.add_mul] at this;omega
       have hone:∀u∈v.cells.toList,u.oneCell'=true:=by
        intro u hu;have hm:u∈vs:=by
         rw[<-vals_map (Z:=Z) hvs,qDd (S0.den Z) l _ off (by rw[List.length_map,hlen];omega)];rw[hv] at hu;simp at hu ⊢;exact .inr (.inl hu)
        rw[<-ET.enc_dec hy'] at hm;exact tt.enc_one _ u hm
       have hr:=qEn (P:=E.P) (t:=t) (n:=i.size) (g:=g) (off:=ix*tt.sz+off) (v:=v) hi rfl hg (by rw[hv];simp[hb1]) hfit hone;refine⟨w.setRow g (cur.toList.take (ix*tt.sz+off)++v.cells.toList++cur.toList.drop (ix*tt.sz+off+i.size)).toArray,?_,?_⟩
       ·unfold execOp;simp only[ho,hx,hy,S0.den,hrv,qBb,qAw,Sem.run_bind,hr,Result.andThen_ok,Sem.run_pure]
       ·refine⟨hw.1.setRow (.row tt e (l'.set ix y')) hsb rfl (by rw[hrv];rfl) ?_ trivial,hw.2.setRow (h2 g (by rw[hrv];rfl)) _⟩;refine⟨⟨by rw[qAm tt.enc_len],.inr ⟨g,cap,_,by rw[List.length_set];exact hrv,hbz,setRow_heap w g _ _ e _ hg,by rw[List.length_set];exact hnc,hcm,?_,?_⟩⟩,h2⟩
        ·rw[hv];simp[hb1,hcs] at hfit ⊢;omega
        ·rw[List.length_set,flatMap_set tt.enc_len y' l' ix hlt];have hel:=flatMap_el tt.enc_len tt.dft l' ix hlt;have he:tt.enc y'=(tt.enc (l'.getD ix tt.dft)).take off++v.cells.toList++(tt.enc (l'.getD ix tt.dft)).drop (off+i.size):=by
          rw[ET.enc_dec hy',<-vals_map (Z:=Z) hvs,qDd (S0.den Z) l _ off (by rw[List.length_map,hlen];omega),hv,hb1];have:((tt.enc (l'.getD ix tt.dft)).map S0.val).map (S0.den Z)=tt.enc (l'.getD ix tt.dft):=by
           rw[List.map_map];exact(List.map_congr_left λ_ _=>rfl).trans (List.map_id _)
          rw[this]
         have h4:(ix+1)*tt.sz=ix*tt.sz+tt.sz:=by rw[Nat.add_mul,Nat.one_mul]
         have h5:(ix+1)*tt.sz<=l'.length*tt.sz:=Nat.mul_le_mul_right _ (by omega);have h6:l'.length*tt.sz<=cap*tt.sz:=Nat.mul_le_mul_right _ hnc;rw[h4];exact splice htake hel he (by rw[hv];simp[hb1]) hb2 (by omega) (by simp[hcs];omega)
     ·trivial
    ·trivial
  ·trivial
 ·exact store_bag hi hx hy hv ho
theorem size_ne{P:Program}{t:Nat}{ti:TypeInfo}(h:P.info? t=some ti)(w:World):(sizeOf t).run P w=.ok ti.size w:=by simp[sizeOf,typeInfo,h]
theorem faddr_ok{t f:Nat}{x:Operand}{fs:Array Field}{fd:Field}{ti:TypeInfo}{s:S0}(hu:E.P.underlying t=some (.struct fs))(hf:fs[f]?=some fd)(hti:E.P.info? fd.type=some ti)(hne:ti.size≠0)
  (hx:a.eval x=s.den Z) (hl:s.lt S.hp.length) (ho:o.op=.fieldAddr t x f):OpOK E Z S a o (faddrR S.hp fd.offset s):=by
 have key:∀(w:World) (ad:Addr),s.den Z=.pointer (some ad)->(execOp a.eval o).run E.P w=.ok (.value (.pointer (some (ad.add fd.offset)))) w:=by
  intro w ad had;unfold execOp;simp only[ho,hx,had,Instr.fieldAt,Sem.run_bind,run_underlying hu,Result.andThen_ok,hf,Instr.sureAddr,Sem.run_pure,fieldPlace,size_ne hti,if_neg hne]
 unfold faddrR;split
 ·rename_i hh off;split
  ·rename_i e l hsb;refine qAe (λ_=>hl) (λ_ w0 hw w=>?_);obtain⟨b,hv,_⟩:=hw.1.sat hh _ hsb;rw[key w ⟨b,off,none⟩ (by rw[S0.den,hv,qAi])];rw[SV.den,SC.den,S0.den,hv,qAi,<-qAw,add_add,qAw]
  ·trivial
 ·rename_i hh i sz off;split
  ·rename_i tt e l hsb;refine qAe (λ_=>hl) (λhi w0 hw w=>?_);obtain⟨ad,n,c,hv,_⟩:=qEa hw.1 (.inl ⟨e,hsb⟩) hi;rw[key w (ad.add (i*sz+off)) (by rw[S0.den,hv,qBb])];simp only[SV.den,SC.den,S0.den,hv,qBb,add_add,Nat.add_assoc]
  ·rename_i tt l hsb;refine qAe (λ_=>hl) (λhi w0 hw w=>?_);obtain⟨ad,n,c,hv,_⟩:=qEa hw.1 (.inr hsb) hi;rw[key w (ad.add (i*sz+off)) (by rw[S0.den,hv,qBb])];simp only[SV.den,SC.den,S0.den,hv,qBb,add_add,Nat.add_assoc]
  ·rename_i e s m l hsb;unfold srowFaddrQ;cases Nat.beq sz s with
   | false=>trivial
   | true =>
    rw[cnT];refine qAe (λ_=>hl) (λhi w0 hw w=>?_);have hi1:=hi.1;obtain⟨b,c,hv,_⟩:=srow_cells hw.1 hsb (by omega);rw[key w ((⟨b,0,none⟩:Addr).add (i*sz+off)) (by rw[S0.den,hv,qBb])];simp only[SV.den,SC.den,S0.den,hv,qBb,add_add,Nat.add_assoc]
  ·unfold ghoFaddrQ;split
   ·rename_i tt l hg;refine qAe (λ_=>hl) (λhi w0 hw w=>?_);obtain⟨ad,n,c,hv,_⟩:=qEq (gho_sat hw.1 hg) hi.1;rw[key w (ad.add (i*sz+off)) (by rw[S0.den,hv,qBb])];simp only[SV.den,SC.den,S0.den,hv,qBb,add_add,Nat.add_assoc]
   ·trivial
  ·trivial
 ·unfold bagFaddrQ;split
  ·rename_i k i sz off _ _;split
   ·rename_i ks e l hsb;refine qAe (λ_=>hl) (λhi w0 hw w=>?_);obtain⟨u,rs,hv,hb⟩:=hw.1.sat k _ hsb;obtain⟨ad,n,c,r,h1,_⟩:=qEw hb hi.1 (NT.dft ks);rw[key w (ad.add (i*sz+off)) (by rw[S0.den,hv,qAq rs hb.one,h1,qBb])];have hbase:baseV (Z k)=.slice (some ad) n c:=by rw[hv,qAq rs hb.one,h1]
    simp only[SV.den,SC.den,S0.den,hbase,qBb,add_add,Nat.add_assoc]
   ·rename_i tt e l m g hsb;refine qAe (λ_=>hl) (λhi w0 hw w=>?_);obtain⟨ad,c,hbase,_⟩:=gro_cells hw.1 hsb hi.1;rw[key w (ad.add (i*sz+off)) (by rw[S0.den,hbase,qBb])];simp only[SV.den,SC.den,S0.den,hbase,qBb,add_add,Nat.add_assoc]
   ·trivial
  ·trivial
theorem faddrA_ok{t n e:Nat}{k:Int}{x y:Operand}{ti:TypeInfo}{s:S0}(hu:E.P.underlying t=some (.array n e))(hti:E.P.info? e=some ti)(hk:0<=k/\k<n)(hy:a.eval y=.int .i64 k)
  (hx:a.eval x=s.den Z) (hl:s.lt S.hp.length) (ho:o.op=.indexAddr t x y):OpOK E Z S a o (faddrR S.hp (k.toNat*ti.size) s):=by
 have key:∀(w:World) (ad:Addr),s.den Z=.pointer (some ad)->(execOp a.eval o).run E.P w=.ok (.value (.pointer (some (ad.add (k.toNat*ti.size))))) w:=by
  intro w ad had;have hsz:∀w,(sizeOf e).run E.P w=.ok ti.size w:=λw=>by simp[sizeOf,typeInfo,hti]
  unfold execOp;simp[ho,hx,hy,had,Instr.indexAt,asIntOf,run_underlying hu,Instr.sureAddr,if_pos hk,hsz]
 unfold faddrR;split
 ·rename_i hh off;split
  ·rename_i e l hsb;refine qAe (λ_=>hl) (λ_ w0 hw w=>?_);obtain⟨b,hv,_⟩:=hw.1.sat hh _ hsb;rw[key w ⟨b,off,none⟩ (by rw[S0.den,hv,qAi])];rw[SV.den,SC.den,S0.den,hv,qAi,<-qAw,add_add,qAw]
  ·trivial
 ·rename_i hh i sz off;split
  ·rename_i tt e l hsb;refine qAe (λ_=>hl) (λhi w0 hw w=>?_);obtain⟨ad,n,c,hv,_⟩:=qEa hw.1 (.inl ⟨e,hsb⟩) hi;rw[key w (ad.add (i*sz+off)) (by rw[S0.den,hv,qBb])];simp only[SV.den,SC.den,S0.den,hv,qBb,add_add,Nat.add_assoc]
  ·rename_i tt l hsb;refine qAe (λ_=>hl) (λhi w0 hw w=>?_);obtain⟨ad,n,c,hv,_⟩:=qEa hw.1 (.inr hsb) hi;rw[key w (ad.add (i*sz+off)) (by rw[S0.den,hv,qBb])];simp only[SV.den,SC.den,S0.den,hv,qBb,add_add,Nat.add_assoc]
  ·rename_i e s m l hsb;unfold srowFaddrQ;cases Nat.beq sz s with
   | false=>trivial
   | true =>
    rw[cnT];refine qAe (λ_=>hl) (λhi w0 hw w=>?_);have hi1:=hi.1;obtain⟨b,c,hv,_⟩:=srow_cells hw.1 hsb (by omega);rw[key w ((⟨b,0,none⟩:Addr).add (i*sz+off)) (by rw[S0.den,hv,qBb])];simp only[SV.den,SC.den,S0.den,hv,qBb,add_add,Nat.add_assoc]
  ·unfold ghoFaddrQ;split
   ·rename_i tt l hg;refine qAe (λ_=>hl) (λhi w0 hw w=>?_);obtain⟨ad,n,c,hv,_⟩:=qEq (gho_sat hw.1 hg) hi.1;rw[key w (ad.add (i*sz+off)) (by rw[S0.den,hv,qBb])];simp only[SV.den,SC.den,S0.den,hv,qBb,add_add,Nat.add_assoc]
   ·trivial
  ·trivial
 ·unfold bagFaddrQ;split
  ·rename_i k i sz off _ _;split
   ·rename_i ks e l hsb;refine qAe (λ_=>hl) (λhi w0 hw w=>?_);obtain⟨u,rs,hv,hb⟩:=hw.1.sat k _ hsb;obtain⟨ad,n,c,r,h1,_⟩:=qEw hb hi.1 (NT.dft ks);rw[key w (ad.add (i*sz+off)) (by rw[S0.den,hv,qAq rs hb.one,h1,qBb])];have hbase:baseV (Z k)=.slice (some ad) n c:=by rw[hv,qAq rs hb.one,h1]
    simp only[SV.den,SC.den,S0.den,hbase,qBb,add_add,Nat.add_assoc]
   ·rename_i tt e l m g hsb;refine qAe (λ_=>hl) (λhi w0 hw w=>?_);obtain⟨ad,c,hbase,_⟩:=gro_cells hw.1 hsb hi.1;rw[key w (ad.add (i*sz+off)) (by rw[S0.den,hbase,qBb])];simp only[SV.den,SC.den,S0.den,hbase,qBb,add_add,Nat.add_assoc]
   ·trivial
  ·trivial
theorem cellsN_agg{P:Program}{t:Nat}(h:qB4 P t=some none)(w:World):(isAgg t).run P w=.ok false w:=by
 unfold qB4 at h;split at h <;> try (simp at h;done)
 rename_i d h1 hd hi h2;simp only[isAgg,Sem.run_bind,run_underlying h2,Result.andThen_ok];cases d <;> first | rfl | (exact(h1 _ rfl).elim) | (exact(hd _ _ rfl).elim)
theorem cellsN_aggN{P:Program}{t n:Nat}(h:qB4 P t=some (some n))(w:World):(isAgg t).run P w=.ok true w/\(sizeOf t).run P w=.ok n w:=by
 unfold qB4 at h;split at h
 ·rename_i i fs h1 h2;simp only[snJ] at h;refine⟨?_,by rw[size_ne h1,h]⟩;simp only[isAgg,Sem.run_bind,run_underlying h2,Result.andThen_ok];rfl
 ·rename_i i l e h1 h2;simp only[snJ] at h;refine⟨?_,by rw[size_ne h1,h]⟩;simp only[isAgg,Sem.run_bind,run_underlying h2,Result.andThen_ok];rfl
 ·simp at h
 ·simp at h
theorem field_ok{t f:Nat}{x:Operand}{fs:Array Field}{fd:Field}{l:List S0}{n:Option Nat}{p:Prop}(hu:E.P.underlying t=some (.struct fs))(hf:fs[f]?=some fd)(hn:qB4 E.P fd.type=some n)
  (hx:p->a.eval x=.agg (l.map (S0.den Z)).toArray) (hl:p->∀y∈l,y.lt S.hp.length) (ho:o.op=.field t x f) :
  OpOK E Z S a o (fieldR p l fd.offset n):=by
 cases n with
 | none =>
  simp only[fieldR];split
  ·rename_i y hy;refine qAe (λhp=>hl hp y (List.mem_of_getElem? hy)) (λhp w0 _ w=>?_);unfold execOp;simp only[ho,hx hp,Instr.field,Sem.run_bind,run_underlying hu,Result.andThen_ok,hf,asAgg,Sem.run_pure,part,cellsN_agg hn];simp[hy,SV.den,SC.den]
  ·trivial
 | some m =>
  simp only[fieldR];cases hb:Nat.ble (fd.offset+m) l.length with
  | false=>trivial
  | true =>
   simp only[cnT];have hb':fd.offset+m<=l.length:=by simpa using hb
   refine qAe (λhp y hy=>hl hp y (List.mem_of_mem_drop (List.mem_of_mem_take hy))) (λhp w0 _ w=>?_);obtain⟨h1,h2⟩:=cellsN_aggN hn w;unfold execOp;simp only[ho,hx hp,Instr.field,Sem.run_bind,run_underlying hu,Result.andThen_ok,hf,asAgg,Sem.run_pure,part,h1,if_true,h2,SV.den,SC.den,qBg];congr 3
   apply Array.ext_getElem?;intro j;simp only[Array.getElem?_extract,List.getElem?_toArray,List.getElem?_map,List.getElem?_take,List.getElem?_drop,List.size_toArray,List.length_map];by_cases hj:j<m
   ·rw[if_pos (by omega),if_pos hj]
   ·rw[if_neg (by omega),if_neg hj];rfl
theorem iaddr_ok{t e:Nat}{x y:Operand}{ti:TypeInfo}{s:S0}{k:IntKind}{i:Int}(hu:E.P.underlying t=some (.slice e))(hti:E.P.info? e=some ti)
  (hx:a.eval x=s.den Z) (hl:s.lt S.hp.length) (hy:a.eval y=.int k i) (ho:o.op=.indexAddr t x y):OpOK E Z S a o (iaddrR S.hp ti.size s i):=by
 have key:∀(w:World) (ad:Addr) (n c:Nat),s.den Z=.slice (some ad) n c->0<=i->i<n->(execOp a.eval o).run E.P w=.ok (.value (.pointer (some (ad.add (i.toNat*ti.size))))) w:=by
  intro w ad n c had h0 h1;unfold execOp;simp only[ho,hx,hy,had,Instr.indexAt,asIntOf,Sem.run_bind,Sem.run_pure,run_underlying hu,Result.andThen_ok,size_ne hti,if_pos (And.intro h0 h1)]
 unfold iaddrR;split
 ·rename_i hh;split
  ·rename_i tt e' l hsb;cases hsz:(ti.size == tt.sz) with
   | false=>trivial
   | true =>
    simp only[cnT];refine qAe (λ_=>hl) (λhp w0 hw w=>?_);have hi:i.toNat<l.length:=by omega
    obtain⟨h1,_⟩:=hw.1.sat hh _ hsb;rcases h1.2 with⟨_,hn⟩ | ⟨g,cap,cur,hv,_⟩
    ·omega
    ·rw[key w _ _ _ (by rw[S0.den,hv]) hp.1 hp.2];simp only[SV.den,SC.den,S0.den,hv,qBb,Nat.add_zero]
  ·rename_i tt l hsb;cases hsz:(ti.size == tt.sz) with
   | false=>trivial
   | true =>
    simp only[cnT];refine qAe (λ_=>hl) (λhp w0 hw w=>?_);have hi:i.toNat<l.length:=by omega
    obtain⟨ad,n,c,hv,_⟩:=qEa hw.1 (.inr hsb) hi;obtain⟨ad',cap,hv',_⟩:=hw.1.sat hh _ hsb;rw[hv] at hv';simp only[Value.slice.injEq] at hv';obtain⟨rfl,rfl,rfl⟩:=hv';rw[key w ad _ _ (by rw[S0.den,hv]) hp.1 hp.2];simp only[SV.den,SC.den,S0.den,hv,qBb,Nat.add_zero]
  ·rename_i k0 lo0 n0 s0 hsb;cases hsz:(ti.size == s0 && Nat.blt (bif Nat.beq s0 0 then S.hp.length else k0) S.hp.length) with
   | false=>trivial
   | true =>
    simp only[cnT];rw[Bool.and_eq_true] at hsz;have hs0:ti.size=s0:=by simpa using hsz.1
    have hpz:0<s0/\k0<S.hp.length:=by
     have h2:=hsz.2;cases hb:Nat.beq s0 0 with
     | true=>rw[hb] at h2;simp at h2
     | false =>
      rw[hb] at h2;refine⟨Nat.pos_of_ne_zero λh=>?_,by simpa using h2⟩;rw[h] at hb;cases hb
    have hk0:=hpz.2;refine qAe (λ_=>hk0) (λhp w0 hw w=>?_);obtain⟨ad,len,cap,ad',hu',hv',hle,had,_⟩:=(hw.1.sat hh _ hsb).1 hpz.1;obtain⟨x,rfl,rfl⟩:=had (by omega);rw[key w (x.add (lo0*s0)) n0 (cap - lo0) (by rw[S0.den,hv']) hp.1 hp.2];simp only[SV.den,SC.den,S0.den,hu',qBb,Nat.add_zero,add_add,hs0,Nat.add_mul]
  ·rename_i k0 n0 s0 hsb;cases hsz:(ti.size == s0 && Nat.blt k0 S.hp.length) with
   | false=>trivial
   | true =>
    simp only[cnT];rw[Bool.and_eq_true] at hsz;have hk0:k0<S.hp.length:=by simpa using hsz.2
    refine qAe (λ_=>hk0) (λhp w0 hw w=>?_);obtain⟨b,hb,hv⟩:=hw.1.sat hh _ hsb;rw[key w ⟨b,0,none⟩ n0 n0 (by rw[S0.den,hv]) hp.1 hp.2];simp only[SV.den,SC.den,S0.den,hb,ptrAdd]
  ·rename_i tt l hsb;cases hsz:(ti.size == tt.sz) with
   | false=>trivial
   | true =>
    simp only[cnT];refine qAe (λ_=>hl) (λhp w0 hw w=>?_);rcases hw.1.sat hh _ hsb with⟨cap,hv,h0⟩ | ⟨b,cap,hv,_⟩
    ·have:=hp.2;rw[h0] at this;simp only[List.length_nil] at this;have:=hp.1;omega
    rw[key w _ _ _ (by rw[S0.den,hv]) hp.1 hp.2];simp only[SV.den,SC.den,S0.den,hv,qBb,Nat.add_zero]
  ·rename_i e s m l hsb;unfold srowIaddrQ;cases hsz:Nat.beq ti.size s with
   | false=>trivial
   | true =>
    rw[cnT];refine qAe (λ_=>hl) (λhp w0 hw w=>?_);have hp1:=hp.1;obtain⟨b,c,hv,_⟩:=srow_cells hw.1 hsb (by omega);rw[key w _ _ _ (by rw[S0.den,hv]) hp1.1 hp1.2];simp only[SV.den,SC.den,S0.den,hv,qBb,Nat.add_zero]
  ·unfold ghoIaddrQ;split
   ·rename_i tt l hg;cases hsz:Nat.beq ti.size tt.sz with
    | false=>trivial
    | true =>
     rw[cnT];refine qAe (λ_=>hl) (λhp w0 hw w=>?_);have hp1:=hp.1;rcases gho_sat hw.1 hg with⟨cap,hv,h0⟩ | ⟨b,cap,hv,_⟩
     ·rw[h0] at hp1;simp only[List.length_nil] at hp1;omega
     rw[key w _ _ _ (by rw[S0.den,hv]) hp1.1 hp1.2];simp only[SV.den,SC.den,S0.den,hv,qBb,Nat.add_zero]
   ·trivial
  ·trivial
 ·unfold bagIaddrQ;split
  ·rename_i k0 _;split
   ·rename_i ks e' l hsb;cases hsz:Nat.beq ti.size ks.length with
    | false=>trivial
    | true =>
     simp only[cnT];refine qAe (λ_=>hl) (λhp w0 hw w=>?_);have hp1:=hp.1;obtain⟨u,rs,hv,hb⟩:=hw.1.sat k0 _ hsb;obtain⟨ad,cap,h1⟩:=hb.slice;obtain⟨ad',n,c,r,h2,_⟩:=qEw hb (i:=i.toNat) (by omega) (NT.dft ks);have hbase:baseV (Z k0)=.slice (some ad') l.length cap:=by
      rw[hv,qAq rs hb.one,h1];rw[h1] at h2;cases h2;rfl
     rw[key w ad' _ _ (by rw[S0.den,hbase]) hp1.1 hp1.2];simp only[SV.den,SC.den,S0.den,hbase,qBb,Nat.add_zero]
   ·rename_i tt e' l m g hsb;cases hsz:Nat.beq ti.size tt.sz with
    | false=>trivial
    | true =>
     rw[cnT];refine qAe (λ_=>hl) (λhp w0 hw w=>?_);have hp1:=hp.1;obtain⟨ad,c,hbase,_⟩:=gro_cells hw.1 hsb (i:=i.toNat) (by omega);rw[key w ad _ _ (by rw[S0.den,hbase]) hp1.1 hp1.2];simp only[SV.den,SC.den,S0.den,hbase,qBb,Nat.add_zero]
   ·trivial
  ·rename_i h0 off n0 lo0 len0 _;split
   ·rename_i e' l hsb;cases hsz:Nat.beq ti.size 1 with
    | false=>trivial
    | true =>
     simp only[cnT];have hsz':ti.size=1:=Nat.eq_of_beq_eq_true hsz;refine qAe (λ_=>hl) (λhp w0 hw w=>?_);obtain⟨p1,p2,p3⟩:=hp.1;obtain⟨b,hv,_⟩:=hw.1.sat h0 _ hsb;have hne:Nat.beq n0 lo0=false:=by
      cases hb:Nat.beq n0 lo0 with
      | false=>rfl
      | true=>have:=Nat.eq_of_beq_eq_true hb;omega
     have hden:(S0.asl h0 off n0 lo0 len0).den Z=.slice (some ⟨b,off+lo0,none⟩) len0 (n0 - lo0):=by
      simp only[S0.den,hv,aslV,hne,cnF,qAw]
     rw[key w _ _ _ hden p1 p2];have e3:((⟨b,off+lo0,none⟩:Addr).add (i.toNat*ti.size))=⟨b,off+(lo0+i.toNat),none⟩:=by rw[<-qAw,add_add,qAw,hsz',Nat.mul_one,Nat.add_assoc]
     simp only[SV.den,SC.den,S0.den,hv,qAi,e3]
   ·trivial
  ·trivial
theorem index_ok{t:Nat}{x y:Operand}{k:IntKind}{i:Int}{s:BA}{p:Prop}(hu:E.P.underlying t=some .string)
  (hx:p->a.eval x=.string s/\a.eval y=.int k i/\0<=i/\i<s.size) (ho:o.op=.index t x y):OpOK E Z S a o (.still p (.c (.o (.val (.int .u8 (bAt s i)))))):=by
 refine qAe (λ_=>trivial) (λhp w0 _ w=>?_);obtain⟨h1,h2,h3,h4⟩:=hx hp;have hlt:i.toNat<s.size:=by omega
 have hb:s[i.toNat]?=some s[i.toNat]:=by simp[hlt]
 unfold execOp;simp[ho,h1,h2,Instr.index,asIntOf,run_underlying hu,h3,hb,SV.den,SC.den,S0.den,bAt]
theorem bound_sound(hs:qCv Z S a)(hact:act){x:Option Operand}{y:Option Arg}(hx:oarg x=some y){d n:Int}{p:Prop}(h:bound S act d y=some (p,n))(hp:p) :
  (x=none/\y=none/\n=d)\/∃x' k,x=some x'/\a.eval x'=.int k n:=by
 cases x with
 | none =>
  simp only[oarg,snJ] at hx;subst hx;simp only[bound,snJ,Prod.mk.injEq] at h;exact .inl ⟨rfl,rfl,h.2.symm⟩
 | some x' =>
  cases hxa:arg x' with
  | none=>simp[oarg,hxa] at hx
  | some y' =>
   simp only[oarg,hxa,Option.map_some,snJ] at hx;subst hx;simp only[bound] at h;split at h
   ·rename_i q k m hm;simp only[snJ,Prod.mk.injEq] at h;obtain⟨rfl,rfl⟩:=h;exact .inr ⟨x',k,rfl,(qAc hs hact hxa hm hp).1⟩
   ·cases h
theorem qB7{P:Program}{w:World}{k:IntKind}{n:Int}{y:Nat}{c:BoundsCode}(h0:0<=n)(h1:n<=y):(Instr.sliceBound (.int k n) y c).run P w=.ok n.toNat w:=by
 simp[Instr.sliceBound,asIntOf,h0,h1]
theorem run_bounds{P:Program}{w:World}(isS:Bool)(len cap:Nat){lo hi:Option Operand}{l h:Int}(f:Operand->Value)(hl:(lo=none/\l=0)\/∃x k,lo=some x/\f x=.int k l)(hh:(hi=none/\h=len)\/∃x k,hi=some x/\f x=.int k h)
  (h0:0<=l) (h1:l<=h) (h2:h<=cap):(Instr.sliceBounds isS len cap (lo.map f) (hi.map f) none).run P w=.ok (l.toNat,h.toNat,cap) w:=by
 unfold Instr.sliceBounds;rcases hh with⟨rfl,rfl⟩ | ⟨x,k,rfl,hx⟩
 ·rcases hl with⟨rfl,rfl⟩ | ⟨x,k,rfl,hx⟩
  ·simp
  ·simp[hx,qB7 h0 h1]
 ·rcases hl with⟨rfl,rfl⟩ | ⟨x',k',rfl,hx'⟩
  ·simp[hx,qB7 (by omega:0<=h) h2]
  ·have:l<=(h.toNat:Int):=by omega
   simp[hx,hx',qB7 (by omega:0<=h) h2,qB7 h0 this]
theorem sub_str_ok(hs:qCv Z S a)(hact:act){t:Nat}{x:Operand}{lo hi:Option Operand}{lo' hi':Option Arg}{s:BA}{l h:Int}{p q r:Prop}(hu:E.P.underlying t=some .string)
  (hx:p->a.eval x=.string s) (hlo:oarg lo=some lo') (hhi:oarg hi=some hi') (hbl:bound S act 0 lo'=some (q,l)) (hbh:bound S act s.size hi'=some (r,h))
  (ho:o.op=.slice t x lo hi none):OpOK E Z S a o (.still ((p/\q/\r)/\(act->0<=l/\l<=h/\h<=s.size)) (.c (.o (.val (.string (s.extract l.toNat h.toNat)))))):=by
 refine qAe (λ_=>trivial) (λhp w0 _ w=>?_);obtain⟨⟨hp1,hq,hr⟩,hb⟩:=hp;obtain⟨b1,b2,b3⟩:=hb hact;have e1:=bound_sound hs hact hlo hbl hq;have e2:=bound_sound hs hact hhi hbh hr;have hrun:=run_bounds (P:=E.P) (w:=w) false s.size s.size (lo:=lo) (hi:=hi) a.eval (e1.imp (λh=>⟨h.1,h.2.2⟩) id) (e2.imp (λh=>⟨h.1,h.2.2⟩) id) b1 b2 b3;unfold execOp;simp only[ho,hx hp1,Instr.sliceAt,Sem.run_bind,run_underlying hu,Result.andThen_ok,Instr.slice,Option.map_none,Option.isSome_none,Bool.false_eq_true,if_false,hrun,Sem.run_pure];rfl
theorem view_sub{X:Nat->Prop}{w0 w:World}{t:ET}{ad:Option Addr}{cap:Nat}{l:List t.T}{i j:Nat}(hij:i<=j)(hj:j<=l.length)(hcap:l.length<=cap)
  (h:∀k u,(l.flatMap t.enc)[k]?=some u->∃a,ad=some a/\w.cell? (a.add k)=some u/\Fixed X w0 w a.block) :
  qBw X w0 w t (.slice (if cap=i then ad else ad.map (·.add (i*t.sz))) (j - i) (cap - i)) ((l.take j).drop i):=by
 have hlen:((l.take j).drop i).length=j - i:=by simp[Nat.min_eq_left hj]
 refine⟨if cap=i then ad else ad.map (·.add (i*t.sz)),cap - i,by rw[hlen],by rw[hlen];omega,λk u hk=>?_⟩;have hk2:k<((l.take j).drop i).length*t.sz:=by
  have:=(List.getElem?_eq_some_iff.1 hk).1;rwa [qAm t.enc_len] at this
 rw[hlen] at hk2;have hne:¬cap=i:=by
  intro e;have:j - i=0:=by omega
  rw[this] at hk2;omega
 have hsplit:l.flatMap t.enc=(l.take i).flatMap t.enc++(((l.take j).drop i).flatMap t.enc++(l.drop j).flatMap t.enc):=by
  rw[<-List.flatMap_append,<-List.flatMap_append];congr 1
  rw[<-List.append_assoc];have:l.take i++(l.take j).drop i=l.take j:=by
   have:=List.take_append_drop i (l.take j);rwa [List.take_take,Nat.min_eq_left hij] at this
  rw[this,List.take_append_drop]
 have hil:((l.take i).flatMap t.enc).length=i*t.sz:=by rw[qAm t.enc_len,List.length_take,Nat.min_eq_left (by omega)]
 have:=h (i*t.sz+k) u (by
  rw[hsplit,List.getElem?_append_right (by omega),hil,Nat.add_sub_cancel_left,List.getElem?_append_left (by rw[qAm t.enc_len,hlen];exact hk2)];exact hk)
 obtain⟨a,rfl,h1,h2⟩:=this;refine⟨a.add (i*t.sz),by rw[if_neg hne];rfl,by rw[add_add];exact h1,by rw[add_block];exact h2⟩
theorem base_cap{X:Nat->Prop}{w0 w:World}{hp:List SB}(h:HpSat X w0 w Z hp){k m z:Nat}(hb:baseLen hp k=some (m,z)){ad:Option Addr}{len cap:Nat}(hv:Z k=.slice ad len cap):m<=cap:=by
 unfold baseLen at hb;split at hb
 ·rename_i t e l hsb;simp only[snJ,Prod.mk.injEq] at hb;obtain⟨h1,_⟩:=h.sat k _ hsb;rcases h1.2 with⟨_,hn0⟩ | ⟨g,cap',cur,hv',_,_,hnc,_⟩
  ·omega
  ·rw[hv] at hv';cases hv';omega
 ·rename_i t l hsb;simp only[snJ,Prod.mk.injEq] at hb;obtain⟨a,cap',hv',hc,_⟩:=h.sat k _ hsb;rw[hv] at hv';cases hv';omega
 ·cases hb
theorem loB_spec{raw:Bool}{lo:Option Operand}{lo':Option Arg}(h:oarg lo=some lo'):oarg lo=some (loB raw lo')\/(lo=none/\loB raw lo'=some (.v (.int .i64 0))):=by
 cases raw with
 | false=>exact .inl h
 | true =>
  cases lo' with
  | some y=>exact .inl h
  | none =>
   refine .inr ⟨?_,rfl⟩;cases lo with
   | none=>rfl
   | some x =>
    simp only[oarg] at h;cases hx:arg x <;> simp[hx] at h
def OpPure(E:Env)(Z:Nat->Value)(S:St)(a:Act)(o:Oper):RR->Prop
 | .ok p v hp'=>p->v.lt hp'.length/\S.hp.length<=hp'.length/\∀w,Cls E Z S.hp w->∃Z',(∀i<S.hp.length,Z' i=Z i)/\Cls E Z' hp' w/\∀w',(execOp a.eval o).run E.P w'=.ok (.value (v.den Z')) w'
 | .no=>True
 | _=>False
theorem OpPure_owe{p act:Prop}(hact:act){r:RR}(hr:(∃q v hp',r=.ok q v hp')\/r=.no)(h:p->OpPure E Z S a o r):OpPure E Z S a o (owe p act r):=by
 rcases hr with⟨q,v,hp',rfl⟩ | rfl
 ·intro hh;exact h hh.1 (hh.2 hact)
 ·trivial
theorem subR_ok{hp:List SB}{sz:Nat}{x:S0}{lo:Option Int}{hi:Int}:(∃q v hp',subR hp sz x lo hi=.ok q v hp')\/subR hp sz x lo hi=.no:=by
 have hb:(∃q v hp',bagSubQ hp sz x lo hi=.ok q v hp')\/bagSubQ hp sz x lo hi=.no:=by
  unfold bagSubQ
  (repeat' split) <;> first | exact .inr rfl | skip
  cases Nat.beq sz _
  ·exact .inr rfl
  ·exact .inl ⟨_,_,_,rfl⟩
 unfold subR;split
 ·split
  ·rename_i t e l _;cases sz == t.sz
   ·exact .inr rfl
   ·simp only[cnT];split
    ·exact .inl ⟨_,_,_,rfl⟩
    ·exact .inl ⟨_,_,_,rfl⟩
  ·rename_i k lo0 n0 s0 _;split
   ·rename_i m z _;cases sz == s0 && sz == z
    ·exact .inr rfl
    ·exact .inl ⟨_,_,_,rfl⟩
   ·exact .inr rfl
  ·rename_i t l _;cases sz == t.sz
   ·exact .inr rfl
   ·simp only[cnT];split
    ·exact .inl ⟨_,_,_,rfl⟩
    ·exact .inl ⟨_,_,_,rfl⟩
  ·rename_i t l _;cases sz == t.sz
   ·exact .inr rfl
   ·simp only[cnT];split
    ·exact .inl ⟨_,_,_,rfl⟩
    ·exact .inr rfl
  ·exact .inr rfl
 ·rcases hb with⟨q,v,hp',h⟩ | h
  ·rw[h];exact .inl ⟨_,_,_,rfl⟩
  ·rw[h];exact .inr rfl
theorem sub_pure(hs:qCv Z S a)(hact:act){t e:Nat}{ti:TypeInfo}{x:Operand}{lo hi:Option Operand}{lo' hi':Option Arg}{s:S0}{n:Nat}{l h:Int}{p q r:Prop}(hu:E.P.underlying t=some (.slice e))(hti:E.P.info? e=some ti)
  (hx:p->a.eval x=s.den Z) (hn:qEm S.hp s=some n) (hlo:oarg lo=some lo'\/(lo=none/\lo'=some (.v (.int .i64 0)))) (hhi:oarg hi=some hi') (hbl:bound S act 0 lo'=some (q,l)) (hbh:bound S act n hi'=some (r,h))
  (ho:o.op=.slice t x lo hi none):OpPure E Z S a o (owe (p/\q/\r) act (subR S.hp ti.size s (loOf lo' l) h)):=by
 refine OpPure_owe hact subR_ok λ⟨hp1,hq,hr⟩=>?_
 have e1:(lo=none/\l=0)\/∃x' k,lo=some x'/\a.eval x'=.int k l:=by
  rcases hlo with hlo | ⟨rfl,rfl⟩
  ·rcases bound_sound hs hact hlo hbl hq with h | h
   ·exact .inl ⟨h.1,h.2.2⟩
   ·exact .inr h
  ·simp only[bound,argE,snJ,Prod.mk.injEq] at hbl;exact .inl ⟨rfl,hbl.2.symm⟩
 have hl00:lo'=none->l=0:=by
  intro h0;subst h0;rcases e1 with⟨_,h0⟩ | ⟨x',k,hx',_⟩
  ·exact h0
  ·rcases hlo with hlo | ⟨_,hlo⟩
   ·rw[hx'] at hlo;simp only[oarg] at hlo;cases hxa:arg x' <;> simp[hxa] at hlo
   ·cases hlo
 have hlo0:(loOf lo' l).getD 0=l:=by
  cases lo' with
  | none=>exact(hl00 rfl).symm
  | some y=>rfl
 have e2:=bound_sound hs hact hhi hbh hr;have key:∀(w:World) (ad:Option Addr) (cap:Nat),s.den Z=.slice ad n cap->0<=l->l<=h->h<=cap ->
   (execOp a.eval o).run E.P w=.ok (.value (.slice (if cap=l.toNat then ad else ad.map (·.add (l.toNat*ti.size))) (h.toNat - l.toNat) (cap - l.toNat))) w:=by
  intro w ad cap had b1 b2 b3;have hrun:=run_bounds (P:=E.P) (w:=w) true n cap (lo:=lo) (hi:=hi) a.eval e1 (e2.imp (λh=>⟨h.1,h.2.2⟩) id) b1 b2 b3;unfold execOp;simp only[ho,hx hp1,had,Instr.sliceAt,Sem.run_bind,run_underlying hu,Result.andThen_ok,Instr.slice,Option.map_none,hrun,Sem.run_pure,size_ne hti]
 have mainP:∀(k lo1 n1 z:Nat) (w:World),Cls E Z S.hp w->k<S.hp.length->∀(ad:Option Addr) (cap:Nat),s.den Z=.slice ad n cap->0<=l->l<=h->h<=cap ->
   qB5 (Z k) (.slice (if cap=l.toNat then ad else ad.map (·.add (l.toNat*ti.size))) (h.toNat - l.toNat) (cap - l.toNat)) lo1 n1 z ->
   ∃Z',(∀i<S.hp.length,Z' i=Z i)/\Cls E Z' (S.hp++[.part k lo1 n1 z]) w/\∀w',(execOp a.eval o).run E.P w'=.ok (.value ((SV.c (.o (.own S.hp.length))).den Z')) w':=by
  intro k lo1 n1 z w hw hk ad cap had b1 b2 b3 hpart;have hr:=λw=>key w ad cap had b1 b2 b3
  obtain⟨Z',hag,hnew,hsat⟩:=hw.1.more (.part k lo1 n1 z) (.slice (if cap=l.toNat then ad else ad.map (·.add (l.toNat*ti.size))) (h.toNat - l.toNat) (cap - l.toNat)) trivial (λZ' hag=>by show qB5 (Z' k) _ _ _ _;rw[hag k hk];exact hpart) (Nat.lt_succ_of_lt hk) (λhx=>by cases hx);exact⟨Z',hag,⟨hsat,hw.2⟩,λw'=>by rw[hr w'];simp only[SV.den,SC.den,S0.den,hnew]⟩
 unfold subR;split
 ·rename_i hh;split
  ·rename_i tt e' l0 hsb;cases hsz:(ti.size == tt.sz) with
   | false=>trivial
   | true =>
    simp only[cnT];have hsz':ti.size=tt.sz:=by simpa using hsz
    cases lo' with
    | some y =>
     simp only[loOf];intro hb;refine⟨by simp[SV.lt,SC.lt,S0.lt],by simp,λw hw=>?_⟩;have hnl:n=l0.length:=by simp only[qEm,hsb,snJ] at hn;exact hn.symm
     obtain⟨h1,h2⟩:=hw.1.sat hh _ hsb;have hhl:=(List.getElem?_eq_some_iff.1 hsb).1;rcases h1.2 with⟨hv,hn0⟩ | ⟨g,cap,cur,hv,hbz,hg,hnc,hcm,hcs,htake⟩
     ·exact mainP hh l.toNat (h.toNat - l.toNat) ti.size w hw hhl none 0 (by rw[S0.den,hv,hnl,hn0]) hb.1 hb.2.1 (by omega) (qB5.of (by rw[hsz'];exact tt.sz_pos) ⟨none,0,0,_,hv,rfl,by omega,λhlt=>by omega,λ_=>by split <;> rfl⟩)
     ·exact mainP hh l.toNat (h.toNat - l.toNat) ti.size w hw hhl (some ⟨g,0,none⟩) cap (by rw[S0.den,hv,hnl]) hb.1 hb.2.1 (by omega) (qB5.of (by rw[hsz'];exact tt.sz_pos) ⟨_,_,cap,_,hv,rfl,by omega,λhlt=>⟨_,rfl,by rw[if_neg (by omega)];rfl⟩,λh0=>by rw[h0];split <;> simp[Addr.add]⟩)
    | none =>
     simp only[loOf];have hl0:l=0:=hl00 rfl;subst hl0;intro hb;refine⟨by simp[SV.lt,SC.lt,S0.lt],by simp,λw hw=>?_⟩;have hnl:n=l0.length:=by simp only[qEm,hsb,snJ] at hn;exact hn.symm
     obtain⟨h1,h2⟩:=hw.1.sat hh _ hsb;have hkill:=hw.1.kill hh;have hlen:(S.hp.set hh SB.dead).length=S.hp.length:=by simp
     rcases h1.2 with⟨hv,hn0⟩ | ⟨g,cap,cur,hv,hbz,hg,hnc,hcm,hcs,htake⟩
     ·have hh0:h=0:=by omega
      have hr:=λw=>key w none 0 (by rw[S0.den,hv,hnl,hn0]) (by omega) (by omega) (by omega)
      obtain⟨Z',hag,hnew,hsat⟩:=hkill.more (.row tt e' (l0.take h.toNat)) (.slice none 0 0) trivial
       (λZ' _=>by
        rw[hh0];exact⟨World.ownsRow_nil w 0 e' tt.sz,λb hb=>by simp[Value.ownBlock] at hb⟩) trivial (λ_ b hb=>by simp[fp,fp1] at hb)
      rw[hlen] at hag hnew;exact⟨Z',hag,⟨hsat,hw.2⟩,λw'=>by
       rw[hr w'];simp only[SV.den,SC.den,S0.den,hnew];rw[hh0];rfl⟩
     ·have hhn:h.toNat<=l0.length:=by omega
      have hr:=λw=>key w (some ⟨g,0,none⟩) cap (by rw[S0.den,hv,hnl]) (by omega) (by omega) (by omega)
      have hval:(Value.slice (if cap=(0:Int).toNat then some ⟨g,0,none⟩ else(some (⟨g,0,none⟩:Addr)).map (·.add ((0:Int).toNat*ti.size))) (h.toNat - (0:Int).toNat) (cap - (0:Int).toNat))=.slice (some ⟨g,0,none⟩) h.toNat cap:=by
       simp[Addr.add]
      simp only[hval] at hr;obtain⟨Z',hag,hnew,hsat⟩:=hkill.more (.row tt e' (l0.take h.toNat)) (.slice (some ⟨g,0,none⟩) h.toNat cap) trivial
       (λZ' _=>by
        refine⟨⟨by rw[qAm tt.enc_len],.inr ⟨g,cap,cur,by rw[List.length_take,Nat.min_eq_left hhn],hbz,hg,by rw[List.length_take];omega,hcm,hcs,?_⟩⟩,λb hb=>?_⟩
        ·have hx1:=qDg tt.enc_len l0 h.toNat;rw[hx1,<-htake,List.take_take,List.length_take,Nat.min_eq_left hhn];congr 1
         have:h.toNat*tt.sz<=l0.length*tt.sz:=Nat.mul_le_mul_right _ hhn;omega
        ·simp only[Value.ownBlock,snJ] at hb;subst hb;exact h2 g (by rw[hv];rfl)) trivial
       (λ_ b hb i sb' hi hx hf=>by
        simp only[fp,fp1,Option.toList_some,List.mem_singleton] at hb;subst hb;by_cases hih:i=hh
        ·subst hih;rw[List.getElem?_set_self (List.getElem?_eq_some_iff.1 hsb).1] at hi;cases hi;cases hx
        ·rw[List.getElem?_set_ne (Ne.symm hih)] at hi;exact hw.1.apart i hh sb' _ _ hih hi hsb hx rfl hf (by rw[hv];exact List.mem_singleton.2 rfl))
      rw[hlen] at hag hnew;exact⟨Z',hag,⟨hsat,hw.2⟩,λw'=>by rw[hr w'];simp only[SV.den,SC.den,S0.den,hnew]⟩
  ·rename_i k0 lo0 n0 s0 hsb;split
   ·rename_i m z hbase;cases hsz:(ti.size == s0 && ti.size == z) with
    | false=>trivial
    | true =>
     simp only[cnT];rw[hlo0];rw[Bool.and_eq_true] at hsz;have hs0:ti.size=s0:=by simpa using hsz.1
     intro hb;refine⟨by simp[SV.lt,SC.lt,S0.lt],by simp,λw hw=>?_⟩;have hnz:0<s0/\n=n0:=by
      simp only[qEm,hsb] at hn;cases hb:Nat.beq s0 0 with
      | true=>rw[hb] at hn;cases hn
      | false =>
       rw[hb] at hn;refine⟨Nat.pos_of_ne_zero λh=>?_,(Option.some.inj hn).symm⟩;rw[h] at hb;cases hb
     have hnl:=hnz.2;have hk:=hw.1.lt hh _ hsb;obtain⟨ad,len,cap,ad',hu',hv',hle,had,had0⟩:=(hw.1.sat hh _ hsb).1 hnz.1;have hcap:=base_cap hw.1 hbase hu';refine mainP k0 _ _ _ w hw hk ad' (cap - lo0) (by rw[S0.den,hv',hnl]) hb.1 hb.2.1 (by omega) (qB5.of (by rw[hs0];exact hnz.1) ⟨ad,len,cap,(if cap - lo0=l.toNat then ad' else ad'.map (·.add (l.toNat*ti.size))),hu',by rw[Nat.sub_sub],by omega,λhlt=>?_,λh0=>?_⟩)
     ·obtain⟨x,h1,h2⟩:=had (by omega);refine⟨x,h1,?_⟩;rw[if_neg (by omega),h2,<-hs0];simp only[Option.map_some,add_add,Nat.add_mul]
     ·have h1:l.toNat=0:=by omega
      rw[had0 (by omega),h1];split
      ·rfl
      ·cases ad <;> simp[Addr.add]
   ·trivial
  ·rename_i tt l0 hsb;have hnl:n=l0.length:=by simp only[qEm,hsb,snJ] at hn;exact hn.symm
   cases hsz:(ti.size == tt.sz) with
   | false=>trivial
   | true =>
    simp only[cnT];have hsz':ti.size=tt.sz:=by simpa using hsz
    have main:∀m:List tt.T,0<=l->l<=h->h<=l0.length->m=(l0.take h.toNat).drop l.toNat->∀w,Cls E Z S.hp w ->
      ∃Z',(∀i<S.hp.length,Z' i=Z i)/\Cls E Z' (S.hp++[.view tt m]) w/\∀w',(execOp a.eval o).run E.P w'=.ok (.value ((SV.c (.o (.own S.hp.length))).den Z')) w':=by
     intro m b1 b2 b3 hm w hw;obtain⟨ad,cap,hv,hcap,h1⟩:=hw.1.sat hh _ hsb;have hr:=λw=>key w ad cap (by rw[S0.den,hv,hnl]) b1 b2 (by omega)
     obtain⟨Z',hag,hnew,hsat⟩:=hw.1.more (.view tt m) (.slice (if cap=l.toNat then ad else ad.map (·.add (l.toNat*tt.sz))) (h.toNat - l.toNat) (cap - l.toNat)) trivial
      (λZ' _=>by
       rw[hm];exact view_sub (X:=E.X) (w0:=E.w0) (w:=w) (t:=tt) (ad:=ad) (cap:=cap) (l:=l0) (i:=l.toNat) (j:=h.toNat) (by omega) (by omega) hcap h1) trivial (λhx=>by cases hx)
     exact⟨Z',hag,⟨hsat,hw.2⟩,λw'=>by rw[hr w',hsz'];simp only[SV.den,SC.den,S0.den,hnew]⟩
    cases lo' with
    | some y =>
     intro hb;exact⟨by simp[SV.lt,SC.lt,S0.lt],by simp,main _ hb.1 hb.2.1 hb.2.2 rfl⟩
    | none =>
     have hl0:l=0:=hl00 rfl;intro hb;exact⟨by simp[SV.lt,SC.lt,S0.lt],by simp,main _ (by omega) (by omega) hb.2 (by rw[hl0];simp)⟩
  ·rename_i tt l0 hsb;cases hsz:(ti.size == tt.sz) with
   | false=>trivial
   | true =>
    simp only[cnT];have hsz':ti.size=tt.sz:=by simpa using hsz
    cases lo' with
    | some y=>trivial
    | none =>
     simp only[loOf];have hl0:l=0:=hl00 rfl;intro hb;refine⟨by simp[SV.lt,SC.lt,S0.lt],by simp,λw hw=>?_⟩;have hnl:n=l0.length:=by simp only[qEm,hsb,snJ] at hn;exact hn.symm
     have hhn:h.toNat<=l0.length:=by omega
     have hkill:=hw.1.kill hh;have hlen:(S.hp.set hh SB.dead).length=S.hp.length:=by simp
     rcases hw.1.sat hh _ hsb with⟨cap,hv,h00⟩ | ⟨b,cap,hv,hcap,h1,h2,h3,h4⟩
     ·have hn0:n=0:=by rw[hnl,h00];rfl
      have hh0:h=0:=by omega
      have hr:=λw=>key w none cap (by rw[S0.den,hv,hn0]) (by omega) (by omega) (by omega)
      have hval:(Value.slice (if cap=l.toNat then none else(none:Option Addr).map (·.add (l.toNat*ti.size))) (h.toNat - l.toNat) (cap - l.toNat))=.slice none 0 cap:=by
       rw[hl0,hh0];simp
      simp only[hval] at hr;obtain⟨Z',hag,hnew,hsat⟩:=hkill.more (.vrow tt (l0.take h.toNat)) (.slice none 0 cap) trivial (λZ' _=>.inl ⟨cap,rfl,by rw[h00];simp⟩) trivial (λ_ b' hb'=>by simp[fp,fp1] at hb');rw[hlen] at hag hnew;exact⟨Z',hag,⟨hsat,hw.2⟩,λw'=>by rw[hr w'];simp only[SV.den,SC.den,S0.den,hnew]⟩
     have hr:=λw=>key w (some ⟨b,0,none⟩) cap (by rw[S0.den,hv,hnl]) (by omega) (by omega) (by omega)
     have hval:(Value.slice (if cap=l.toNat then some ⟨b,0,none⟩ else(some (⟨b,0,none⟩:Addr)).map (·.add (l.toNat*ti.size))) (h.toNat - l.toNat) (cap - l.toNat))=.slice (some ⟨b,0,none⟩) h.toNat cap:=by
      rw[hl0];simp[Addr.add]
     simp only[hval] at hr;obtain⟨Z',hag,hnew,hsat⟩:=hkill.more (.vrow tt (l0.take h.toNat)) (.slice (some ⟨b,0,none⟩) h.toNat cap) trivial (λZ' _=>.inr ⟨b,cap,by rw[List.length_take,Nat.min_eq_left hhn],by rw[List.length_take];omega,(λj u hu=>by
      refine h1 j u ?_;rw[qDg tt.enc_len,List.getElem?_take] at hu;split at hu
      ·exact hu
      ·cases hu),h2,h3,h4⟩) trivial (λ_ b' hb' i sb' hi hx' hf=>by
       simp only[fp,fp1,Option.toList_some,List.mem_singleton] at hb';rw[hb'] at hf;by_cases hih:hh=i
       ·subst hih;rw[List.getElem?_set_self (by exact(List.getElem?_eq_some_iff.1 hsb).1)] at hi;cases hi;cases hx'
       ·rw[List.getElem?_set_ne hih] at hi;exact hw.1.apart i hh sb' _ b (Ne.symm hih) hi hsb hx' rfl hf (by rw[hv];exact List.mem_singleton.2 rfl))
     rw[hlen] at hag hnew;exact⟨Z',hag,⟨hsat,hw.2⟩,λw'=>by rw[hr w'];simp only[SV.den,SC.den,S0.den,hnew]⟩
  ·trivial
 ·unfold bagSubQ;split
  ·rename_i k hlo2 _;have hl0:l=0:=by
    cases lo' with
    | none=>exact hl00 rfl
    | some y=>simp[loOf] at hlo2
   split
   ·rename_i ks e' l0 hsb;cases hsz:Nat.beq ti.size ks.length with
    | false=>trivial
    | true =>
     simp only[cnT];have hsz':ti.size=ks.length:=by simpa using hsz
     intro hb;have hb1:0<=h/\h<=l0.length:=hb.1;refine⟨by simp[SV.lt,SC.lt,S0.lt],by simp,λw hw=>?_⟩;have hnl:n=l0.length:=by simp only[qEm,hsb,snJ] at hn;exact hn.symm
     obtain⟨u,rs,hv,hbg⟩:=hw.1.sat k _ hsb;have hhn:h.toNat<=l0.length:=by omega
     have fin:∀u':Value,BagOK E.X E.w0 w ks e' (l0.take h.toNat) u' (rs.take h.toNat)->(∃ad n c,u'=.slice ad n c)->(∀b,u'.ownBlock=some b->u.ownBlock=some b)->(∀w,(execOp a.eval o).run E.P w=.ok (.value u') w)->∃Z',(∀i<S.hp.length,Z' i=Z i)/\Cls E Z' (S.hp.set k .dead++[.bag ks e' (l0.take h.toNat)]) w/\∀w',(execOp a.eval o).run E.P w'=.ok (.value ((SV.c (.o (.bsl S.hp.length))).den Z')) w':=by
      intro u' hb' hsl hob hr;obtain⟨Z',hag,hnew,hsat⟩:=bag_push (w':=w) hw.1 [k] (λ_ _ _=>rfl) (λ_ _=>rfl) (λ_ _ _ _ _ _ _=>rfl) hb' (λb hbm=>.inr ⟨k,by simp,_,hsb,rfl,by
       rw[hv];rcases (qCo hsl).1 hbm with hbm | ⟨i,j,v,hr',hf⟩
       ·exact(qCo (by obtain⟨_,_,h1⟩:=hbg.slice;exact⟨_,_,_,h1⟩)).2 (.inl (hob b hbm))
       ·exact(qCo (by obtain⟨_,_,h1⟩:=hbg.slice;exact⟨_,_,_,h1⟩)).2 (.inr ⟨i,j,v,refAt_take hr',hf⟩)⟩)
      exact⟨Z',hag,⟨hsat,hw.2⟩,λw'=>by rw[hr w'];simp only[SV.den,SC.den,S0.den,hnew,qAq _ hb'.one]⟩
     have hrefs:=hbg.refs.take h.toNat;have huq:∀i j i' j' v v' b,qBo (rs.take h.toNat) i j=some v->qBo (rs.take h.toNat) i' j'=some v'->fp1 v=some b->fp1 v'=some b->i=i'/\j=j':=λi j i' j' v v' b h1 h2=>hbg.uniq i j i' j' v v' b (refAt_take h1) (refAt_take h2)
     rcases hbg.row.2 with⟨hu0,hn0⟩ | ⟨g,cap,cur,hu0,hbz,hg,hnc,hcm,hcs,htake⟩
     ·have hh0:h=0:=by omega
      have hr:=λw=>key w none 0 (by rw[S0.den,hv,qAq rs hbg.one,hu0,hnl,hn0]) (by omega) (by omega) (by omega)
      simp only[hl0,hh0] at hr;refine fin (.slice none 0 0) ⟨?_,by simp[Value.ownBlock],hrefs,huq,by simp[Value.ownBlock],hbg.pos⟩ ⟨_,_,_,rfl⟩ (by simp[Value.ownBlock]) (by simpa using hr);rw[hh0];exact World.ownsRow_nil w 0 e' ks.length
     ·have hr:=λw=>key w (some ⟨g,0,none⟩) cap (by rw[S0.den,hv,qAq rs hbg.one,hu0,hnl]) (by omega) (by omega) (by omega)
      have hval:(Value.slice (if cap=l.toNat then some ⟨g,0,none⟩ else(some (⟨g,0,none⟩:Addr)).map (·.add (l.toNat*ti.size))) (h.toNat - l.toNat) (cap - l.toNat))=.slice (some ⟨g,0,none⟩) h.toNat cap:=by
       rw[hl0];simp[Addr.add]
      simp only[hval] at hr;have hlen:=hbg.refs.len;refine fin (.slice (some ⟨g,0,none⟩) h.toNat cap) ⟨⟨by rw[qCw hrefs.len],.inr ⟨g,cap,cur,by rw[List.length_take,Nat.min_eq_left hhn],hbz,hg,by rw[List.length_take];omega,hcm,hcs,?_⟩⟩,λb hb2=>hbg.excl b (by rw[hu0];exact hb2),hrefs,huq,λi j v b h1 h2=>by
       have:=hbg.alone i j v b (refAt_take h1) h2;rw[hu0] at this;exact this,hbg.pos⟩ ⟨_,_,_,rfl⟩ (λb hb2=>by rw[hu0];exact hb2) hr
      have hx1:=bagVals_take l0 rs h.toNat hlen;rw[hx1,<-htake,List.take_take,List.length_take,Nat.min_eq_left hhn];congr 1
      have:h.toNat*ks.length<=l0.length*ks.length:=Nat.mul_le_mul_right _ hhn;omega
   ·trivial
  ·trivial
theorem pure_ok{r:RR}(h:OpPure E Z S a o r):OpOK E Z S a o r:=by
 cases r with
 | no=>trivial
 | ok p v hp' =>
  intro hp;obtain⟨h1,h2,h3⟩:=h hp;refine⟨h1,h2,λw hw K Q hK=>?_⟩;obtain⟨Z',a1,a2,a3⟩:=h3 w hw;unfold Oper.wp;rw[a3 w];exact hK Z' w a1 a2
 | _=>exact h.elim
theorem sub_ok(hs:qCv Z S a)(hact:act){t e:Nat}{ti:TypeInfo}{x:Operand}{lo hi:Option Operand}{lo' hi':Option Arg}{s:S0}{n:Nat}{l h:Int}{p q r:Prop}(hu:E.P.underlying t=some (.slice e))(hti:E.P.info? e=some ti)
  (hx:p->a.eval x=s.den Z) (hn:qEm S.hp s=some n) (hlo:oarg lo=some lo'\/(lo=none/\lo'=some (.v (.int .i64 0)))) (hhi:oarg hi=some hi') (hbl:bound S act 0 lo'=some (q,l)) (hbh:bound S act n hi'=some (r,h))
  (ho:o.op=.slice t x lo hi none):OpOK E Z S a o (owe (p/\q/\r) act (subR S.hp ti.size s (loOf lo' l) h)):=pure_ok (sub_pure hs hact hu hti hx hn hlo hhi hbl hbh ho)
end
end Go.Eng
