/-
  What is read of a text is well shaped. No program.
-/
import Derived.Test.YtdcoiccdbgcpaaaDoorPFind
namespace Go.Proofs.YtdcoiccdbgcpaaaDoor
open Go.Eng
set_option linter.unusedVariables false
set_option linter.unusedSimpArgs false
def TreeAt (val:Nat→Rd (List Eng.Node)):Prop:=∀a b l,val a=.ok b l→∀(k:BA) (pre post:List Eng.Node),Tree (pre++qBl k l++post) pre.length (pre.length+l.length)
theorem at_pre (pre post:List Eng.Node) (n:Eng.Node) (l:List Eng.Node):(pre++(n::l)++post)[pre.length]?=some n:=by
 rw [List.append_assoc,List.getElem?_append_right (Nat.le_refl _),Nat.sub_self];rfl
theorem leaf_tree (pre post:List Eng.Node) (n:Eng.Node) (h:n.kids=0):Tree (pre++[n]++post) pre.length (pre.length+1) :=
 Tree.mk (at_pre pre post n []) (by omega) (by rw [h]; exact Trees.nil _ (by simp))
theorem scalR_tree (t:BA):TreeAt (qC8 t):=by
 intro a b l h k pre post;unfold qC8 at h;repeat' split at h
 all_goals first
  | (cases h; done)
  | (cases h; exact leaf_tree pre post _ rfl)
theorem setKey_self:∀l:List Eng.Node,∃k,qBl k l=l
 | []=>⟨⟨#[]⟩,rfl⟩
 | n::r=>⟨n.key,rfl⟩
theorem itemR_set {t:BA} {val:Nat→Rd (List Eng.Node)} {obj:Bool} {names:List BA} {a b:Nat} {x:BA × List Eng.Node} (h:qD5 t val obj names a=.ok b x):∃a' l k,val a'=.ok b l∧x.2=qBl k l:=by
 unfold qD5 at h;repeat' split at h
 all_goals first
  | (cases h; done)
  | skip
 ·rename_i h7;cases h;exact ⟨_,_,_,h7,rfl⟩
 ·rename_i b1 l1 h7;cases h;obtain ⟨k,hk⟩:=setKey_self l1;exact ⟨_,_,k,h7,hk.symm⟩
theorem rowR_trees {t:BA} {val:Nat→Rd (List Eng.Node)} (hv:TreeAt val) {obj:Bool}:∀ {m a k:Nat} {acc:List Eng.Node} {names:List BA} {b:Nat} {x:Nat × List Eng.Node},rowR t val obj m a k acc names=.ok b x →
  ∃(j:Nat) (more:List Eng.Node),x.1=k+j∧x.2=acc++more∧∀pre post,Trees (pre++more++post) j pre.length (pre.length+more.length)
 | 0,a,k,acc,names,b,x,h=>by cases h
 | m+1,a,k,acc,names,b,x,h=>by
  unfold rowR at h;split at h
  ·cases h
  ·rename_i b1 y h1;obtain ⟨a',l,kk,hl,hy⟩:=itemR_set h1;have hlen:y.2.length=l.length:=by rw [hy,qGp]
   have ht:∀pre post,Tree (pre++y.2++post) pre.length (pre.length+y.2.length):=fun pre post=>by
    rw [hlen,hy];exact hv _ _ _ hl kk pre post
   split at h
   ·cases h;exact ⟨1,y.2,rfl,rfl,ht⟩
   ·split at h
    ·obtain ⟨j,more,e1,e2,h3⟩:=rowR_trees hv h;refine ⟨j+1,y.2++more,by omega,by rw [e2,List.append_assoc],fun pre post=>?_⟩;have h4:=ht pre (more++post);have h5:=h3 (pre++y.2) post;rw [List.length_append] at h5;have e3:pre++(y.2++more)++post=pre++y.2++(more++post):=by simp
     have e4:pre++y.2++more++post=pre++y.2++(more++post):=by simp
     rw [e4] at h5;rw [e3,List.length_append,show pre.length+(y.2.length+more.length)=pre.length+y.2.length+more.length by omega];exact Trees.app h4 h5
    ·cases h
theorem boxR_tree {t:BA} {val:Nat→Rd (List Eng.Node)} (hv:TreeAt val) {obj:Bool} {a b:Nat} {l:List Eng.Node} (h:boxR t val obj a=.ok b l) (k:BA) (pre post:List Eng.Node):Tree (pre++qBl k l++post) pre.length (pre.length+l.length):=by
 unfold boxR at h;split at h
 ·cases h;exact leaf_tree pre post _ rfl
 ·split at h
  ·cases h
  ·rename_i b1 x h1;cases h;obtain ⟨j,more,e1,e2,h3⟩:=rowR_trees hv h1;simp only [List.nil_append,Nat.zero_add] at e1 e2;rw [e1,e2];have h4:=h3 (pre++[setK k (nd0 (qCd obj) ⟨#[]⟩ false 0 (j:Int))]) post;have e3:pre++[setK k (nd0 (qCd obj) ⟨#[]⟩ false 0 (j:Int))]++more++post=pre++(setK k (nd0 (qCd obj) ⟨#[]⟩ false 0 (j:Int))::more)++post:=by simp
   rw [e3,List.length_append,List.length_singleton] at h4;refine Tree.mk (n:=setK k (nd0 (qCd obj) ⟨#[]⟩ false 0 (j:Int))) (at_pre pre post _ more) (show (0:Int)≤(j:Int) by omega) ?_;show Trees _ (Int.toNat (j:Int)) _ _;rw [Int.toNat_natCast,List.length_cons,show pre.length+(more.length+1)=pre.length+1+more.length by omega];exact h4
theorem valR_tree (t:BA):∀d,TreeAt (valR t d)
 | 0=>fun a b l h k pre post=>by
  unfold valR at h;split at h
  ·cases h
  ·exact scalR_tree t a b l h k pre post
 | d+1=>fun a b l h k pre post=>by
  unfold valR at h;split at h
  ·exact boxR_tree (valR_tree t d) h k pre post
  ·exact scalR_tree t a b l h k pre post
theorem readR_tree {t:BA} {b:Nat} {l:List Eng.Node} (h:readR t=.ok b l):Tree l 0 l.length:=by
 unfold readR at h;split at h
 ·cases h
 ·rename_i b1 l1 h1;split at h
  ·cases h
  ·cases h;have:=valR_tree t 32 _ _ _ h1 ⟨#[]⟩ [] [];rw [valR_key h1,List.nil_append,List.append_nil,List.length_nil,Nat.zero_add] at this;exact this
def qG6 (m:Nat) (n:Eng.Node):Prop:=n.key.size≤m∧n.text.size≤m∧0≤n.kids∧n.kids≤m∧1≤n.kind∧n.kind≤7
theorem qG6.mono {m m':Nat} (h:m≤m') {n:Eng.Node} (hn:qG6 m n):qG6 m' n:=by
 unfold qG6 at *
 omega
def SizeAt (t:BA) (val:Nat→Rd (List Eng.Node)):Prop:=∀a b l,a≤t.size→val a=.ok b l→∀n∈l,qG6 (4*t.size) n
theorem bytesI_size {l:List Int}:(qA3 l).size=l.length:=by
 rw [bytesI_eq];show (l.map _).toArray.size=_;simp
theorem scalR_size (t:BA):SizeAt t (qC8 t):=by
 intro a b l ha h n hn;unfold qC8 at h;split at h
 ·have:=qA7 (t:=t) (a:=a) (by omega);split at h
  ·cases h
  ·rename_i h1;have h2:=qE1 h1 (by simp);cases h;simp only [List.mem_singleton] at hn;subst hn;refine ⟨by show (0:Nat)≤_; omega,?_,by show (0:Int)≤0; omega,by show (0:Int)≤_; omega,by show (1:Int)≤5; omega,by show (5:Int)≤7; omega⟩;show (qA3 _).size≤_;rw [bytesI_size];have:=h2.2.2.2;simp only [List.length_nil,Nat.zero_add] at this;omega
 ·split at h
  ·split at h
   ·cases h
   ·cases h;simp only [List.mem_singleton] at hn;subst hn;refine ⟨by show (0:Nat)≤_; omega,?_,by show (0:Int)≤0; omega,by show (0:Int)≤_; omega,by show (1:Int)≤4; omega,by show (4:Int)≤7; omega⟩;show (t.extract _ _).size≤_;rw [ByteArray.size_extract];omega
  ·have lit:∀k:Int,1≤n.kind∧n.kind≤7→n=nd0 k ⟨#[]⟩ false 0 0→qG6 (4*t.size) n:=fun k hk e=>by
    subst e;exact ⟨by show (0:Nat)≤_; omega,by show (0:Nat)≤_; omega,by show (0:Int)≤0; omega,by show (0:Int)≤_; omega,hk.1,hk.2⟩
   repeat' split at h
   all_goals first
    | (cases h; done)
    | (cases h; have hn:=List.mem_singleton.1 hn; exact lit _ ⟨by rw [hn]; show (1:Int)≤_; decide,by rw [hn]; show _≤(7:Int); decide⟩ (hn.trans rfl))
theorem setKey_size {m:Nat} {k:BA} (hk:k.size≤m) {l:List Eng.Node} (h:∀n∈l,qG6 m n):∀n∈qBl k l,qG6 m n:=by
 cases l with
 | nil=>intro n hn; cases hn
 | cons x r =>
  intro n hn;rcases List.mem_cons.1 hn with rfl | hn
  ·have:=h x List.mem_cons_self;exact ⟨hk,this.2.1,this.2.2⟩
  ·exact h n (List.mem_cons_of_mem _ hn)
theorem itemR_size {t:BA} {val:Nat→Rd (List Eng.Node)} (hv:Adv t val) (hz:SizeAt t val) {obj:Bool} {names:List BA} {a b:Nat} {x:BA × List Eng.Node} (ha:a≤t.size) (h:qD5 t val obj names a=.ok b x):∀n∈x.2,qG6 (4*t.size) n:=by
 unfold qD5 at h;split at h
 ·split at h
  ·have:=qA7 (t:=t) (a:=a) (by omega);split at h
   ·cases h
   ·rename_i b1 l h1;have h2:=qE1 h1 (by simp);split at h
    ·cases h
    ·split at h
     ·rename_i hc;have h3:=qA7 (t:=t) (a:=qAu t b1) (by omega);have h4:=qBs t b1;have h6:=qA8 t (qAu t b1+1) (by omega);split at h
      ·cases h
      ·rename_i h7;have h8:=hz _ _ _ h6 h7;cases h;refine setKey_size ?_ h8;rw [bytesI_size];have:=h2.2.2.2;simp only [List.length_nil,Nat.zero_add] at this;omega
     ·cases h
  ·cases h
 ·split at h
  ·cases h
  ·rename_i h7;cases h;exact hz _ _ _ ha h7
theorem rowR_size {t:BA} {val:Nat→Rd (List Eng.Node)} (hv:Adv t val) (hz:SizeAt t val) {obj:Bool}:∀ {m a k:Nat} {acc:List Eng.Node} {names:List BA} {b:Nat} {x:Nat × List Eng.Node},a≤t.size→(∀n∈acc,qG6 (4*t.size) n)→rowR t val obj m a k acc names=.ok b x→∀n∈x.2,qG6 (4*t.size) n
 | 0,a,k,acc,names,b,x,ha,hacc,h=>by cases h
 | m+1,a,k,acc,names,b,x,ha,hacc,h=>by
  unfold rowR at h;split at h
  ·cases h
  ·rename_i b1 x1 h1;have h2:=itemR_adv hv ha h1;have h3:=itemR_size hv hz ha h1;have h4:=qBs t b1;have h5:=qA8 t b1 h2.2.1;have h6:∀n∈acc++x1.2,qG6 (4*t.size) n:=fun n hn=>(List.mem_append.1 hn).elim (hacc n) (h3 n)
   split at h
   ·cases h;exact h6
   ·split at h
    ·have h5:=qA7 (t:=t) (a:=qAu t b1) (by omega);exact rowR_size hv hz (qA8 t _ (by omega)) h6 h
    ·cases h
theorem valR_size (t:BA):∀d,SizeAt t (valR t d)
 | 0=>fun a b l ha h=>by
  unfold valR at h;split at h
  ·cases h
  ·exact scalR_size t a b l ha h
 | d+1=>fun a b l ha h=>by
  unfold valR at h;split at h
  ·have hlt:=qA7 (t:=t) (a:=a) (by omega);unfold boxR at h;have hd:∀(obj:Bool) (k:Nat),k≤t.size→qG6 (4*t.size) (nd0 (qCd obj) ⟨#[]⟩ false 0 (k:Int)):=fun obj k hk=>⟨by show (0:Nat)≤_; omega,by show (0:Nat)≤_; omega,by show (0:Int)≤(k:Int); omega,by show (k:Int)≤_; omega,by show 1≤qCd obj; cases obj <;> decide,by show qCd obj≤7; cases obj <;> decide⟩
   split at h
   ·cases h;intro n hn;simp only [List.mem_singleton] at hn;subst hn;exact hd _ 0 (by omega)
   ·split at h
    ·cases h
    ·rename_i b1 x h1;cases h;have k2:=qA8 t (a+1) (by omega);have h2:=rowR_adv (qEj t d) k2 h1;have h3:=rowR_size (qEj t d) (valR_size t d) k2 (by intro n hn; cases hn) h1;intro n hn;rcases List.mem_cons.1 hn with rfl | hn
     ·exact hd _ _ (by omega)
     ·exact h3 n hn
  ·exact scalR_size t a b l ha h
theorem readR_size {t:BA} {b:Nat} {l:List Eng.Node} (h:readR t=.ok b l):∀n∈l,qG6 (4*t.size) n:=by
 unfold readR at h;have k:=qA8 t 0 (by omega);split at h
 ·cases h
 ·rename_i h1;split at h
  ·cases h
  ·cases h;exact valR_size t 32 _ _ _ k h1
theorem scalR_code {t:BA} {a b:Nat} {c:Int} (h:qC8 t a=.bad c b):c≠0:=by
 unfold qC8 at h;split at h
 ·split at h
  ·rename_i h1;have:=quoR_code h1;cases h;omega
  ·cases h
 ·split at h
  ·split at h
   ·rename_i h1;cases h;unfold numR at h1;split at h1
    ·rename_i h2;cases h1;unfold zeroR at h2;split at h2
     ·cases h2
     ·have:=digR_code h2; omega
    ·split at h1
     ·rename_i h2;cases h1;unfold dotR at h2;split at h2
      ·have:=digR_code h2; omega
      ·cases h2
     ·unfold powR at h1;split at h1
      ·have:=digR_code h1; omega
      ·cases h1
   ·cases h
  ·repeat' split at h
   all_goals first
    | (cases h; done)
    | (rename_i h1; have:=litR_code h1; cases h; omega)
    | (cases h; decide)
theorem itemR_code {t:BA} {val:Nat→Rd (List Eng.Node)} (hv:∀a b c,val a=.bad c b→c≠0) {obj:Bool} {names:List BA} {a b:Nat} {c:Int} (h:qD5 t val obj names a=.bad c b):c≠0:=by
 unfold qD5 at h;split at h
 ·split at h
  ·split at h
   ·rename_i h1;have:=quoR_code h1;cases h;omega
   ·split at h
    ·cases h; decide
    ·split at h
     ·split at h
      ·rename_i h1;cases h;exact hv _ _ _ h1
      ·cases h
     ·cases h; decide
  ·cases h; decide
 ·split at h
  ·rename_i h1;cases h;exact hv _ _ _ h1
  ·cases h
theorem rowR_code {t:BA} {val:Nat→Rd (List Eng.Node)} (hv:∀a b c,val a=.bad c b→c≠0) {obj:Bool}:∀ {m a k:Nat} {acc:List Eng.Node} {names:List BA} {b:Nat} {c:Int},rowR t val obj m a k acc names=.bad c b→c≠0
 | 0,a,k,acc,names,b,c,h=>by cases h; decide
 | m+1,a,k,acc,names,b,c,h=>by
  unfold rowR at h;split at h
  ·rename_i h1;cases h;exact itemR_code hv h1
  ·split at h
   ·cases h
   ·split at h
    ·exact rowR_code hv h
    ·cases h; decide
theorem valR_code {t:BA}:∀(d a b:Nat) (c:Int),valR t d a=.bad c b→c≠0
 | 0,a,b,c,h=>by
  unfold valR at h;split at h
  ·cases h; decide
  ·exact scalR_code h
 | d+1,a,b,c,h=>by
  unfold valR at h;split at h
  ·unfold boxR at h;split at h
   ·cases h
   ·split at h
    ·rename_i h1;cases h;exact rowR_code (valR_code d) h1
    ·cases h
  ·exact scalR_code h
theorem parseR_cases (t:BA):(∃l,parseR t=(l,0,0)∧t.size≤262144∧readR t=.ok t.size l∧l≠[]∧l.length≤t.size∧Tree l 0 l.length∧∀n∈l,qG6 1048576 n)∨(∃c b,parseR t=([],c,b)∧c≠0):=by
 unfold parseR;by_cases hs:262144<t.size
 ·rw [if_pos hs];exact .inr ⟨10,0,rfl,by decide⟩
 ·rw [if_neg hs];cases h:readR t with
  | bad c b =>
   refine .inr ⟨c,b,rfl,?_⟩;unfold readR at h;split at h
   ·rename_i h1;cases h;exact valR_code _ _ _ _ h1
   ·split at h
    ·cases h; decide
    ·cases h
  | ok b l =>
   have hb:b=t.size:=by
    unfold readR at h;have k:=qA8 t 0 (by omega);split at h
    ·cases h
    ·rename_i h1;have h2:=qEj t 32 _ _ _ k h1;have:=qA8 t _ h2.2.1;split at h
     ·cases h
     ·cases h;omega
   subst hb;exact .inl ⟨l,rfl,by omega,rfl,(readR_len h).1,(readR_len h).2,readR_tree h,fun n hn=>(readR_size h n hn).mono (by omega)⟩
theorem validD_low {s:BA} {a:Nat} (hlt:a<s.size) (hc:by8 s a<128):Lib.validD (s.data.toList.drop a)=Lib.validD (s.data.toList.drop (a+1)):=by
 have hl:a<s.data.toList.length:=by rw [Array.length_toList]; exact hlt
 rw [List.drop_eq_getElem_cons hl];refine Lib.validD_cons _ _ ?_;have:by8 s a=(s.data.toList[a]).toNat:=by
  unfold by8;have h2:s.get! a=s.data[a]!:=rfl;rw [h2,getElem!_pos s.data a hlt];simp
 omega
theorem qHa {s:BA} {a:Nat} (hlt:a<s.size) (hc:128≤by8 s a):Lib.validD (s.data.toList.drop a)=if seqK s a=0 then Lib.validD (s.data.toList.drop (a+seqW s a)) else false:=by
 have hne:s.data.toList.drop a≠[]:=by
  intro h;have:=congrArg List.length h;rw [List.length_drop,Array.length_toList] at this;have:s.size=s.data.size:=rfl;simp at *
  omega
 have hv:=Lib.validD_step _ hne;rw [Lib.decodeL_drop,List.drop_drop] at hv;obtain ⟨d1,d2⟩:=seq_dec hlt hc;by_cases h0:seqK s a=0
 ·have hw:=qDv hlt hc h0;rw [d1 h0,if_neg (by omega)] at hv;rw [if_pos h0,hv]
 ·rw [(d2 h0).1,if_pos ⟨rfl,rfl⟩] at hv;rw [if_neg h0,hv]
theorem contN_ext {n n':Nat} {b b':Nat→Nat}:∀ {m i lo hi:Nat},qFw n b m i lo hi=0→(∀k,k<i+m→b' k=b k)→i+m≤n'→qFw n' b' m i lo hi=0
 | 0,_,_,_,_,_,_=>rfl
 | m+1,i,lo,hi,h,hb,hn=>by
  unfold qFw at h ⊢;rw [if_neg (by omega),hb i (by omega)];split at h
  ·cases h
  ·split at h
   ·cases h
   ·rename_i h2;rw [if_neg h2];exact contN_ext h (fun k hk=>hb k (by omega)) (by omega)
theorem seqK_ext {t s:BA} {a b:Nat} (ha:a<t.size) (h8:128≤by8 t a) (h:seqK t a=0) (hb:∀k,k<seqW t a→by8 s (b+k)=by8 t (a+k)) (hn:b+seqW t a≤s.size):seqK s b=0∧seqW s b=seqW t a:=by
 have hw:=qDv ha h8 h;have h0:=hb 0 (by omega);simp only [Nat.add_zero] at h0;have hwe:seqW s b=seqW t a:=by unfold seqW; rw [h0]
 refine ⟨?_,hwe⟩;unfold seqK at h ⊢;unfold seqW at hw hn hb;rw [h0];split at h
 ·cases h
 ·rename_i h1;rw [if_neg h1];exact contN_ext h (fun k hk=>hb k (by omega)) (by omega)
theorem qGm (l:List UInt8) (i:Nat) (h:i<l.length):by8 ⟨l.toArray⟩ i=(l[i]).toNat:=by
 unfold by8;have h2:(ByteArray.mk l.toArray).get! i=l.toArray[i]!:=rfl;rw [h2,getElem!_pos l.toArray i (by simpa using h)];simp
theorem validD_append:∀(n:Nat) (x y:List UInt8),x.length≤n→Lib.validD x=true→Lib.validD (x++y)=Lib.validD y
 | 0,x,y,hn,h=>by
  have:x=[]:=List.length_eq_zero_iff.1 (by omega);rw [this]; rfl
 | n+1,[],y,hn,h=>rfl
 | n+1,c::x,y,hn,h=>by
  by_cases hc:c.toNat<128
  ·rw [Lib.validD_cons c x hc] at h;rw [List.cons_append,Lib.validD_cons c _ hc];exact validD_append n x y (by simp at hn; omega) h
  ·have e1:(ByteArray.mk (c::x).toArray).data.toList.drop 0=c::x:=by simp
   have e2:(ByteArray.mk (c::x++y).toArray).data.toList.drop 0=c::x++y:=by simp
   have hl1:0<(ByteArray.mk (c::x).toArray).size:=by show 0<(c::x).toArray.size; simp
   have hl2:0<(ByteArray.mk (c::x++y).toArray).size:=by show 0<(c::x++y).toArray.size; simp
   have b1:128≤by8 (ByteArray.mk (c::x).toArray) 0:=by
    rw [qGm _ 0 (by simp)];show 128≤c.toNat;omega
   have b2:128≤by8 (ByteArray.mk (c::x++y).toArray) 0:=by
    rw [qGm _ 0 (by simp)];show 128≤c.toNat;omega
   have v1:=qHa hl1 b1;have v2:=qHa hl2 b2;rw [e1] at v1;rw [e2] at v2;rw [h] at v1;by_cases h0:seqK (ByteArray.mk (c::x).toArray) 0=0
   ·rw [if_pos h0] at v1;have hw:=qDv hl1 b1 h0;have hsz1:(ByteArray.mk (c::x).toArray).size=x.length+1:=by show (c::x).toArray.size=_; simp
    have hsz2:(ByteArray.mk (c::x++y).toArray).size=x.length+1+y.length:=by show (c::x++y).toArray.size=_; simp; omega
    generalize hwg:seqW (ByteArray.mk (c::x).toArray) 0=w at *
    have hx:=seqK_ext (s:=ByteArray.mk (c::x++y).toArray) (b:=0) hl1 b1 h0 (fun k hk=>by
     rw [hwg] at hk;rw [Nat.zero_add,qGm _ k (by simp; omega),qGm _ k (by simp; omega),List.getElem_append_left (by simp; omega)]) (by rw [hwg,hsz2]; omega)
    rw [hwg] at hx;rw [if_pos hx.1,hx.2] at v2;have e3:(ByteArray.mk (c::x).toArray).data.toList.drop (0+w)=(c::x).drop w:=by simp
    have e4:(ByteArray.mk (c::x++y).toArray).data.toList.drop (0+w)=(c::x).drop w++y:=by
     rw [Nat.zero_add];show (c::x++y).toArray.toList.drop w=_;rw [List.toList_toArray,List.drop_append_of_le_length (by simp; omega)]
    rw [e3] at v1;rw [e4] at v2;rw [v2];exact validD_append n _ y (by rw [List.length_drop]; simp at hn ⊢; omega) v1.symm
   ·rw [if_neg h0] at v1;cases v1
def qC4 (l:List Int):Prop:=Lib.validD (l.map fun n=>UInt8.ofNat n.toNat)=true
theorem qC4.append {x y:List Int} (hx:qC4 x) (hy:qC4 y):qC4 (x++y):=by
 unfold qC4 at *
 rw [List.map_append,validD_append _ _ _ (Nat.le_refl _) hx,hy]
theorem qC4.bytes {l:List Int} (h:qC4 l):Lib.validD (qA3 l).data.toList=true:=by
 rw [bytesI_eq];show Lib.validD (List.toArray _).toList=_;rw [List.toList_toArray];exact h
theorem qC4.nil:qC4 []:=rfl
theorem qC4.one {c:Int} (h:0≤c∧c<128):qC4 [c]:=by
 unfold qC4;simp only [List.map_cons,List.map_nil];rw [Lib.validD_cons _ _ (by rw [UInt8.toNat_ofNat',Nat.mod_eq_of_lt (by omega)]; omega)];rfl
theorem chunk_ok {l:List UInt8} (h8:128≤by8 ⟨l.toArray⟩ 0) (hl:0<l.length) (hk:seqK ⟨l.toArray⟩ 0=0) (hw:seqW ⟨l.toArray⟩ 0=l.length):Lib.validD l=true:=by
 have hlt:0<(ByteArray.mk l.toArray).size:=by show 0<l.toArray.size; simpa using hl
 have h:=qHa hlt h8;rw [if_pos hk,hw] at h;have e1:(ByteArray.mk l.toArray).data.toList.drop 0=l:=by simp
 have e2:(ByteArray.mk l.toArray).data.toList.drop (0+l.length)=[]:=by simp
 rw [e1,e2] at h;exact h
theorem u8n {n:Nat} (h:n<256):(UInt8.ofNat n).toNat=n:=by rw [UInt8.toNat_ofNat',Nat.mod_eq_of_lt (by omega)]
theorem chunk2 {a b:Nat} (ha:194≤a∧a<224) (hb:128≤b∧b≤191):Lib.validD [UInt8.ofNat a,UInt8.ofNat b]=true:=by
 have b0:by8 ⟨[UInt8.ofNat a,UInt8.ofNat b].toArray⟩ 0=a:=by rw [qGm _ 0 (by simp)]; exact u8n (by omega)
 have b1:by8 ⟨[UInt8.ofNat a,UInt8.ofNat b].toArray⟩ 1=b:=by rw [qGm _ 1 (by simp)]; exact u8n (by omega)
 have f:Lib.firstT a=2:=by
  unfold Lib.firstT;rw [if_neg (by omega),if_neg (by omega),if_pos (by omega)]
 refine chunk_ok (by rw [b0]; omega) (by simp) ?_ (by unfold seqW; rw [b0,f]; rfl);have hs:(ByteArray.mk [UInt8.ofNat a,UInt8.ofNat b].toArray).size=2:=rfl;unfold seqK;rw [b0,f,hs,if_neg (by decide)];simp only [Nat.reduceMod,Nat.reduceDiv,Nat.reduceSub,qFw,Lib.accLo,Lib.accHi,Nat.zero_add,b1,if_true];rw [if_neg (by omega),if_neg (by omega)]
theorem chunk3 {a b c:Nat} (ha:224≤a∧a<240) (hb:128≤b∧b≤191) (hc:128≤c∧c≤191) (h1:a=224→160≤b) (h2:a=237→b≤159):Lib.validD [UInt8.ofNat a,UInt8.ofNat b,UInt8.ofNat c]=true:=by
 have b0:by8 ⟨[UInt8.ofNat a,UInt8.ofNat b,UInt8.ofNat c].toArray⟩ 0=a:=by rw [qGm _ 0 (by simp)]; exact u8n (by omega)
 have b1:by8 ⟨[UInt8.ofNat a,UInt8.ofNat b,UInt8.ofNat c].toArray⟩ 1=b:=by rw [qGm _ 1 (by simp)]; exact u8n (by omega)
 have b2:by8 ⟨[UInt8.ofNat a,UInt8.ofNat b,UInt8.ofNat c].toArray⟩ 2=c:=by rw [qGm _ 2 (by simp)]; exact u8n (by omega)
 have hs:(ByteArray.mk [UInt8.ofNat a,UInt8.ofNat b,UInt8.ofNat c].toArray).size=3:=rfl;have f:Lib.firstT a=if a=224 then 19 else if a=237 then 35 else 3:=by
  unfold Lib.firstT;rw [if_neg (by omega),if_neg (by omega),if_neg (by omega)];repeat' split
  all_goals first | rfl | omega
 refine chunk_ok (by rw [b0]; omega) (by simp) ?_ (by
  unfold seqW;rw [b0,f];show _=3;by_cases g1:a=224
  ·rw [if_pos g1]
  ·rw [if_neg g1];by_cases g2:a=237
   ·rw [if_pos g2]
   ·rw [if_neg g2])
 unfold seqK;rw [b0,hs,f];by_cases g1:a=224
 ·have:=h1 g1;rw [if_pos g1,if_neg (by decide)];simp only [Nat.reduceMod,Nat.reduceDiv,Nat.reduceSub,qFw,Lib.accLo,Lib.accHi,Nat.zero_add,Nat.reduceAdd,b1,b2,if_true,Nat.reduceEqDiff,if_false];rw [if_neg (by omega),if_neg (by omega),if_neg (by omega),if_neg (by omega)]
 ·rw [if_neg g1];by_cases g2:a=237
  ·have:=h2 g2;rw [if_pos g2,if_neg (by decide)];simp only [Nat.reduceMod,Nat.reduceDiv,Nat.reduceSub,qFw,Lib.accLo,Lib.accHi,Nat.zero_add,Nat.reduceAdd,b1,b2,if_true,Nat.reduceEqDiff,if_false];rw [if_neg (by omega),if_neg (by omega),if_neg (by omega),if_neg (by omega)]
  ·rw [if_neg g2,if_neg (by decide)];simp only [Nat.reduceMod,Nat.reduceDiv,Nat.reduceSub,qFw,Lib.accLo,Lib.accHi,Nat.zero_add,Nat.reduceAdd,b1,b2,if_true,Nat.reduceEqDiff,if_false];rw [if_neg (by omega),if_neg (by omega),if_neg (by omega),if_neg (by omega)]
theorem chunk4 {a b c d:Nat} (ha:240≤a∧a≤244) (hb:128≤b∧b≤191) (hc:128≤c∧c≤191) (hd:128≤d∧d≤191) (h1:a=240→144≤b) (h2:a=244→b≤143):Lib.validD [UInt8.ofNat a,UInt8.ofNat b,UInt8.ofNat c,UInt8.ofNat d]=true:=by
 have b0:by8 ⟨[UInt8.ofNat a,UInt8.ofNat b,UInt8.ofNat c,UInt8.ofNat d].toArray⟩ 0=a:=by rw [qGm _ 0 (by simp)]; exact u8n (by omega)
 have b1:by8 ⟨[UInt8.ofNat a,UInt8.ofNat b,UInt8.ofNat c,UInt8.ofNat d].toArray⟩ 1=b:=by rw [qGm _ 1 (by simp)]; exact u8n (by omega)
 have b2:by8 ⟨[UInt8.ofNat a,UInt8.ofNat b,UInt8.ofNat c,UInt8.ofNat d].toArray⟩ 2=c:=by rw [qGm _ 2 (by simp)]; exact u8n (by omega)
 have b3:by8 ⟨[UInt8.ofNat a,UInt8.ofNat b,UInt8.ofNat c,UInt8.ofNat d].toArray⟩ 3=d:=by rw [qGm _ 3 (by simp)]; exact u8n (by omega)
 have hs:(ByteArray.mk [UInt8.ofNat a,UInt8.ofNat b,UInt8.ofNat c,UInt8.ofNat d].toArray).size=4:=rfl;have f:Lib.firstT a=if a=240 then 52 else if a=244 then 68 else 4:=by
  unfold Lib.firstT;rw [if_neg (by omega),if_neg (by omega),if_neg (by omega),if_neg (by omega),if_neg (by omega),if_neg (by omega),if_neg (by omega)];repeat' split
  all_goals first | rfl | omega
 refine chunk_ok (by rw [b0]; omega) (by simp) ?_ (by
  unfold seqW;rw [b0,f];show _=4;by_cases g1:a=240
  ·rw [if_pos g1]
  ·rw [if_neg g1];by_cases g2:a=244
   ·rw [if_pos g2]
   ·rw [if_neg g2])
 unfold seqK;rw [b0,hs,f];by_cases g1:a=240
 ·have:=h1 g1;rw [if_pos g1,if_neg (by decide)];simp only [Nat.reduceMod,Nat.reduceDiv,Nat.reduceSub,qFw,Lib.accLo,Lib.accHi,Nat.zero_add,Nat.reduceAdd,b1,b2,b3,if_true,Nat.reduceEqDiff,if_false];rw [if_neg (by omega),if_neg (by omega),if_neg (by omega),if_neg (by omega),if_neg (by omega),if_neg (by omega)]
 ·rw [if_neg g1];by_cases g2:a=244
  ·have:=h2 g2;rw [if_pos g2,if_neg (by decide)];simp only [Nat.reduceMod,Nat.reduceDiv,Nat.reduceSub,qFw,Lib.accLo,Lib.accHi,Nat.zero_add,Nat.reduceAdd,b1,b2,b3,if_true,Nat.reduceEqDiff,if_false];rw [if_neg (by omega),if_neg (by omega),if_neg (by omega),if_neg (by omega),if_neg (by omega),if_neg (by omega)]
  ·rw [if_neg g2,if_neg (by decide)];simp only [Nat.reduceMod,Nat.reduceDiv,Nat.reduceSub,qFw,Lib.accLo,Lib.accHi,Nat.zero_add,Nat.reduceAdd,b1,b2,b3,if_true,Nat.reduceEqDiff,if_false];rw [if_neg (by omega),if_neg (by omega),if_neg (by omega),if_neg (by omega),if_neg (by omega),if_neg (by omega)]
theorem utfL_valid {u:Int} (h:Code u):qC4 (utfL u):=by
 unfold Code at h;unfold utfL;split
 ·exact qC4.one ⟨by omega,by omega⟩
 ·split
  ·show Lib.validD [UInt8.ofNat (192+u / 64).toNat,UInt8.ofNat (128+u % 64).toNat]=true;exact chunk2 (by omega) (by omega)
  ·split
   ·show Lib.validD [UInt8.ofNat (224+u / 4096).toNat,UInt8.ofNat (128+u / 64 % 64).toNat,UInt8.ofNat (128+u % 64).toNat]=true;exact chunk3 (by omega) (by omega) (by omega) (by omega) (by omega)
   ·show Lib.validD [UInt8.ofNat (240+u / 262144).toNat,UInt8.ofNat (128+u / 4096 % 64).toNat,UInt8.ofNat (128+u / 64 % 64).toNat,UInt8.ofNat (128+u % 64).toNat]=true;exact chunk4 (by omega) (by omega) (by omega) (by omega) (by omega) (by omega)
theorem by8_ext (t:BA) (a b k:Nat) (h:a+k<b) (hb:b≤t.size):by8 (t.extract a b) k=by8 t (a+k):=by
 have hsz:(t.extract a b).size=b - a:=by rw [ByteArray.size_extract]; omega
 have h1:=qD0 (t:=t.extract a b) (i:=k) (by omega);have h2:=qD0 (t:=t) (i:=a+k) (by omega);rw [qDk t a b (k:Int) (by omega) (by omega)] at h1;rw [show ((a+k:Nat):Int)=(a:Int)+(k:Int) by omega] at h2;omega
theorem seq_valid {t:BA} {a:Nat} (ha:a<t.size) (h8:128≤by8 t a) (h:seqK t a=0):qC4 (qAi (t.extract a (a+seqW t a))):=by
 have hw:=qDv ha h8 h;have hsz:(t.extract a (a+seqW t a)).size=seqW t a:=by rw [ByteArray.size_extract]; omega
 have hx:=seqK_ext (s:=t.extract a (a+seqW t a)) (b:=0) ha h8 h (fun k hk=>by rw [Nat.zero_add]; exact by8_ext t a _ k (by omega) (by omega)) (by omega);have h0:by8 (t.extract a (a+seqW t a)) 0=by8 t a:=by8_ext t a _ 0 (by omega) (by omega);have hv:=qHa (s:=t.extract a (a+seqW t a)) (a:=0) (by omega) (by omega);rw [if_pos hx.1,hx.2,List.drop_zero,List.drop_eq_nil_of_le (by rw [Array.length_toList]; show (t.extract a (a+seqW t a)).size≤_; omega),Lib.validD_nil] at hv;unfold qC4 qAi;rw [List.map_map];have e:∀l:List UInt8,l.map ((fun n:Int=>UInt8.ofNat n.toNat) ∘ fun b:UInt8=>(b.toNat:Int))=l:=fun l=>by
  conv=>rhs; rw [←List.map_id l]
  refine List.map_congr_left fun x _=>?_
  simp
 rw [e];exact hv
theorem qE8 {t:BA}:∀ {n a b:Nat} {acc l:List Int},quoR t n a acc=.ok b l→qC4 acc→qC4 l
 | 0,a,b,acc,l,h,_=>by cases h
 | n+1,a,b,acc,l,h,hacc=>by
  unfold quoR at h;split at h
  ·cases h
  ·rename_i h0;have ha:=qA7 (t:=t) (a:=a) (by omega);split at h
   ·cases h;exact hacc
   ·split at h
    ·split at h
     ·cases h
     ·rename_i b' u he;exact qE8 h (hacc.append (utfL_valid (escR_ok he).2.2))
    ·split at h
     ·exact qE8 h (hacc.append (qC4.one (by omega)))
     ·split at h
      ·rename_i hk;exact qE8 h (hacc.append (seq_valid ha (by have:=qD0 ha; omega) hk))
      ·cases h
section
variable {t:BA} {a b:Nat} (hb:b≤t.size)
include hb
theorem ex_in {i:Int} {j:Nat} (h0:0≤i) (hj:(j:Int)=a+i) (hjb:j<b):bAt (t.extract a b) i=bAt t (j:Int):=by
 have _:=hb;rw [qDk t a b i h0 (by omega),hj]
theorem ex_out {i:Int} (h:(b:Int)≤a+i) (hab:a≤b):bAt (t.extract a b) i = -1:=by
 refine qBt ?_;rw [ByteArray.size_extract];omega
theorem many_min:∀(n i:Nat),b - (a+i)≤n→a+i≤b→qC6 (t.extract a b) i+a=min (qC6 t (a+i)) b
 | 0,i,h1,h2=>by
  have e:digS (t.extract a b) (i:Int)=false:=by
   unfold digS;rw [ex_out hb (i:=(i:Int)) (by omega) (by omega)];rfl
  have:=qEh t (a+i);rw [qBw e];omega
 | n+1,i,h1,h2=>by
  by_cases hlt:a+i<b
  ·have e:digS (t.extract a b) (i:Int)=digS t ((a+i:Nat):Int):=by
    unfold digS;rw [ex_in hb (i:=(i:Int)) (j:=a+i) (by omega) (by omega) hlt]
   by_cases hd:digS t ((a+i:Nat):Int)=true
   ·have ih:=many_min n (i+1) (by omega) (by omega);rw [qCm (e.trans hd),qCm hd];exact ih
   ·have hd:digS t ((a+i:Nat):Int)=false:=by simpa using hd
    rw [qBw (e.trans hd),qBw hd];omega
  ·have e:digS (t.extract a b) (i:Int)=false:=by
    unfold digS;rw [ex_out hb (i:=(i:Int)) (by omega) (by omega)];rfl
   have:=qEh t (a+i);rw [qBw e];omega
end
theorem digS_not {t:BA} {i:Nat} (h:bAt t i=46∨bAt t i=101∨bAt t i=69):digS t (i:Int)=false:=by
 unfold digS;rcases h with h | h | h <;> rw [h] <;> rfl
theorem numR_valid {t:BA} {a b:Nat} {u:Unit} (ha:a<t.size) (h:numR t a=.ok b u):qCf (t.extract a b)=true:=by
 have hadv:=numR_adv ha h;have hb:=hadv.2;unfold numR at h;cases hz:zeroR t (signS t a) with
 | bad c x=>rw [hz] at h; cases h
 | ok b1 x1 =>
  rw [hz] at h;dsimp only at h;cases hd:dotR t b1 with
  | bad c x=>rw [hd] at h; cases h
  | ok b2 x2 =>
   rw [hd] at h;dsimp only at h;have hsz:(t.extract a b).size=b - a:=by rw [ByteArray.size_extract]; omega
   have hA:signS t a=a+atA (t.extract a b):=by
    unfold signS atA;rw [ex_in hb (i:=0) (j:=a) (by omega) (by omega) (by omega)];split <;> rfl
   have hsg:signS t a≤t.size:=by unfold signS; split <;> omega
   have z1:=zeroR_adv hsg hz;have z2:=dotR_adv z1.2 hd;have z3:=powR_adv z2.2 h;generalize hs:t.extract a b=s at *
   have inn:∀ {i:Int} {j:Nat},0≤i→(j:Int)=a+i→j<b→bAt s i=bAt t (j:Int):=fun h0 hj hjb=>by rw [←hs]; exact ex_in hb h0 hj hjb
   have out:∀ {i:Int},(b:Int)≤a+i→bAt s i = -1:=fun h=>by rw [←hs]; exact ex_out hb h (by omega)
   have mm:∀i:Nat,a+i≤b→qC6 s i+a=min (qC6 t (a+i)) b:=fun i hi=>by rw [←hs]; exact many_min hb (b - (a+i)) i (Nat.le_refl _) hi
   have hchar:b1<b→bAt t b1=46∨bAt t b1=101∨bAt t b1=69:=by
    intro hlt;unfold dotR at hd;split at hd
    ·rename_i h46; exact .inl h46
    ·cases hd;unfold powR at h;split at h
     ·rename_i he; exact .inr he
     ·cases h; omega
   have hB:atB s+a=b1:=by
    unfold atB;rw [mm (atA s) (by omega),←hA];unfold zeroR at hz;split at hz
    ·rename_i h48;cases hz;have hdg:digS t ((signS t a:Nat):Int)=true:=by
      unfold digS;rw [h48];rfl
     rw [qCm hdg];by_cases hlt:signS t a+1<b
     ·rw [qBw (digS_not (hchar hlt))];omega
     ·have:=qEh t (signS t a+1);omega
    ·have:=qEi hsg hz;omega
   have hbad:badA s=false:=by
    unfold badA;rw [deF (show ¬atB s=atA s by omega),Bool.false_or];by_cases h48:bAt s (atA s:Int)=48
    ·have e:=inn (i:=(atA s:Int)) (j:=signS t a) (by omega) (by omega) (by omega);rw [e] at h48;unfold zeroR at hz;rw [if_pos h48] at hz;cases hz;rw [deF (show ¬atA s+1<atB s by omega),Bool.and_false]
    ·rw [deF h48,Bool.false_and]
   have hdot:dotS s=decide (bAt t b1=46∧b1<b):=by
    unfold dotS;by_cases hlt:b1<b
    ·rw [inn (i:=(atB s:Int)) (j:=b1) (by omega) (by omega) hlt];exact decide_eq_decide.2 ⟨fun h=>⟨h,hlt⟩,fun h=>h.1⟩
    ·rw [out (i:=(atB s:Int)) (by omega),deF (by omega),deF (by omega)]
   have hC:atC s+a=b2∧(dotS s=true→atK s≠atB s+1):=by
    unfold atC;unfold dotR at hd;split at hd
    ·rename_i h46;have hl46:=qA7 (t:=t) (a:=b1) (by omega);have hq:=qEi (by omega) hd;have hK:atK s+a=b2:=by
      unfold atK;rw [mm (atB s+1) (by omega),show a+(atB s+1)=b1+1 by omega,←hq.2.2];omega
     rw [hdot,deT ⟨h46,by omega⟩,if_pos rfl];exact ⟨hK,fun _=>by omega⟩
    ·rename_i h46;cases hd;rw [hdot,deF (fun h=>h46 h.1),if_neg (by decide)];exact ⟨hB,fun h=>by cases h⟩
   have hG:atG s+a=b∧(expS s=true→atF s≠atE s):=by
    unfold powR at h;split at h
    ·rename_i he;have hle:=qA7 (t:=t) (a:=b2) (by omega);have hqs:(if bAt t ((b2+1:Nat):Int)=43∨bAt t ((b2+1:Nat):Int)=45 then b2+2 else b2+1)≤t.size:=by
      split
      ·have:=qA7 (t:=t) (a:=b2+1) (by omega);omega
      ·omega
     have hq:=qEi hqs h;have hq1:b2+1<b:=by
      have:=hq.1;split at this <;> omega
     have hexp:expS s=true:=by
      unfold expS;rw [inn (i:=(atC s:Int)) (j:=b2) (by omega) (by omega) (by omega)];simpa using he
     have hE:atE s+a=if bAt t ((b2+1:Nat):Int)=43∨bAt t ((b2+1:Nat):Int)=45 then b2+2 else b2+1:=by
      unfold atE sgnS;rw [inn (i:=(atC s:Int)+1) (j:=b2+1) (by omega) (by omega) (by omega)];by_cases hsn:bAt t ((b2+1:Nat):Int)=43∨bAt t ((b2+1:Nat):Int)=45
      ·rw [if_pos (by simpa using hsn),if_pos hsn];omega
      ·rw [if_neg (by simpa using hsn),if_neg hsn];omega
     generalize (if bAt t ((b2+1:Nat):Int)=43∨bAt t ((b2+1:Nat):Int)=45 then b2+2 else b2+1)=q at *
     have hF:atF s+a=b:=by
      unfold atF;rw [mm (atE s) (by omega),show a+atE s=q by omega,←hq.2.2];omega
     unfold atG;rw [hexp,if_pos rfl];exact ⟨hF,fun _=>by omega⟩
    ·cases h;have hexp:expS s=false:=by
      unfold expS;rw [out (i:=(atC s:Int)) (by omega)];rfl
     unfold atG;rw [hexp,if_neg (by decide)];exact ⟨hC.1,fun h=>by cases h⟩
   unfold qCf;rw [hbad,deT (show atG s=s.size by omega),Bool.and_true];have e1:(dotS s && decide (atK s=atB s+1))=false:=by
    cases hds:dotS s with
    | false=>rfl
    | true=>rw [deF (hC.2 hds)]; rfl
   have e2:(expS s && decide (atF s=atE s))=false:=by
    cases hes:expS s with
    | false=>rfl
    | true=>rw [deF (hG.2 hes)]; rfl
   rw [e1,e2];rfl
theorem pB_num {n:Eng.Node} (hn:n.text.size≤3000000) (h4:n.kind=4) (hk:n.kids=0) (hv:qCf n.text=true) (hw:n.whole=(qEp n.text).2) (hi:n.int=(qEp n.text).1):pB n=true:=by
 unfold pB zao_s;rw [p_Valid _ hn,whole_j _ hn,hv,h4,hk,hw,hi];simp
theorem pB_str {n:Eng.Node} (hn:n.text.size≤3000000) (h5:n.kind=5) (hk:n.kids=0) (hw:n.whole=false) (hi:n.int=0) (hv:Lib.validD n.text.data.toList=true):pB n=true:=by
 have hu:qBd n.text=some (Lib.validD n.text.data.toList):=qAa (by omega) _;unfold pB zao_s;rw [hu,h5,hk,hw,hi,hv];rfl
theorem pB_bare {n:Eng.Node} (h1:n.kind=1∨n.kind=2∨n.kind=3) (hk:n.kids=0) (hw:n.whole=false) (hi:n.int=0) (ht:n.text=⟨#[]⟩):pB n=true:=by
 unfold pB zao_s;rw [hk,hw,hi,ht];rcases h1 with h1 | h1 | h1 <;> rw [h1] <;> rfl
theorem pB_box {n:Eng.Node} (h1:n.kind=6∨n.kind=7) (hk:0≤n.kids) (hw:n.whole=false) (hi:n.int=0) (ht:n.text=⟨#[]⟩):pB n=true:=by
 unfold pB zao_s;rw [hw,hi,ht];rcases h1 with h1 | h1
 ·rw [h1,deF (show ¬n.kids<0 by omega)];simp
 ·rw [h1,deF (show ¬n.kids<0 by omega)];simp
def KeyOK (obj:Bool) (k:BA):Prop:=Lib.validD k.data.toList=true∧(obj=true∨k=⟨#[]⟩)
theorem okB_key {obj:Bool} {k:BA} (hk:KeyOK obj k) {n:Eng.Node} (h:pB (setK k n)=true):okB obj (setK k n)=true:=by
 unfold okB;rw [h];show (true && Lib.validD k.data.toList && (obj || decide (k=(⟨#[]⟩:BA))))=true
 rw [hk.1];rcases hk.2 with h | h
 ·rw [h]; rfl
 ·rw [deT h]; simp
def LeafOK (n:Eng.Node):Prop:=n.kids=0∧n.kind<6∧∀k,pB (setK k n)=true
theorem scalR_leaf {t:BA} (hs:t.size≤600000) {a b:Nat} {l:List Eng.Node} (ha:a≤t.size) (h:qC8 t a=.ok b l):∃n,l=[n]∧LeafOK n:=by
 unfold qC8 at h;split at h
 ·split at h
  ·cases h
  ·rename_i b1 l1 h1;have h2:=qE1 h1 (by simp);have h3:=qE8 h1 qC4.nil;have hlt:=qA7 (t:=t) (a:=a) (by omega);cases h;refine ⟨_,rfl,rfl,by show (5:Int)<6; decide,fun k=>pB_str ?_ rfl rfl rfl rfl h3.bytes⟩;show (qA3 l1).size≤_;rw [bytesI_size];have:=h2.2.2.2;simp only [List.length_nil,Nat.zero_add] at this;omega
 ·split at h
  ·rename_i hc;have hlt:=qA7 (t:=t) (a:=a) (by omega);split at h
   ·cases h
   ·rename_i b1 x1 h1;cases h;refine ⟨_,rfl,rfl,by show (4:Int)<6; decide,fun k=>pB_num ?_ rfl rfl (numR_valid hlt h1) rfl rfl⟩;show (t.extract a _).size≤_;rw [ByteArray.size_extract];omega
  ·split at h
   ·split at h
    ·cases h
    ·cases h;exact ⟨_,rfl,rfl,by show (1:Int)<6; decide,fun k=>pB_bare (.inl rfl) rfl rfl rfl rfl⟩
   ·split at h
    ·split at h
     ·cases h
     ·cases h;exact ⟨_,rfl,rfl,by show (2:Int)<6; decide,fun k=>pB_bare (.inr (.inl rfl)) rfl rfl rfl rfl⟩
    ·split at h
     ·split at h
      ·cases h
      ·cases h;exact ⟨_,rfl,rfl,by show (3:Int)<6; decide,fun k=>pB_bare (.inr (.inr rfl)) rfl rfl rfl rfl⟩
     ·cases h
def ShapeAt (t:BA) (d:Nat) (val:Nat→Rd (List Eng.Node)):Prop:=∀a b l,a≤t.size→val a=.ok b l→∀(k:BA) (obj:Bool) (pre post:List Eng.Node),KeyOK obj k→oneS (pre++qBl k l++post) d obj pre.length=some (pre.length+l.length)
theorem leaf_shape {n:Eng.Node} (hn:LeafOK n) (d:Nat) {obj:Bool} {k:BA} (hk:KeyOK obj k) (pre post:List Eng.Node):oneS (pre++[setK k n]++post) d obj pre.length=some (pre.length+1):=by
 have h1:=at_pre pre post (setK k n) [];have h2:=okB_key hk (hn.2.2 k);cases d with
 | zero =>
  unfold oneS;rw [h1];dsimp only;rw [if_pos ⟨h2,hn.2.1⟩]
 | succ d =>
  unfold oneS;rw [h1];dsimp only;rw [if_pos h2];show qCr _ _ _ (Int.toNat n.kids) _ _=_;rw [hn.1];rfl
theorem scalR_shape {t:BA} (hs:t.size≤600000) (d:Nat):ShapeAt t d (qC8 t):=by
 intro a b l ha h k obj pre post hk;obtain ⟨n,rfl,hn⟩:=scalR_leaf hs ha h;exact leaf_shape hn d hk pre post
theorem keyAt_pre (pre post:List Eng.Node) (k:BA) {l:List Eng.Node} (hl:l≠[]):qBz (pre++qBl k l++post) pre.length=k:=by
 cases l with
 | nil=>exact (hl rfl).elim
 | cons n r =>
  unfold qBz;rw [List.getD_eq_getElem?_getD];show ((pre++(setK k n::r)++post)[pre.length]?.getD _).key=k;rw [at_pre];rfl
theorem itemR_shape {t:BA} {val:Nat→Rd (List Eng.Node)} (hv:Adv t val) (hk0:∀a b l,val a=.ok b l→qBl ⟨#[]⟩ l=l) {obj:Bool} {names:List BA} {a b:Nat} {x:BA × List Eng.Node} (ha:a≤t.size) (h:qD5 t val obj names a=.ok b x) :
  ∃a' l,a'≤t.size∧val a'=.ok b l∧x.2=qBl x.1 l∧l≠[]∧KeyOK obj x.1∧(obj=true→¬x.1∈names):=by
 unfold qD5 at h;split at h
 ·rename_i hobj;split at h
  ·have:=qA7 (t:=t) (a:=a) (by omega);split at h
   ·cases h
   ·rename_i b1 l h1;have h2:=qE1 h1 (by simp);have hvl:=qE8 h1 qC4.nil;split at h
    ·cases h
    ·rename_i hmem;split at h
     ·rename_i hc;have h3:=qA7 (t:=t) (a:=qAu t b1) (by omega);have h4:=qBs t b1;have h6:=qA8 t (qAu t b1+1) (by omega);split at h
      ·cases h
      ·rename_i h7;have h8:=hv _ _ _ h6 h7;cases h;exact ⟨_,_,h6,h7,rfl,h8.2.2.1,⟨hvl.bytes,.inl hobj⟩,fun _=>hmem⟩
     ·cases h
  ·cases h
 ·rename_i hobj;split at h
  ·cases h
  ·rename_i h7;have h8:=hv _ _ _ ha h7;cases h;exact ⟨_,_,ha,h7,(hk0 _ _ _ h7).symm,h8.2.2.1,⟨rfl,.inr rfl⟩,fun h=>(hobj h).elim⟩
theorem rowR_shape {t:BA} {d:Nat} {val:Nat→Rd (List Eng.Node)} (hv:Adv t val) (hk0:∀a b l,val a=.ok b l→qBl ⟨#[]⟩ l=l) (hS:ShapeAt t d val) {obj:Bool}:∀ {m a k:Nat} {acc:List Eng.Node} {names:List BA} {b:Nat} {x:Nat × List Eng.Node},a≤t.size→rowR t val obj m a k acc names=.ok b x →
  ∃(j:Nat) (more:List Eng.Node),x.1=k+j∧x.2=acc++more∧∀(pre post:List Eng.Node) (nm:List BA),(obj=true→nm=names)→qCr (pre++more++post) (oneS (pre++more++post) d obj) obj j pre.length nm=some (pre.length+more.length)
 | 0,a,k,acc,names,b,x,ha,h=>by cases h
 | m+1,a,k,acc,names,b,x,ha,h=>by
  unfold rowR at h;split at h
  ·cases h
  ·rename_i b1 y h1;obtain ⟨a',l,ha',hl,hy,hne,hkey,hmem⟩:=itemR_shape hv hk0 ha h1;have hadv:=itemR_adv hv ha h1;have hlen:y.2.length=l.length:=by rw [hy,qGp]
   have one:∀pre post,oneS (pre++y.2++post) d obj pre.length=some (pre.length+y.2.length)∧qBz (pre++y.2++post) pre.length=y.1:=fun pre post=>by
    rw [hlen,hy];exact ⟨hS _ _ _ ha' hl _ obj pre post hkey,keyAt_pre pre post _ hne⟩
   have k1:=qBs t b1;have k2:=qA8 t b1 hadv.2.1;have ncond:∀(pre post:List Eng.Node) (nm:List BA),(obj=true→nm=names)→¬(obj=true∧qBz (pre++y.2++post) pre.length∈nm):=fun pre post nm hnm h=>by
    rw [(one pre post).2,hnm h.1] at h;exact hmem h.1 h.2
   split at h
   ·cases h;refine ⟨1,y.2,rfl,rfl,fun pre post nm hnm=>?_⟩;unfold qCr;rw [(one pre post).1];dsimp only;rw [if_neg (ncond pre post nm hnm)];rfl
   ·split at h
    ·rename_i hcm;have h3:=qA7 (t:=t) (a:=qAu t b1) (by omega);have k4:=qA8 t (qAu t b1+1) (by omega);obtain ⟨j,more,e1,e2,h4⟩:=rowR_shape hv hk0 hS k4 h;refine ⟨j+1,y.2++more,by omega,by rw [e2,List.append_assoc],fun pre post nm hnm=>?_⟩;have o1:=one pre (more++post);have n1:=ncond pre (more++post) nm hnm;have h5:=h4 (pre++y.2) post (nm++[y.1]) (fun ho=>by rw [hnm ho]);have e3:pre++(y.2++more)++post=pre++y.2++(more++post):=by simp
     have e4:pre++y.2++more++post=pre++y.2++(more++post):=by simp
     rw [e4,List.length_append] at h5;rw [e3];unfold qCr;rw [o1.1];dsimp only;rw [if_neg n1,o1.2,h5,List.length_append];congr 1
     omega
    ·cases h
theorem boxR_shape {t:BA} {d:Nat} {val:Nat→Rd (List Eng.Node)} (hv:Adv t val) (hk0:∀a b l,val a=.ok b l→qBl ⟨#[]⟩ l=l) (hS:ShapeAt t d val) {ob:Bool} {a b:Nat} {l:List Eng.Node} (ha:a<t.size) (h:boxR t val ob a=.ok b l)
  (k:BA) (obj:Bool) (pre post:List Eng.Node) (hk:KeyOK obj k):oneS (pre++qBl k l++post) (d+1) obj pre.length=some (pre.length+l.length):=by
 have k2:=qA8 t (a+1) (by omega);have hbox:∀n:Nat,okB obj (setK k (nd0 (qCd ob) ⟨#[]⟩ false 0 (n:Int)))=true:=fun n=>okB_key hk (pB_box (by cases ob <;> first | exact .inl rfl | exact .inr rfl) (by show (0:Int)≤(n:Int); omega) rfl rfl rfl)
 have hkind:∀n:Nat,decide ((setK k (nd0 (qCd ob) ⟨#[]⟩ false 0 (n:Int))).kind=7)=ob:=fun n=>by cases ob <;> rfl
 unfold boxR at h;split at h
 ·cases h;show oneS (pre++[setK k (nd0 (qCd ob) ⟨#[]⟩ false 0 ((0:Nat):Int))]++post) (d+1) obj pre.length=_;unfold oneS;rw [at_pre];dsimp only;rw [if_pos (hbox 0)];rfl
 ·split at h
  ·cases h
  ·rename_i b1 x h1;cases h;obtain ⟨j,more,e1,e2,h3⟩:=rowR_shape hv hk0 hS k2 h1;simp only [List.nil_append,Nat.zero_add] at e1 e2;rw [e1,e2];have h4:=h3 (pre++[setK k (nd0 (qCd ob) ⟨#[]⟩ false 0 (j:Int))]) post [] (fun _=>rfl);have e3:pre++[setK k (nd0 (qCd ob) ⟨#[]⟩ false 0 (j:Int))]++more++post=pre++(setK k (nd0 (qCd ob) ⟨#[]⟩ false 0 (j:Int))::more)++post:=by simp
   rw [e3,List.length_append,List.length_singleton] at h4;show oneS (pre++(setK k (nd0 (qCd ob) ⟨#[]⟩ false 0 (j:Int))::more)++post) (d+1) obj pre.length=_;unfold oneS;rw [at_pre];dsimp only;rw [if_pos (hbox j),hkind j];show qCr _ _ ob (Int.toNat (j:Int)) _ _=_;rw [Int.toNat_natCast,h4,List.length_cons];congr 1
   omega
theorem valR_shape {t:BA} (hs:t.size≤600000):∀d,ShapeAt t d (valR t d)
 | 0=>fun a b l ha h=>by
  unfold valR at h;split at h
  ·cases h
  ·exact scalR_shape hs 0 a b l ha h
 | d+1=>fun a b l ha h=>by
  unfold valR at h;split at h
  ·have hlt:=qA7 (t:=t) (a:=a) (by omega);exact boxR_shape (qEj t d) (fun a b l h=>valR_key h) (valR_shape hs d) hlt h
  ·exact scalR_shape hs (d+1) a b l ha h
theorem readR_shape {t:BA} (hs:t.size≤262144) {b:Nat} {l:List Eng.Node} (h:readR t=.ok b l):oneS l 32 false 0=some l.length:=by
 unfold readR at h;have k:=qA8 t 0 (by omega);split at h
 ·cases h
 ·rename_i h1;split at h
  ·cases h
  ·cases h;have:=valR_shape (t:=t) (by omega) 32 _ _ _ k h1 ⟨#[]⟩ false [] [] ⟨rfl,.inr rfl⟩;rw [valR_key h1,List.nil_append,List.append_nil,List.length_nil,Nat.zero_add] at this;exact this
theorem qG6.okN {m:Nat} (hm:m≤3000000) {n:Eng.Node} (h:qG6 m n):OkN n:=⟨by unfold qG6 at h; omega,by unfold qG6 at h; omega,by unfold qG6 at h; unfold qAf; omega⟩
end Go.Proofs.YtdcoiccdbgcpaaaDoor
