/-
  What is read of a text is well shaped. No program.
-/
import Derived.Test.YtdcoiccdbgcpaaaDoorPFind
namespace Go.Proofs.YtdcoiccdbgcpaaaDoor
open Go.Eng
set_option linter.unusedVariables false
set_option linter.unusedSimpArgs false
def TreeAt (val:Nat→Rd (List Eng.Node)):Prop:=∀a b l,val a=.ok b l→∀(k:BA) (pre post:List Eng.Node),Tree (pre++qD2 k l++post) pre.length (pre.length+l.length)
theorem at_pre (pre post:List Eng.Node) (n:Eng.Node) (l:List Eng.Node):(pre++(n::l)++post)[pre.length]?=some n:=by
 rw [List.append_assoc,List.getElem?_append_right (Nat.le_refl _),Nat.sub_self];rfl
theorem leaf_tree (pre post:List Eng.Node) (n:Eng.Node) (h:n.kids=0):Tree (pre++[n]++post) pre.length (pre.length+1) :=
 Tree.mk (at_pre pre post n []) (by omega) (by rw [h]; exact Trees.nil _ (by simp))
theorem scalR_tree (t:BA):TreeAt (qCa t):=by
 intro a b l h k pre post;unfold qCa at h;repeat' split at h
 all_goals first
  | (cases h; done)
  | (cases h; exact leaf_tree pre post _ rfl)
theorem setKey_self:∀l:List Eng.Node,∃k,qD2 k l=l
 | []=>⟨⟨#[]⟩,rfl⟩
 | n::r=>⟨n.key,rfl⟩
theorem itemR_set {t:BA} {val:Nat→Rd (List Eng.Node)} {obj:Bool} {names:List BA} {a b:Nat} {x:BA × List Eng.Node} (h:qCb t val obj names a=.ok b x):∃a' l k,val a'=.ok b l∧x.2=qD2 k l:=by
 unfold qCb at h;repeat' split at h
 all_goals first
  | (cases h; done)
  | skip
 ·rename_i h7;cases h;exact ⟨_,_,_,h7,rfl⟩
 ·rename_i b1 l1 h7;cases h;obtain ⟨k,hk⟩:=setKey_self l1;exact ⟨_,_,k,h7,hk.symm⟩
theorem rowR_trees {t:BA} {val:Nat→Rd (List Eng.Node)} (hv:TreeAt val) {obj:Bool}:∀ {m a k:Nat} {acc:List Eng.Node} {names:List BA} {b:Nat} {x:Nat × List Eng.Node},rowR t val obj m a k acc names=.ok b x →
  ∃(j:Nat) (more:List Eng.Node),x.1=k+j∧x.2=acc++more∧∀pre post,Trees (pre++more++post) j pre.length (pre.length+more.length)
 | 0,a,k,acc,names,b,x,h=>by cases h
 | m+1,a,k,acc,names,b,x,h=>by
  unfold rowR at h;split at h
  ·cases h
  ·rename_i b1 y h1;obtain ⟨a',l,kk,hl,hy⟩:=itemR_set h1;have hlen:y.2.length=l.length:=by rw [hy,setKey_len]
   have ht:∀pre post,Tree (pre++y.2++post) pre.length (pre.length+y.2.length):=fun pre post=>by
    rw [hlen,hy];exact hv _ _ _ hl kk pre post
   split at h
   ·cases h;exact ⟨1,y.2,rfl,rfl,ht⟩
   ·split at h
    ·obtain ⟨j,more,e1,e2,h3⟩:=rowR_trees hv h;refine ⟨j+1,y.2++more,by omega,by rw [e2,List.append_assoc],fun pre post=>?_⟩;have h4:=ht pre (more++post);have h5:=h3 (pre++y.2) post;rw [List.length_append] at h5;have e3:pre++(y.2++more)++post=pre++y.2++(more++post):=by simp
     have e4:pre++y.2++more++post=pre++y.2++(more++post):=by simp
     rw [e4] at h5;rw [e3,List.length_append,show pre.length+(y.2.length+more.length)=pre.length+y.2.length+more.length by omega];exact Trees.app h4 h5
    ·cases h
theorem boxR_tree {t:BA} {val:Nat→Rd (List Eng.Node)} (hv:TreeAt val) {obj:Bool} {a b:Nat} {l:List Eng.Node} (h:boxR t val obj a=.ok b l) (k:BA) (pre post:List Eng.Node):Tree (pre++qD2 k l++post) pre.length (pre.length+l.length):=by
 unfold boxR at h;split at h
 ·cases h;exact leaf_tree pre post _ rfl
 ·split at h
  ·cases h
  ·rename_i b1 x h1;cases h;obtain ⟨j,more,e1,e2,h3⟩:=rowR_trees hv h1;simp only [List.nil_append,Nat.zero_add] at e1 e2;rw [e1,e2];have h4:=h3 (pre++[setK k (nd0 (kindC obj) ⟨#[]⟩ false 0 (j:Int))]) post;have e3:pre++[setK k (nd0 (kindC obj) ⟨#[]⟩ false 0 (j:Int))]++more++post=pre++(setK k (nd0 (kindC obj) ⟨#[]⟩ false 0 (j:Int))::more)++post:=by simp
   rw [e3,List.length_append,List.length_singleton] at h4;refine Tree.mk (n:=setK k (nd0 (kindC obj) ⟨#[]⟩ false 0 (j:Int))) (at_pre pre post _ more) (show (0:Int)≤(j:Int) by omega) ?_;show Trees _ (Int.toNat (j:Int)) _ _;rw [Int.toNat_natCast,List.length_cons,show pre.length+(more.length+1)=pre.length+1+more.length by omega];exact h4
theorem valR_tree (t:BA):∀d,TreeAt (valR t d)
 | 0=>fun a b l h k pre post=>by
  unfold valR at h;split at h
  ·cases h
  ·exact scalR_tree t a b l h k pre post
 | d+1=>fun a b l h k pre post=>by
  unfold valR at h;split at h
  ·exact boxR_tree (valR_tree t d) h k pre post
  ·exact scalR_tree t a b l h k pre post
theorem readR_tree {t:BA} {b:Nat} {l:List Eng.Node} (h:qCx t=.ok b l):Tree l 0 l.length:=by
 unfold qCx at h;split at h
 ·cases h
 ·rename_i b1 l1 h1;split at h
  ·cases h
  ·cases h;have:=valR_tree t 32 _ _ _ h1 ⟨#[]⟩ [] [];rw [valR_key h1,List.nil_append,List.append_nil,List.length_nil,Nat.zero_add] at this;exact this
def SizeN (m:Nat) (n:Eng.Node):Prop:=n.key.size≤m∧n.text.size≤m∧0≤n.kids∧n.kids≤m∧1≤n.kind∧n.kind≤7
theorem SizeN.mono {m m':Nat} (h:m≤m') {n:Eng.Node} (hn:SizeN m n):SizeN m' n:=by
 unfold SizeN at *
 omega
def SizeAt (t:BA) (val:Nat→Rd (List Eng.Node)):Prop:=∀a b l,a≤t.size→val a=.ok b l→∀n∈l,SizeN (4*t.size) n
theorem qD5 {l:List Int}:(qAr l).size=l.length:=by
 rw [bytesI_eq];show (l.map _).toArray.size=_;simp
theorem scalR_size (t:BA):SizeAt t (qCa t):=by
 intro a b l ha h n hn;unfold qCa at h;split at h
 ·have:=qAi (t:=t) (a:=a) (by omega);split at h
  ·cases h
  ·rename_i h1;have h2:=qDu h1 (by simp);cases h;simp only [List.mem_singleton] at hn;subst hn;refine ⟨by show (0:Nat)≤_; omega,?_,by show (0:Int)≤0; omega,by show (0:Int)≤_; omega,by show (1:Int)≤5; omega,by show (5:Int)≤7; omega⟩;show (qAr _).size≤_;rw [qD5];have:=h2.2.2.2;simp only [List.length_nil,Nat.zero_add] at this;omega
 ·split at h
  ·split at h
   ·cases h
   ·cases h;simp only [List.mem_singleton] at hn;subst hn;refine ⟨by show (0:Nat)≤_; omega,?_,by show (0:Int)≤0; omega,by show (0:Int)≤_; omega,by show (1:Int)≤4; omega,by show (4:Int)≤7; omega⟩;show (t.extract _ _).size≤_;rw [ByteArray.size_extract];omega
  ·have lit:∀k:Int,1≤n.kind∧n.kind≤7→n=nd0 k ⟨#[]⟩ false 0 0→SizeN (4*t.size) n:=fun k hk e=>by
    subst e;exact ⟨by show (0:Nat)≤_; omega,by show (0:Nat)≤_; omega,by show (0:Int)≤0; omega,by show (0:Int)≤_; omega,hk.1,hk.2⟩
   repeat' split at h
   all_goals first
    | (cases h; done)
    | (cases h; have hn:=List.mem_singleton.1 hn; exact lit _ ⟨by rw [hn]; show (1:Int)≤_; decide,by rw [hn]; show _≤(7:Int); decide⟩ (hn.trans rfl))
theorem setKey_size {m:Nat} {k:BA} (hk:k.size≤m) {l:List Eng.Node} (h:∀n∈l,SizeN m n):∀n∈qD2 k l,SizeN m n:=by
 cases l with
 | nil=>intro n hn; cases hn
 | cons x r =>
  intro n hn;rcases List.mem_cons.1 hn with rfl | hn
  ·have:=h x List.mem_cons_self;exact ⟨hk,this.2.1,this.2.2⟩
  ·exact h n (List.mem_cons_of_mem _ hn)
theorem itemR_size {t:BA} {val:Nat→Rd (List Eng.Node)} (hv:Adv t val) (hz:SizeAt t val) {obj:Bool} {names:List BA} {a b:Nat} {x:BA × List Eng.Node} (ha:a≤t.size) (h:qCb t val obj names a=.ok b x):∀n∈x.2,SizeN (4*t.size) n:=by
 unfold qCb at h;split at h
 ·split at h
  ·have:=qAi (t:=t) (a:=a) (by omega);split at h
   ·cases h
   ·rename_i b1 l h1;have h2:=qDu h1 (by simp);split at h
    ·cases h
    ·split at h
     ·rename_i hc;have h3:=qAi (t:=t) (a:=qAm t b1) (by omega);have h4:=qAy t b1;have h6:=qAo t (qAm t b1+1) (by omega);split at h
      ·cases h
      ·rename_i h7;have h8:=hz _ _ _ h6 h7;cases h;refine setKey_size ?_ h8;rw [qD5];have:=h2.2.2.2;simp only [List.length_nil,Nat.zero_add] at this;omega
     ·cases h
  ·cases h
 ·split at h
  ·cases h
  ·rename_i h7;cases h;exact hz _ _ _ ha h7
theorem rowR_size {t:BA} {val:Nat→Rd (List Eng.Node)} (hv:Adv t val) (hz:SizeAt t val) {obj:Bool}:∀ {m a k:Nat} {acc:List Eng.Node} {names:List BA} {b:Nat} {x:Nat × List Eng.Node},a≤t.size→(∀n∈acc,SizeN (4*t.size) n)→rowR t val obj m a k acc names=.ok b x→∀n∈x.2,SizeN (4*t.size) n
 | 0,a,k,acc,names,b,x,ha,hacc,h=>by cases h
 | m+1,a,k,acc,names,b,x,ha,hacc,h=>by
  unfold rowR at h;split at h
  ·cases h
  ·rename_i b1 x1 h1;have h2:=qEv hv ha h1;have h3:=itemR_size hv hz ha h1;have h4:=qAy t b1;have h5:=qAo t b1 h2.2.1;have h6:∀n∈acc++x1.2,SizeN (4*t.size) n:=fun n hn=>(List.mem_append.1 hn).elim (hacc n) (h3 n)
   split at h
   ·cases h;exact h6
   ·split at h
    ·have h5:=qAi (t:=t) (a:=qAm t b1) (by omega);exact rowR_size hv hz (qAo t _ (by omega)) h6 h
    ·cases h
theorem valR_size (t:BA):∀d,SizeAt t (valR t d)
 | 0=>fun a b l ha h=>by
  unfold valR at h;split at h
  ·cases h
  ·exact scalR_size t a b l ha h
 | d+1=>fun a b l ha h=>by
  unfold valR at h;split at h
  ·have hlt:=qAi (t:=t) (a:=a) (by omega);unfold boxR at h;have hd:∀(obj:Bool) (k:Nat),k≤t.size→SizeN (4*t.size) (nd0 (kindC obj) ⟨#[]⟩ false 0 (k:Int)):=fun obj k hk=>⟨by show (0:Nat)≤_; omega,by show (0:Nat)≤_; omega,by show (0:Int)≤(k:Int); omega,by show (k:Int)≤_; omega,by show 1≤kindC obj; cases obj <;> decide,by show kindC obj≤7; cases obj <;> decide⟩
   split at h
   ·cases h;intro n hn;simp only [List.mem_singleton] at hn;subst hn;exact hd _ 0 (by omega)
   ·split at h
    ·cases h
    ·rename_i b1 x h1;cases h;have k2:=qAo t (a+1) (by omega);have h2:=rowR_adv (qBx t d) k2 h1;have h3:=rowR_size (qBx t d) (valR_size t d) k2 (by intro n hn; cases hn) h1;intro n hn;rcases List.mem_cons.1 hn with rfl | hn
     ·exact hd _ _ (by omega)
     ·exact h3 n hn
  ·exact scalR_size t a b l ha h
theorem readR_size {t:BA} {b:Nat} {l:List Eng.Node} (h:qCx t=.ok b l):∀n∈l,SizeN (4*t.size) n:=by
 unfold qCx at h;have k:=qAo t 0 (by omega);split at h
 ·cases h
 ·rename_i h1;split at h
  ·cases h
  ·cases h;exact valR_size t 32 _ _ _ k h1
theorem scalR_code {t:BA} {a b:Nat} {c:Int} (h:qCa t a=.bad c b):c≠0:=by
 unfold qCa at h;split at h
 ·split at h
  ·rename_i h1;have:=quoR_code h1;cases h;omega
  ·cases h
 ·split at h
  ·split at h
   ·rename_i h1;cases h;unfold numR at h1;split at h1
    ·rename_i h2;cases h1;unfold qGj at h2;split at h2
     ·cases h2
     ·have:=digR_code h2; omega
    ·split at h1
     ·rename_i h2;cases h1;unfold dotR at h2;split at h2
      ·have:=digR_code h2; omega
      ·cases h2
     ·unfold powR at h1;split at h1
      ·have:=digR_code h1; omega
      ·cases h1
   ·cases h
  ·repeat' split at h
   all_goals first
    | (cases h; done)
    | (rename_i h1; have:=litR_code h1; cases h; omega)
    | (cases h; decide)
theorem itemR_code {t:BA} {val:Nat→Rd (List Eng.Node)} (hv:∀a b c,val a=.bad c b→c≠0) {obj:Bool} {names:List BA} {a b:Nat} {c:Int} (h:qCb t val obj names a=.bad c b):c≠0:=by
 unfold qCb at h;split at h
 ·split at h
  ·split at h
   ·rename_i h1;have:=quoR_code h1;cases h;omega
   ·split at h
    ·cases h; decide
    ·split at h
     ·split at h
      ·rename_i h1;cases h;exact hv _ _ _ h1
      ·cases h
     ·cases h; decide
  ·cases h; decide
 ·split at h
  ·rename_i h1;cases h;exact hv _ _ _ h1
  ·cases h
theorem rowR_code {t:BA} {val:Nat→Rd (List Eng.Node)} (hv:∀a b c,val a=.bad c b→c≠0) {obj:Bool}:∀ {m a k:Nat} {acc:List Eng.Node} {names:List BA} {b:Nat} {c:Int},rowR t val obj m a k acc names=.bad c b→c≠0
 | 0,a,k,acc,names,b,c,h=>by cases h; decide
 | m+1,a,k,acc,names,b,c,h=>by
  unfold rowR at h;split at h
  ·rename_i h1;cases h;exact itemR_code hv h1
  ·split at h
   ·cases h
   ·split at h
    ·exact rowR_code hv h
    ·cases h; decide
theorem valR_code {t:BA}:∀(d a b:Nat) (c:Int),valR t d a=.bad c b→c≠0
 | 0,a,b,c,h=>by
  unfold valR at h;split at h
  ·cases h; decide
  ·exact scalR_code h
 | d+1,a,b,c,h=>by
  unfold valR at h;split at h
  ·unfold boxR at h;split at h
   ·cases h
   ·split at h
    ·rename_i h1;cases h;exact rowR_code (valR_code d) h1
    ·cases h
  ·exact scalR_code h
theorem parseR_cases (t:BA):(∃l,qD0 t=(l,0,0)∧t.size≤262144∧qCx t=.ok t.size l∧l≠[]∧l.length≤t.size∧Tree l 0 l.length∧∀n∈l,SizeN 1048576 n)∨(∃c b,qD0 t=([],c,b)∧c≠0):=by
 unfold qD0;by_cases hs:262144<t.size
 ·rw [if_pos hs];exact .inr ⟨10,0,rfl,by decide⟩
 ·rw [if_neg hs];cases h:qCx t with
  | bad c b =>
   refine .inr ⟨c,b,rfl,?_⟩;unfold qCx at h;split at h
   ·rename_i h1;cases h;exact valR_code _ _ _ _ h1
   ·split at h
    ·cases h; decide
    ·cases h
  | ok b l =>
   have hb:b=t.size:=by
    unfold qCx at h;have k:=qAo t 0 (by omega);split at h
    ·cases h
    ·rename_i h1;have h2:=qBx t 32 _ _ _ k h1;have:=qAo t _ h2.2.1;split at h
     ·cases h
     ·cases h;omega
   subst hb;exact .inl ⟨l,rfl,by omega,rfl,(readR_len h).1,(readR_len h).2,readR_tree h,fun n hn=>(readR_size h n hn).mono (by omega)⟩
theorem digR_place {t:BA} {a b:Nat} {c:Int} (ha:a≤t.size) (h:digR t a=.bad c b):b≤t.size:=by
 unfold digR at h;split at h
 ·cases h; exact ha
 ·cases h
theorem litR_place {t:BA}:∀ {w:List Int} {a b:Nat} {c:Int},(∀x∈w,0≤x)→a≤t.size→litR t w a=.bad c b→b≤t.size
 | [],a,b,c,_,ha,h=>by cases h
 | x::w,a,b,c,hw,ha,h=>by
  unfold litR at h;split at h
  ·rename_i h1;have:=qAi (t:=t) (a:=a) (by rw [h1]; exact hw x List.mem_cons_self);exact litR_place (fun y hy=>hw y (List.mem_cons_of_mem _ hy)) this h
  ·cases h; exact ha
theorem fourR_place {t:BA} {half:Bool} {f:Nat} (hf:f≤t.size):∀ {m i a b:Nat} {u c:Int},qBt t half f m i a u=.bad c b→b≤t.size
 | 0,i,a,b,u,c,h=>by cases h
 | m+1,i,a,b,u,c,h=>by
  unfold qBt at h;split at h
  ·cases h; exact Nat.le_refl _
  ·split at h
   ·cases h; exact hf
   ·exact fourR_place hf h
theorem escR_place {t:BA} {a b:Nat} {c:Int} (ha:a≤t.size) (h:escR t a=.bad c b):b≤t.size:=by
 unfold escR at h;split at h
 ·cases h; exact Nat.le_refl _
 ·split at h
  ·split at h
   ·rename_i h1;cases h;exact fourR_place ha h1
   ·split at h
    ·cases h
    ·unfold qG1 at h;repeat' split at h
     all_goals first
      | (cases h; done)
      | (cases h; exact Nat.le_refl _)
      | (cases h; exact ha)
      | skip
     rename_i h1;cases h;exact fourR_place ha h1
  ·split at h
   ·cases h; exact ha
   ·cases h
theorem qG5 {t:BA}:∀ {n a b:Nat} {acc:List Int} {c:Int},a≤t.size→quoR t n a acc=.bad c b→b≤t.size
 | 0,a,b,acc,c,ha,h=>by cases h; exact ha
 | n+1,a,b,acc,c,ha,h=>by
  unfold quoR at h;split at h
  ·cases h; exact ha
  ·rename_i h0;have hlt:=qAi (t:=t) (a:=a) (by omega);split at h
   ·cases h
   ·split at h
    ·split at h
     ·rename_i h1;cases h;exact escR_place ha h1
     ·rename_i h1;exact qG5 (qDx h1).2.1 h
    ·split at h
     ·exact qG5 hlt h
     ·split at h
      ·rename_i hk;have hw:=qC1 hlt (by have:=qCu hlt; omega) hk;exact qG5 hw.1 h
      ·cases h;split
       ·exact Nat.le_refl _
       ·exact ha
theorem numR_place {t:BA} {a b:Nat} {c:Int} (ha:a<t.size) (h:numR t a=.bad c b):b≤t.size:=by
 have hs:a≤qDq t a∧qDq t a≤t.size:=by unfold qDq; split <;> omega
 unfold numR at h;split at h
 ·rename_i h1;cases h;unfold qGj at h1;split at h1
  ·cases h1
  ·exact digR_place hs.2 h1
 ·rename_i b1 x1 h1;have z1:=qFp hs.2 h1;split at h
  ·rename_i h2;cases h;unfold dotR at h2;split at h2
   ·have:=qAi (t:=t) (a:=b1) (by omega);exact digR_place (by omega) h2
   ·cases h2
  ·rename_i b2 x2 h2;have z2:=dotR_adv z1.2 h2;unfold powR at h;split at h
   ·have:=qAi (t:=t) (a:=b2) (by omega);refine digR_place ?_ h;split
    ·have:=qAi (t:=t) (a:=b2+1) (by omega);omega
    ·omega
   ·cases h
def PlaceAt (t:BA) (val:Nat→Rd (List Eng.Node)):Prop:=∀a b c,a≤t.size→val a=.bad c b→b≤t.size
theorem scalR_place (t:BA):PlaceAt t (qCa t):=by
 intro a b c ha h;unfold qCa at h;split at h
 ·have:=qAi (t:=t) (a:=a) (by omega);split at h
  ·rename_i h1;cases h;exact qG5 this h1
  ·cases h
 ·split at h
  ·have:=qAi (t:=t) (a:=a) (by omega);split at h
   ·rename_i h1;cases h;exact numR_place this h1
   ·cases h
  ·split at h
   ·split at h
    ·rename_i h1;cases h;exact litR_place (by decide) ha h1
    ·cases h
   ·split at h
    ·split at h
     ·rename_i h1;cases h;exact litR_place (by decide) ha h1
     ·cases h
    ·split at h
     ·split at h
      ·rename_i h1;cases h;exact litR_place (by decide) ha h1
      ·cases h
     ·cases h; exact ha
theorem itemR_place {t:BA} {val:Nat→Rd (List Eng.Node)} (hp:PlaceAt t val) {obj:Bool} {names:List BA} {a b:Nat} {c:Int} (ha:a≤t.size) (h:qCb t val obj names a=.bad c b):b≤t.size:=by
 unfold qCb at h;split at h
 ·split at h
  ·have:=qAi (t:=t) (a:=a) (by omega);split at h
   ·rename_i h1;cases h;exact qG5 this h1
   ·rename_i b1 l1 h1;have h2:=qDu h1 (by simp);have k2:=qAo t b1 h2.2.1;split at h
    ·cases h; exact ha
    ·split at h
     ·have h3:=qAi (t:=t) (a:=qAm t b1) (by omega);have k4:=qAo t (qAm t b1+1) (by omega);split at h
      ·rename_i h5;cases h;exact hp _ _ _ k4 h5
      ·cases h
     ·cases h; exact k2
  ·cases h; exact ha
 ·split at h
  ·rename_i h1;cases h;exact hp _ _ _ ha h1
  ·cases h
theorem rowR_place {t:BA} {val:Nat→Rd (List Eng.Node)} (hv:Adv t val) (hp:PlaceAt t val) {obj:Bool}:∀ {m a k:Nat} {acc:List Eng.Node} {names:List BA} {b:Nat} {c:Int},a≤t.size→rowR t val obj m a k acc names=.bad c b→b≤t.size
 | 0,a,k,acc,names,b,c,ha,h=>by cases h; exact ha
 | m+1,a,k,acc,names,b,c,ha,h=>by
  unfold rowR at h;split at h
  ·rename_i h1;cases h;exact itemR_place hp ha h1
  ·rename_i b1 x1 h1;have h2:=qEv hv ha h1;have k2:=qAo t b1 h2.2.1;split at h
   ·cases h
   ·split at h
    ·have h3:=qAi (t:=t) (a:=qAm t b1) (by omega);exact rowR_place hv hp (qAo t _ (by omega)) h
    ·cases h; exact k2
theorem valR_place (t:BA):∀d,PlaceAt t (valR t d)
 | 0=>fun a b c ha h=>by
  unfold valR at h;split at h
  ·cases h; exact ha
  ·exact scalR_place t a b c ha h
 | d+1=>fun a b c ha h=>by
  unfold valR at h;split at h
  ·have hlt:=qAi (t:=t) (a:=a) (by omega);unfold boxR at h;split at h
   ·cases h
   ·split at h
    ·rename_i h1;cases h;exact rowR_place (qBx t d) (valR_place t d) (qAo t _ (by omega)) h1
    ·cases h
  ·exact scalR_place t a b c ha h
theorem readR_place {t:BA} {b:Nat} {c:Int} (h:qCx t=.bad c b):b≤t.size:=by
 unfold qCx at h;have k:=qAo t 0 (by omega);split at h
 ·rename_i h1;cases h;exact valR_place t 32 _ _ _ k h1
 ·rename_i b1 l1 h1;have h2:=qBx t 32 _ _ _ k h1;split at h
  ·cases h; omega
  ·cases h
theorem contN_ext {n n':Nat} {b b':Nat→Nat}:∀ {m i lo hi:Nat},qEk n b m i lo hi=0→(∀k,k<i+m→b' k=b k)→i+m≤n'→qEk n' b' m i lo hi=0
 | 0,_,_,_,_,_,_=>rfl
 | m+1,i,lo,hi,h,hb,hn=>by
  unfold qEk at h ⊢;rw [if_neg (by omega),hb i (by omega)];split at h
  ·cases h
  ·split at h
   ·cases h
   ·rename_i h2;rw [if_neg h2];exact contN_ext h (fun k hk=>hb k (by omega)) (by omega)
theorem seqK_ext {t s:BA} {a b:Nat} (ha:a<t.size) (h8:128≤by8 t a) (h:seqK t a=0) (hb:∀k,k<seqW t a→by8 s (b+k)=by8 t (a+k)) (hn:b+seqW t a≤s.size):seqK s b=0∧seqW s b=seqW t a:=by
 have hw:=qC1 ha h8 h;have h0:=hb 0 (by omega);simp only [Nat.add_zero] at h0;have hwe:seqW s b=seqW t a:=by unfold seqW; rw [h0]
 refine ⟨?_,hwe⟩;unfold seqK at h ⊢;unfold seqW at hw hn hb;rw [h0];split at h
 ·cases h
 ·rename_i h1;rw [if_neg h1];exact contN_ext h (fun k hk=>hb k (by omega)) (by omega)
def ValidI (l:List Int):Prop:=Lib.validD (l.map fun n=>UInt8.ofNat n.toNat)=true
theorem ValidI.nil:ValidI []:=rfl
section
variable {t:BA} {a b:Nat} (hb:b≤t.size)
include hb
end
theorem pB_num {n:Eng.Node} (hn:n.text.size≤3000000) (h4:n.kind=4) (hk:n.kids=0) (hv:qDl n.text=true) (hw:n.whole=(qCk n.text).2) (hi:n.int=(qCk n.text).1):pB n=true:=by
 unfold pB zan_s;rw [p_Valid _ hn,whole_j _ hn,hv,h4,hk,hw,hi];simp
theorem pB_str {n:Eng.Node} (hn:n.text.size≤3000000) (h5:n.kind=5) (hk:n.kids=0) (hw:n.whole=false) (hi:n.int=0) (hv:Lib.validD n.text.data.toList=true):pB n=true:=by
 have hu:qBb n.text=some (Lib.validD n.text.data.toList):=qAa (by omega) _;unfold pB zan_s;rw [hu,h5,hk,hw,hi,hv];rfl
theorem pB_bare {n:Eng.Node} (h1:n.kind=1∨n.kind=2∨n.kind=3) (hk:n.kids=0) (hw:n.whole=false) (hi:n.int=0) (ht:n.text=⟨#[]⟩):pB n=true:=by
 unfold pB zan_s;rw [hk,hw,hi,ht];rcases h1 with h1 | h1 | h1 <;> rw [h1] <;> rfl
theorem pB_box {n:Eng.Node} (h1:n.kind=6∨n.kind=7) (hk:0≤n.kids) (hw:n.whole=false) (hi:n.int=0) (ht:n.text=⟨#[]⟩):pB n=true:=by
 unfold pB zan_s;rw [hw,hi,ht];rcases h1 with h1 | h1
 ·rw [h1,deF (show ¬n.kids<0 by omega)];simp
 ·rw [h1,deF (show ¬n.kids<0 by omega)];simp
end Go.Proofs.YtdcoiccdbgcpaaaDoor
