/-
  Texts of a claim.
-/
import Derived.Test.YtnifdcmeffnpaaaGreatDoorPFind
namespace Go.Proofs.YtnifdcmeffnpaaaGreatDoor
open Go.Eng
set_option linter.unusedVariables false
set_option linter.unusedSimpArgs false
def TreeAt (val:Nat→Rd (List Eng.Node)):Prop:=∀a b l,val a=.ok b l→∀(k:BA) (pre post:List Eng.Node),Tree (pre++qFl k l++post) pre.length (pre.length+l.length)
theorem at_pre (pre post:List Eng.Node) (n:Eng.Node) (l:List Eng.Node):(pre++(n::l)++post)[pre.length]?=some n:=by
 rw [List.append_assoc,List.getElem?_append_right (Nat.le_refl _),Nat.sub_self];rfl
theorem leaf_tree (pre post:List Eng.Node) (n:Eng.Node) (h:n.kids=0):Tree (pre++[n]++post) pre.length (pre.length+1) :=
 Tree.mk (at_pre pre post n []) (by omega) (by rw [h]; exact Trees.nil _ (by simp))
theorem scalR_tree (t:BA):TreeAt (qFp t):=by
 intro a b l h k pre post;unfold qFp at h;repeat' split at h
 all_goals first
  | (cases h; done)
  | (cases h; exact leaf_tree pre post _ rfl)
theorem setKey_self:∀l:List Eng.Node,∃k,qFl k l=l
 | []=>⟨⟨#[]⟩,rfl⟩
 | n::r=>⟨n.key,rfl⟩
theorem itemR_set {t:BA} {val:Nat→Rd (List Eng.Node)} {obj:Bool} {names:List BA} {a b:Nat} {x:BA × List Eng.Node} (h:qE7 t val obj names a=.ok b x):∃a' l k,val a'=.ok b l∧x.2=qFl k l:=by
 unfold qE7 at h;repeat' split at h
 all_goals first
  | (cases h; done)
  | skip
 ·rename_i h7;cases h;exact ⟨_,_,_,h7,rfl⟩
 ·rename_i b1 l1 h7;cases h;obtain ⟨k,hk⟩:=setKey_self l1;exact ⟨_,_,k,h7,hk.symm⟩
theorem rowR_trees {t:BA} {val:Nat→Rd (List Eng.Node)} (hv:TreeAt val) {obj:Bool}:∀ {m a k:Nat} {acc:List Eng.Node} {names:List BA} {b:Nat} {x:Nat × List Eng.Node},rowR t val obj m a k acc names=.ok b x →
  ∃(j:Nat) (more:List Eng.Node),x.1=k+j∧x.2=acc++more∧∀pre post,Trees (pre++more++post) j pre.length (pre.length+more.length)
 | 0,a,k,acc,names,b,x,h=>by cases h
 | m+1,a,k,acc,names,b,x,h=>by
  unfold rowR at h;split at h
  ·cases h
  ·rename_i b1 y h1;obtain ⟨a',l,kk,hl,hy⟩:=itemR_set h1;have hlen:y.2.length=l.length:=by rw [hy,setKey_len]
   have ht:∀pre post,Tree (pre++y.2++post) pre.length (pre.length+y.2.length):=fun pre post=>by
    rw [hlen,hy];exact hv _ _ _ hl kk pre post
   split at h
   ·cases h;exact ⟨1,y.2,rfl,rfl,ht⟩
   ·split at h
    ·obtain ⟨j,more,e1,e2,h3⟩:=rowR_trees hv h;refine ⟨j+1,y.2++more,by omega,by rw [e2,List.append_assoc],fun pre post=>?_⟩;have h4:=ht pre (more++post);have h5:=h3 (pre++y.2) post;rw [List.length_append] at h5;have e3:pre++(y.2++more)++post=pre++y.2++(more++post):=by simp
     have e4:pre++y.2++more++post=pre++y.2++(more++post):=by simp
     rw [e4] at h5;rw [e3,List.length_append,show pre.length+(y.2.length+more.length)=pre.length+y.2.length+more.length by omega];exact Trees.app h4 h5
    ·cases h
theorem boxR_tree {t:BA} {val:Nat→Rd (List Eng.Node)} (hv:TreeAt val) {obj:Bool} {a b:Nat} {l:List Eng.Node} (h:boxR t val obj a=.ok b l) (k:BA) (pre post:List Eng.Node):Tree (pre++qFl k l++post) pre.length (pre.length+l.length):=by
 unfold boxR at h;split at h
 ·cases h;exact leaf_tree pre post _ rfl
 ·split at h
  ·cases h
  ·rename_i b1 x h1;cases h;obtain ⟨j,more,e1,e2,h3⟩:=rowR_trees hv h1;simp only [List.nil_append,Nat.zero_add] at e1 e2;rw [e1,e2];have h4:=h3 (pre++[setK k (nd0 (qGe obj) ⟨#[]⟩ false 0 (j:Int))]) post;have e3:pre++[setK k (nd0 (qGe obj) ⟨#[]⟩ false 0 (j:Int))]++more++post=pre++(setK k (nd0 (qGe obj) ⟨#[]⟩ false 0 (j:Int))::more)++post:=by simp
   rw [e3,List.length_append,List.length_singleton] at h4;refine Tree.mk (n:=setK k (nd0 (qGe obj) ⟨#[]⟩ false 0 (j:Int))) (at_pre pre post _ more) (show (0:Int)≤(j:Int) by omega) ?_;show Trees _ (Int.toNat (j:Int)) _ _;rw [Int.toNat_natCast,List.length_cons,show pre.length+(more.length+1)=pre.length+1+more.length by omega];exact h4
theorem valR_tree (t:BA):∀d,TreeAt (valR t d)
 | 0=>fun a b l h k pre post=>by
  unfold valR at h;split at h
  ·cases h
  ·exact scalR_tree t a b l h k pre post
 | d+1=>fun a b l h k pre post=>by
  unfold valR at h;split at h
  ·exact boxR_tree (valR_tree t d) h k pre post
  ·exact scalR_tree t a b l h k pre post
theorem readR_tree {t:BA} {b:Nat} {l:List Eng.Node} (h:readR t=.ok b l):Tree l 0 l.length:=by
 unfold readR at h;split at h
 ·cases h
 ·rename_i b1 l1 h1;split at h
  ·cases h
  ·cases h;have:=valR_tree t 32 _ _ _ h1 ⟨#[]⟩ [] [];rw [valR_key h1,List.nil_append,List.append_nil,List.length_nil,Nat.zero_add] at this;exact this
def SizeN (m:Nat) (n:Eng.Node):Prop:=n.key.size≤m∧n.text.size≤m∧0≤n.kids∧n.kids≤m∧1≤n.kind∧n.kind≤7
theorem SizeN.mono {m m':Nat} (h:m≤m') {n:Eng.Node} (hn:SizeN m n):SizeN m' n:=by
 unfold SizeN at *
 omega
def SizeAt (t:BA) (val:Nat→Rd (List Eng.Node)):Prop:=∀a b l,a≤t.size→val a=.ok b l→∀n∈l,SizeN (4*t.size) n
theorem bytesI_size {l:List Int}:(qAw l).size=l.length:=by
 rw [bytesI_eq];show (l.map _).toArray.size=_;simp
theorem scalR_size (t:BA):SizeAt t (qFp t):=by
 intro a b l ha h n hn;unfold qFp at h;split at h
 ·have:=qA7 (t:=t) (a:=a) (by omega);split at h
  ·cases h
  ·rename_i h1;have h2:=quoR_ok h1 (by simp);cases h;simp only [List.mem_singleton] at hn;subst hn;refine ⟨by show (0:Nat)≤_; omega,?_,by show (0:Int)≤0; omega,by show (0:Int)≤_; omega,by show (1:Int)≤5; omega,by show (5:Int)≤7; omega⟩;show (qAw _).size≤_;rw [bytesI_size];have:=h2.2.2.2;simp only [List.length_nil,Nat.zero_add] at this;omega
 ·split at h
  ·split at h
   ·cases h
   ·cases h;simp only [List.mem_singleton] at hn;subst hn;refine ⟨by show (0:Nat)≤_; omega,?_,by show (0:Int)≤0; omega,by show (0:Int)≤_; omega,by show (1:Int)≤4; omega,by show (4:Int)≤7; omega⟩;show (t.extract _ _).size≤_;rw [ByteArray.size_extract];omega
  ·have lit:∀k:Int,1≤n.kind∧n.kind≤7→n=nd0 k ⟨#[]⟩ false 0 0→SizeN (4*t.size) n:=fun k hk e=>by
    subst e;exact ⟨by show (0:Nat)≤_; omega,by show (0:Nat)≤_; omega,by show (0:Int)≤0; omega,by show (0:Int)≤_; omega,hk.1,hk.2⟩
   repeat' split at h
   all_goals first
    | (cases h; done)
    | (cases h; have hn:=List.mem_singleton.1 hn; exact lit _ ⟨by rw [hn]; show (1:Int)≤_; decide,by rw [hn]; show _≤(7:Int); decide⟩ (hn.trans rfl))
theorem setKey_size {m:Nat} {k:BA} (hk:k.size≤m) {l:List Eng.Node} (h:∀n∈l,SizeN m n):∀n∈qFl k l,SizeN m n:=by
 cases l with
 | nil=>intro n hn; cases hn
 | cons x r =>
  intro n hn;rcases List.mem_cons.1 hn with rfl | hn
  ·have:=h x List.mem_cons_self;exact ⟨hk,this.2.1,this.2.2⟩
  ·exact h n (List.mem_cons_of_mem _ hn)
theorem itemR_size {t:BA} {val:Nat→Rd (List Eng.Node)} (hv:Adv t val) (hz:SizeAt t val) {obj:Bool} {names:List BA} {a b:Nat} {x:BA × List Eng.Node} (ha:a≤t.size) (h:qE7 t val obj names a=.ok b x):∀n∈x.2,SizeN (4*t.size) n:=by
 unfold qE7 at h;split at h
 ·split at h
  ·have:=qA7 (t:=t) (a:=a) (by omega);split at h
   ·cases h
   ·rename_i b1 l h1;have h2:=quoR_ok h1 (by simp);split at h
    ·cases h
    ·split at h
     ·rename_i hc;have h3:=qA7 (t:=t) (a:=qAt t b1) (by omega);have h4:=qBy t b1;have h6:=qBh t (qAt t b1+1) (by omega);split at h
      ·cases h
      ·rename_i h7;have h8:=hz _ _ _ h6 h7;cases h;refine setKey_size ?_ h8;rw [bytesI_size];have:=h2.2.2.2;simp only [List.length_nil,Nat.zero_add] at this;omega
     ·cases h
  ·cases h
 ·split at h
  ·cases h
  ·rename_i h7;cases h;exact hz _ _ _ ha h7
theorem rowR_size {t:BA} {val:Nat→Rd (List Eng.Node)} (hv:Adv t val) (hz:SizeAt t val) {obj:Bool}:∀ {m a k:Nat} {acc:List Eng.Node} {names:List BA} {b:Nat} {x:Nat × List Eng.Node},a≤t.size→(∀n∈acc,SizeN (4*t.size) n)→rowR t val obj m a k acc names=.ok b x→∀n∈x.2,SizeN (4*t.size) n
 | 0,a,k,acc,names,b,x,ha,hacc,h=>by cases h
 | m+1,a,k,acc,names,b,x,ha,hacc,h=>by
  unfold rowR at h;split at h
  ·cases h
  ·rename_i b1 x1 h1;have h2:=itemR_adv hv ha h1;have h3:=itemR_size hv hz ha h1;have h4:=qBy t b1;have h5:=qBh t b1 h2.2.1;have h6:∀n∈acc++x1.2,SizeN (4*t.size) n:=fun n hn=>(List.mem_append.1 hn).elim (hacc n) (h3 n)
   split at h
   ·cases h;exact h6
   ·split at h
    ·have h5:=qA7 (t:=t) (a:=qAt t b1) (by omega);exact rowR_size hv hz (qBh t _ (by omega)) h6 h
    ·cases h
theorem valR_size (t:BA):∀d,SizeAt t (valR t d)
 | 0=>fun a b l ha h=>by
  unfold valR at h;split at h
  ·cases h
  ·exact scalR_size t a b l ha h
 | d+1=>fun a b l ha h=>by
  unfold valR at h;split at h
  ·have hlt:=qA7 (t:=t) (a:=a) (by omega);unfold boxR at h;have hd:∀(obj:Bool) (k:Nat),k≤t.size→SizeN (4*t.size) (nd0 (qGe obj) ⟨#[]⟩ false 0 (k:Int)):=fun obj k hk=>⟨by show (0:Nat)≤_; omega,by show (0:Nat)≤_; omega,by show (0:Int)≤(k:Int); omega,by show (k:Int)≤_; omega,by show 1≤qGe obj; cases obj <;> decide,by show qGe obj≤7; cases obj <;> decide⟩
   split at h
   ·cases h;intro n hn;simp only [List.mem_singleton] at hn;subst hn;exact hd _ 0 (by omega)
   ·split at h
    ·cases h
    ·rename_i b1 x h1;cases h;have k2:=qBh t (a+1) (by omega);have h2:=rowR_adv (qEv t d) k2 h1;have h3:=rowR_size (qEv t d) (valR_size t d) k2 (by intro n hn; cases hn) h1;intro n hn;rcases List.mem_cons.1 hn with rfl | hn
     ·exact hd _ _ (by omega)
     ·exact h3 n hn
  ·exact scalR_size t a b l ha h
theorem readR_size {t:BA} {b:Nat} {l:List Eng.Node} (h:readR t=.ok b l):∀n∈l,SizeN (4*t.size) n:=by
 unfold readR at h;have k:=qBh t 0 (by omega);split at h
 ·cases h
 ·rename_i h1;split at h
  ·cases h
  ·cases h;exact valR_size t 32 _ _ _ k h1
theorem scalR_code {t:BA} {a b:Nat} {c:Int} (h:qFp t a=.bad c b):c≠0:=by
 unfold qFp at h;split at h
 ·split at h
  ·rename_i h1;have:=quoR_code h1;cases h;omega
  ·cases h
 ·split at h
  ·split at h
   ·rename_i h1;cases h;unfold numR at h1;split at h1
    ·rename_i h2;cases h1;unfold zeroR at h2;split at h2
     ·cases h2
     ·have:=qDk h2; omega
    ·split at h1
     ·rename_i h2;cases h1;unfold dotR at h2;split at h2
      ·have:=qDk h2; omega
      ·cases h2
     ·unfold powR at h1;split at h1
      ·have:=qDk h1; omega
      ·cases h1
   ·cases h
  ·repeat' split at h
   all_goals first
    | (cases h; done)
    | (rename_i h1; have:=litR_code h1; cases h; omega)
    | (cases h; decide)
theorem itemR_code {t:BA} {val:Nat→Rd (List Eng.Node)} (hv:∀a b c,val a=.bad c b→c≠0) {obj:Bool} {names:List BA} {a b:Nat} {c:Int} (h:qE7 t val obj names a=.bad c b):c≠0:=by
 unfold qE7 at h;split at h
 ·split at h
  ·split at h
   ·rename_i h1;have:=quoR_code h1;cases h;omega
   ·split at h
    ·cases h; decide
    ·split at h
     ·split at h
      ·rename_i h1;cases h;exact hv _ _ _ h1
      ·cases h
     ·cases h; decide
  ·cases h; decide
 ·split at h
  ·rename_i h1;cases h;exact hv _ _ _ h1
  ·cases h
theorem rowR_code {t:BA} {val:Nat→Rd (List Eng.Node)} (hv:∀a b c,val a=.bad c b→c≠0) {obj:Bool}:∀ {m a k:Nat} {acc:List Eng.Node} {names:List BA} {b:Nat} {c:Int},rowR t val obj m a k acc names=.bad c b→c≠0
 | 0,a,k,acc,names,b,c,h=>by cases h; decide
 | m+1,a,k,acc,names,b,c,h=>by
  unfold rowR at h;split at h
  ·rename_i h1;cases h;exact itemR_code hv h1
  ·split at h
   ·cases h
   ·split at h
    ·exact rowR_code hv h
    ·cases h; decide
theorem valR_code {t:BA}:∀(d a b:Nat) (c:Int),valR t d a=.bad c b→c≠0
 | 0,a,b,c,h=>by
  unfold valR at h;split at h
  ·cases h; decide
  ·exact scalR_code h
 | d+1,a,b,c,h=>by
  unfold valR at h;split at h
  ·unfold boxR at h;split at h
   ·cases h
   ·split at h
    ·rename_i h1;cases h;exact rowR_code (valR_code d) h1
    ·cases h
  ·exact scalR_code h
theorem parseR_cases (t:BA):(∃l,parseR t=(l,0,0)∧t.size≤262144∧readR t=.ok t.size l∧l≠[]∧l.length≤t.size∧Tree l 0 l.length∧∀n∈l,SizeN 1048576 n)∨(∃c b,parseR t=([],c,b)∧c≠0):=by
 unfold parseR;by_cases hs:262144<t.size
 ·rw [if_pos hs];exact .inr ⟨10,0,rfl,by decide⟩
 ·rw [if_neg hs];cases h:readR t with
  | bad c b =>
   refine .inr ⟨c,b,rfl,?_⟩;unfold readR at h;split at h
   ·rename_i h1;cases h;exact valR_code _ _ _ _ h1
   ·split at h
    ·cases h; decide
    ·cases h
  | ok b l =>
   have hb:b=t.size:=by
    unfold readR at h;have k:=qBh t 0 (by omega);split at h
    ·cases h
    ·rename_i h1;have h2:=qEv t 32 _ _ _ k h1;have:=qBh t _ h2.2.1;split at h
     ·cases h
     ·cases h;omega
   subst hb;exact .inl ⟨l,rfl,by omega,rfl,(readR_len h).1,(readR_len h).2,readR_tree h,fun n hn=>(readR_size h n hn).mono (by omega)⟩
end Go.Proofs.YtnifdcmeffnpaaaGreatDoor
