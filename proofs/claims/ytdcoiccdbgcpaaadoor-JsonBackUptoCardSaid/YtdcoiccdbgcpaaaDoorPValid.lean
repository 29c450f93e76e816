/-
  A string that is read is well formed UTF-8; a number that is read is a number. No program.
-/
import Derived.Test.YtdcoiccdbgcpaaaDoorPFind
namespace Go.Proofs.YtdcoiccdbgcpaaaDoor
open Go.Eng
set_option linter.unusedVariables false
set_option linter.unusedSimpArgs false
def TreeAt (val:Nat→Rd (List Eng.Node)):Prop:=∀a b l,val a=.ok b l→∀(k:ByteArray) (pre post:List Eng.Node),Tree (pre++qBu k l++post) pre.length (pre.length+l.length)
theorem at_pre (pre post:List Eng.Node) (n:Eng.Node) (l:List Eng.Node):(pre++(n::l)++post)[pre.length]?=some n:=by
 rw [List.append_assoc,List.getElem?_append_right (Nat.le_refl _),Nat.sub_self]
 rfl
theorem leaf_tree (pre post:List Eng.Node) (n:Eng.Node) (h:n.kids=0):Tree (pre++[n]++post) pre.length (pre.length+1) :=
 Tree.mk (at_pre pre post n []) (by omega) (by rw [h]; exact Trees.nil _ (by simp))
theorem scalR_tree (t:ByteArray):TreeAt (scalR t):=by
 intro a b l h k pre post
 unfold scalR at h
 repeat' split at h
 all_goals first
  | (cases h; done)
  | (cases h; exact leaf_tree pre post _ rfl)
theorem setKey_self:∀l:List Eng.Node,∃k,qBu k l=l
 | []=>⟨⟨#[]⟩,rfl⟩
 | n::r=>⟨n.key,rfl⟩
theorem itemR_set {t:ByteArray} {val:Nat→Rd (List Eng.Node)} {obj:Bool} {names:List ByteArray} {a b:Nat} {x:ByteArray × List Eng.Node} (h:itemR t val obj names a=.ok b x):∃a' l k,val a'=.ok b l∧x.2=qBu k l:=by
 unfold itemR at h
 repeat' split at h
 all_goals first
  | (cases h; done)
  | skip
 ·rename_i h7
  cases h
  exact ⟨_,_,_,h7,rfl⟩
 ·rename_i b1 l1 h7
  cases h
  obtain ⟨k,hk⟩:=setKey_self l1
  exact ⟨_,_,k,h7,hk.symm⟩
theorem rowR_trees {t:ByteArray} {val:Nat→Rd (List Eng.Node)} (hv:TreeAt val) {obj:Bool}:∀ {m a k:Nat} {acc:List Eng.Node} {names:List ByteArray} {b:Nat} {x:Nat × List Eng.Node},rowR t val obj m a k acc names=.ok b x →
  ∃(j:Nat) (more:List Eng.Node),x.1=k+j∧x.2=acc++more∧∀pre post,Trees (pre++more++post) j pre.length (pre.length+more.length)
 | 0,a,k,acc,names,b,x,h=>by cases h
 | m+1,a,k,acc,names,b,x,h=>by
  unfold rowR at h
  split at h
  ·cases h
  ·rename_i b1 y h1
   obtain ⟨a',l,kk,hl,hy⟩:=itemR_set h1
   have hlen:y.2.length=l.length:=by rw [hy,qF9]
   have ht:∀pre post,Tree (pre++y.2++post) pre.length (pre.length+y.2.length):=fun pre post=>by
    rw [hlen,hy]
    exact hv _ _ _ hl kk pre post
   split at h
   ·cases h
    exact ⟨1,y.2,rfl,rfl,ht⟩
   ·split at h
    ·obtain ⟨j,more,e1,e2,h3⟩:=rowR_trees hv h
     refine ⟨j+1,y.2++more,by omega,by rw [e2,List.append_assoc],fun pre post=>?_⟩
     have h4:=ht pre (more++post)
     have h5:=h3 (pre++y.2) post
     rw [List.length_append] at h5
     have e3:pre++(y.2++more)++post=pre++y.2++(more++post):=by simp
     have e4:pre++y.2++more++post=pre++y.2++(more++post):=by simp
     rw [e4] at h5
     rw [e3,List.length_append,show pre.length+(y.2.length+more.length)=pre.length+y.2.length+more.length by omega]
     exact Trees.app h4 h5
    ·cases h
theorem boxR_tree {t:ByteArray} {val:Nat→Rd (List Eng.Node)} (hv:TreeAt val) {obj:Bool} {a b:Nat} {l:List Eng.Node} (h:boxR t val obj a=.ok b l) (k:ByteArray) (pre post:List Eng.Node):Tree (pre++qBu k l++post) pre.length (pre.length+l.length):=by
 unfold boxR at h
 split at h
 ·cases h
  exact leaf_tree pre post _ rfl
 ·split at h
  ·cases h
  ·rename_i b1 x h1
   cases h
   obtain ⟨j,more,e1,e2,h3⟩:=rowR_trees hv h1
   simp only [List.nil_append,Nat.zero_add] at e1 e2
   rw [e1,e2]
   have h4:=h3 (pre++[setK k (nd0 (kindC obj) ⟨#[]⟩ false 0 (j:Int))]) post
   have e3:pre++[setK k (nd0 (kindC obj) ⟨#[]⟩ false 0 (j:Int))]++more++post=pre++(setK k (nd0 (kindC obj) ⟨#[]⟩ false 0 (j:Int))::more)++post:=by simp
   rw [e3,List.length_append,List.length_singleton] at h4
   refine Tree.mk (n:=setK k (nd0 (kindC obj) ⟨#[]⟩ false 0 (j:Int))) (at_pre pre post _ more) (show (0:Int)≤(j:Int) by omega) ?_
   show Trees _ (Int.toNat (j:Int)) _ _
   rw [Int.toNat_natCast,List.length_cons,show pre.length+(more.length+1)=pre.length+1+more.length by omega]
   exact h4
theorem valR_tree (t:ByteArray):∀d,TreeAt (valR t d)
 | 0=>fun a b l h k pre post=>by
  unfold valR at h
  split at h
  ·cases h
  ·exact scalR_tree t a b l h k pre post
 | d+1=>fun a b l h k pre post=>by
  unfold valR at h
  split at h
  ·exact boxR_tree (valR_tree t d) h k pre post
  ·exact scalR_tree t a b l h k pre post
theorem readR_tree {t:ByteArray} {b:Nat} {l:List Eng.Node} (h:readR t=.ok b l):Tree l 0 l.length:=by
 unfold readR at h
 split at h
 ·cases h
 ·rename_i b1 l1 h1
  split at h
  ·cases h
  ·cases h
   have:=valR_tree t 32 _ _ _ h1 ⟨#[]⟩ [] []
   rw [valR_key h1,List.nil_append,List.append_nil,List.length_nil,Nat.zero_add] at this
   exact this
def SizeN (m:Nat) (n:Eng.Node):Prop:=n.key.size≤m∧n.text.size≤m∧0≤n.kids∧n.kids≤m∧1≤n.kind∧n.kind≤7
theorem SizeN.mono {m m':Nat} (h:m≤m') {n:Eng.Node} (hn:SizeN m n):SizeN m' n:=by
 unfold SizeN at *
 omega
def SizeAt (t:ByteArray) (val:Nat→Rd (List Eng.Node)):Prop:=∀a b l,a≤t.size→val a=.ok b l→∀n∈l,SizeN (4*t.size) n
theorem qE6 {l:List Int}:(qAw l).size=l.length:=by
 rw [bytesI_eq]
 show (l.map _).toArray.size=_
 simp
theorem scalR_size (t:ByteArray):SizeAt t (scalR t):=by
 intro a b l ha h n hn
 unfold scalR at h
 split at h
 ·have:=qAt (t:=t) (a:=a) (by omega)
  split at h
  ·cases h
  ·rename_i h1
   have h2:=qEa h1 (by simp)
   cases h
   simp only [List.mem_singleton] at hn
   subst hn
   refine ⟨by show (0:Nat)≤_; omega,?_,by show (0:Int)≤0; omega,by show (0:Int)≤_; omega,by show (1:Int)≤5; omega,by show (5:Int)≤7; omega⟩
   show (qAw _).size≤_
   rw [qE6]
   have:=h2.2.2.2
   simp only [List.length_nil,Nat.zero_add] at this
   omega
 ·split at h
  ·split at h
   ·cases h
   ·cases h
    simp only [List.mem_singleton] at hn
    subst hn
    refine ⟨by show (0:Nat)≤_; omega,?_,by show (0:Int)≤0; omega,by show (0:Int)≤_; omega,by show (1:Int)≤4; omega,by show (4:Int)≤7; omega⟩
    show (t.extract _ _).size≤_
    rw [ByteArray.size_extract]
    omega
  ·have lit:∀k:Int,1≤n.kind∧n.kind≤7→n=nd0 k ⟨#[]⟩ false 0 0→SizeN (4*t.size) n:=fun k hk e=>by
    subst e
    exact ⟨by show (0:Nat)≤_; omega,by show (0:Nat)≤_; omega,by show (0:Int)≤0; omega,by show (0:Int)≤_; omega,hk.1,hk.2⟩
   repeat' split at h
   all_goals first
    | (cases h; done)
    | (cases h; have hn:=List.mem_singleton.1 hn; exact lit _ ⟨by rw [hn]; show (1:Int)≤_; decide,by rw [hn]; show _≤(7:Int); decide⟩ (hn.trans rfl))
theorem setKey_size {m:Nat} {k:ByteArray} (hk:k.size≤m) {l:List Eng.Node} (h:∀n∈l,SizeN m n):∀n∈qBu k l,SizeN m n:=by
 cases l with
 | nil=>intro n hn; cases hn
 | cons x r =>
  intro n hn
  rcases List.mem_cons.1 hn with rfl | hn
  ·have:=h x List.mem_cons_self
   exact ⟨hk,this.2.1,this.2.2⟩
  ·exact h n (List.mem_cons_of_mem _ hn)
theorem itemR_size {t:ByteArray} {val:Nat→Rd (List Eng.Node)} (hv:Adv t val) (hz:SizeAt t val) {obj:Bool} {names:List ByteArray} {a b:Nat} {x:ByteArray × List Eng.Node} (ha:a≤t.size) (h:itemR t val obj names a=.ok b x):∀n∈x.2,SizeN (4*t.size) n:=by
 unfold itemR at h
 split at h
 ·split at h
  ·have:=qAt (t:=t) (a:=a) (by omega)
   split at h
   ·cases h
   ·rename_i b1 l h1
    have h2:=qEa h1 (by simp)
    split at h
    ·cases h
    ·split at h
     ·rename_i hc
      have h3:=qAt (t:=t) (a:=skipS t b1) (by omega)
      have h4:=qBr t b1
      have h6:=qAu t (skipS t b1+1) (by omega)
      split at h
      ·cases h
      ·rename_i h7
       have h8:=hz _ _ _ h6 h7
       cases h
       refine setKey_size ?_ h8
       rw [qE6]
       have:=h2.2.2.2
       simp only [List.length_nil,Nat.zero_add] at this
       omega
     ·cases h
  ·cases h
 ·split at h
  ·cases h
  ·rename_i h7
   cases h
   exact hz _ _ _ ha h7
theorem rowR_size {t:ByteArray} {val:Nat→Rd (List Eng.Node)} (hv:Adv t val) (hz:SizeAt t val) {obj:Bool}:∀ {m a k:Nat} {acc:List Eng.Node} {names:List ByteArray} {b:Nat} {x:Nat × List Eng.Node},a≤t.size→(∀n∈acc,SizeN (4*t.size) n)→rowR t val obj m a k acc names=.ok b x→∀n∈x.2,SizeN (4*t.size) n
 | 0,a,k,acc,names,b,x,ha,hacc,h=>by cases h
 | m+1,a,k,acc,names,b,x,ha,hacc,h=>by
  unfold rowR at h
  split at h
  ·cases h
  ·rename_i b1 x1 h1
   have h2:=itemR_adv hv ha h1
   have h3:=itemR_size hv hz ha h1
   have h4:=qBr t b1
   have h5:=qAu t b1 h2.2.1
   have h6:∀n∈acc++x1.2,SizeN (4*t.size) n:=fun n hn=>(List.mem_append.1 hn).elim (hacc n) (h3 n)
   split at h
   ·cases h
    exact h6
   ·split at h
    ·have h5:=qAt (t:=t) (a:=skipS t b1) (by omega)
     exact rowR_size hv hz (qAu t _ (by omega)) h6 h
    ·cases h
theorem valR_size (t:ByteArray):∀d,SizeAt t (valR t d)
 | 0=>fun a b l ha h=>by
  unfold valR at h
  split at h
  ·cases h
  ·exact scalR_size t a b l ha h
 | d+1=>fun a b l ha h=>by
  unfold valR at h
  split at h
  ·have hlt:=qAt (t:=t) (a:=a) (by omega)
   unfold boxR at h
   have hd:∀(obj:Bool) (k:Nat),k≤t.size→SizeN (4*t.size) (nd0 (kindC obj) ⟨#[]⟩ false 0 (k:Int)):=fun obj k hk=>⟨by show (0:Nat)≤_; omega,by show (0:Nat)≤_; omega,by show (0:Int)≤(k:Int); omega,by show (k:Int)≤_; omega,by show 1≤kindC obj; cases obj <;> decide,by show kindC obj≤7; cases obj <;> decide⟩
   split at h
   ·cases h
    intro n hn
    simp only [List.mem_singleton] at hn
    subst hn
    exact hd _ 0 (by omega)
   ·split at h
    ·cases h
    ·rename_i b1 x h1
     cases h
     have k2:=qAu t (a+1) (by omega)
     have h2:=rowR_adv (qC6 t d) k2 h1
     have h3:=rowR_size (qC6 t d) (valR_size t d) k2 (by intro n hn; cases hn) h1
     intro n hn
     rcases List.mem_cons.1 hn with rfl | hn
     ·exact hd _ _ (by omega)
     ·exact h3 n hn
  ·exact scalR_size t a b l ha h
theorem readR_size {t:ByteArray} {b:Nat} {l:List Eng.Node} (h:readR t=.ok b l):∀n∈l,SizeN (4*t.size) n:=by
 unfold readR at h
 have k:=qAu t 0 (by omega)
 split at h
 ·cases h
 ·rename_i h1
  split at h
  ·cases h
  ·cases h
   exact valR_size t 32 _ _ _ k h1
theorem scalR_code {t:ByteArray} {a b:Nat} {c:Int} (h:scalR t a=.bad c b):c≠0:=by
 unfold scalR at h
 split at h
 ·split at h
  ·rename_i h1
   have:=quoR_code h1
   cases h
   omega
  ·cases h
 ·split at h
  ·split at h
   ·rename_i h1
    cases h
    unfold numR at h1
    split at h1
    ·rename_i h2
     cases h1
     unfold zeroR at h2
     split at h2
     ·cases h2
     ·have:=digR_code h2; omega
    ·split at h1
     ·rename_i h2
      cases h1
      unfold dotR at h2
      split at h2
      ·have:=digR_code h2; omega
      ·cases h2
     ·unfold powR at h1
      split at h1
      ·have:=digR_code h1; omega
      ·cases h1
   ·cases h
  ·repeat' split at h
   all_goals first
    | (cases h; done)
    | (rename_i h1; have:=litR_code h1; cases h; omega)
    | (cases h; decide)
theorem itemR_code {t:ByteArray} {val:Nat→Rd (List Eng.Node)} (hv:∀a b c,val a=.bad c b→c≠0) {obj:Bool} {names:List ByteArray} {a b:Nat} {c:Int} (h:itemR t val obj names a=.bad c b):c≠0:=by
 unfold itemR at h
 split at h
 ·split at h
  ·split at h
   ·rename_i h1
    have:=quoR_code h1
    cases h
    omega
   ·split at h
    ·cases h; decide
    ·split at h
     ·split at h
      ·rename_i h1
       cases h
       exact hv _ _ _ h1
      ·cases h
     ·cases h; decide
  ·cases h; decide
 ·split at h
  ·rename_i h1
   cases h
   exact hv _ _ _ h1
  ·cases h
theorem rowR_code {t:ByteArray} {val:Nat→Rd (List Eng.Node)} (hv:∀a b c,val a=.bad c b→c≠0) {obj:Bool}:∀ {m a k:Nat} {acc:List Eng.Node} {names:List ByteArray} {b:Nat} {c:Int},rowR t val obj m a k acc names=.bad c b→c≠0
 | 0,a,k,acc,names,b,c,h=>by cases h; decide
 | m+1,a,k,acc,names,b,c,h=>by
  unfold rowR at h
  split at h
  ·rename_i h1
   cases h
   exact itemR_code hv h1
  ·split at h
   ·cases h
   ·split at h
    ·exact rowR_code hv h
    ·cases h; decide
theorem valR_code {t:ByteArray}:∀(d a b:Nat) (c:Int),valR t d a=.bad c b→c≠0
 | 0,a,b,c,h=>by
  unfold valR at h
  split at h
  ·cases h; decide
  ·exact scalR_code h
 | d+1,a,b,c,h=>by
  unfold valR at h
  split at h
  ·unfold boxR at h
   split at h
   ·cases h
   ·split at h
    ·rename_i h1
     cases h
     exact rowR_code (valR_code d) h1
    ·cases h
  ·exact scalR_code h
theorem parseR_cases (t:ByteArray):(∃l,parseR t=(l,0,0)∧t.size≤262144∧readR t=.ok t.size l∧l≠[]∧l.length≤t.size∧Tree l 0 l.length∧∀n∈l,SizeN 1048576 n)∨(∃c b,parseR t=([],c,b)∧c≠0):=by
 unfold parseR
 by_cases hs:262144<t.size
 ·rw [if_pos hs]
  exact .inr ⟨10,0,rfl,by decide⟩
 ·rw [if_neg hs]
  cases h:readR t with
  | bad c b =>
   refine .inr ⟨c,b,rfl,?_⟩
   unfold readR at h
   split at h
   ·rename_i h1
    cases h
    exact valR_code _ _ _ _ h1
   ·split at h
    ·cases h; decide
    ·cases h
  | ok b l =>
   have hb:b=t.size:=by
    unfold readR at h
    have k:=qAu t 0 (by omega)
    split at h
    ·cases h
    ·rename_i h1
     have h2:=qC6 t 32 _ _ _ k h1
     have:=qAu t _ h2.2.1
     split at h
     ·cases h
     ·cases h
      omega
   subst hb
   exact .inl ⟨l,rfl,by omega,rfl,(readR_len h).1,(readR_len h).2,readR_tree h,fun n hn=>(readR_size h n hn).mono (by omega)⟩
theorem digR_place {t:ByteArray} {a b:Nat} {c:Int} (ha:a≤t.size) (h:digR t a=.bad c b):b≤t.size:=by
 unfold digR at h
 split at h
 ·cases h; exact ha
 ·cases h
theorem litR_place {t:ByteArray}:∀ {w:List Int} {a b:Nat} {c:Int},(∀x∈w,0≤x)→a≤t.size→litR t w a=.bad c b→b≤t.size
 | [],a,b,c,_,ha,h=>by cases h
 | x::w,a,b,c,hw,ha,h=>by
  unfold litR at h
  split at h
  ·rename_i h1
   have:=qAt (t:=t) (a:=a) (by rw [h1]; exact hw x List.mem_cons_self)
   exact litR_place (fun y hy=>hw y (List.mem_cons_of_mem _ hy)) this h
  ·cases h; exact ha
theorem fourR_place {t:ByteArray} {half:Bool} {f:Nat} (hf:f≤t.size):∀ {m i a b:Nat} {u c:Int},fourR t half f m i a u=.bad c b→b≤t.size
 | 0,i,a,b,u,c,h=>by cases h
 | m+1,i,a,b,u,c,h=>by
  unfold fourR at h
  split at h
  ·cases h; exact Nat.le_refl _
  ·split at h
   ·cases h; exact hf
   ·exact fourR_place hf h
theorem escR_place {t:ByteArray} {a b:Nat} {c:Int} (ha:a≤t.size) (h:escR t a=.bad c b):b≤t.size:=by
 unfold escR at h
 split at h
 ·cases h; exact Nat.le_refl _
 ·split at h
  ·split at h
   ·rename_i h1
    cases h
    exact fourR_place ha h1
   ·split at h
    ·cases h
    ·unfold pairR at h
     repeat' split at h
     all_goals first
      | (cases h; done)
      | (cases h; exact Nat.le_refl _)
      | (cases h; exact ha)
      | skip
     rename_i h1
     cases h
     exact fourR_place ha h1
  ·split at h
   ·cases h; exact ha
   ·cases h
theorem qGt {t:ByteArray}:∀ {n a b:Nat} {acc:List Int} {c:Int},a≤t.size→quoR t n a acc=.bad c b→b≤t.size
 | 0,a,b,acc,c,ha,h=>by cases h; exact ha
 | n+1,a,b,acc,c,ha,h=>by
  unfold quoR at h
  split at h
  ·cases h; exact ha
  ·rename_i h0
   have hlt:=qAt (t:=t) (a:=a) (by omega)
   split at h
   ·cases h
   ·split at h
    ·split at h
     ·rename_i h1
      cases h
      exact escR_place ha h1
     ·rename_i h1
      exact qGt (escR_ok h1).2.1 h
    ·split at h
     ·exact qGt hlt h
     ·split at h
      ·rename_i hk
       have hw:=qDm hlt (by have:=qDg hlt; omega) hk
       exact qGt hw.1 h
      ·cases h
       split
       ·exact Nat.le_refl _
       ·exact ha
theorem numR_place {t:ByteArray} {a b:Nat} {c:Int} (ha:a<t.size) (h:numR t a=.bad c b):b≤t.size:=by
 have hs:a≤signS t a∧signS t a≤t.size:=by unfold signS; split <;> omega
 unfold numR at h
 split at h
 ·rename_i h1
  cases h
  unfold zeroR at h1
  split at h1
  ·cases h1
  ·exact digR_place hs.2 h1
 ·rename_i b1 x1 h1
  have z1:=zeroR_adv hs.2 h1
  split at h
  ·rename_i h2
   cases h
   unfold dotR at h2
   split at h2
   ·have:=qAt (t:=t) (a:=b1) (by omega)
    exact digR_place (by omega) h2
   ·cases h2
  ·rename_i b2 x2 h2
   have z2:=dotR_adv z1.2 h2
   unfold powR at h
   split at h
   ·have:=qAt (t:=t) (a:=b2) (by omega)
    refine digR_place ?_ h
    split
    ·have:=qAt (t:=t) (a:=b2+1) (by omega)
     omega
    ·omega
   ·cases h
def PlaceAt (t:ByteArray) (val:Nat→Rd (List Eng.Node)):Prop:=∀a b c,a≤t.size→val a=.bad c b→b≤t.size
theorem scalR_place (t:ByteArray):PlaceAt t (scalR t):=by
 intro a b c ha h
 unfold scalR at h
 split at h
 ·have:=qAt (t:=t) (a:=a) (by omega)
  split at h
  ·rename_i h1
   cases h
   exact qGt this h1
  ·cases h
 ·split at h
  ·have:=qAt (t:=t) (a:=a) (by omega)
   split at h
   ·rename_i h1
    cases h
    exact numR_place this h1
   ·cases h
  ·split at h
   ·split at h
    ·rename_i h1
     cases h
     exact litR_place (by decide) ha h1
    ·cases h
   ·split at h
    ·split at h
     ·rename_i h1
      cases h
      exact litR_place (by decide) ha h1
     ·cases h
    ·split at h
     ·split at h
      ·rename_i h1
       cases h
       exact litR_place (by decide) ha h1
      ·cases h
     ·cases h; exact ha
theorem itemR_place {t:ByteArray} {val:Nat→Rd (List Eng.Node)} (hp:PlaceAt t val) {obj:Bool} {names:List ByteArray} {a b:Nat} {c:Int} (ha:a≤t.size) (h:itemR t val obj names a=.bad c b):b≤t.size:=by
 unfold itemR at h
 split at h
 ·split at h
  ·have:=qAt (t:=t) (a:=a) (by omega)
   split at h
   ·rename_i h1
    cases h
    exact qGt this h1
   ·rename_i b1 l1 h1
    have h2:=qEa h1 (by simp)
    have k2:=qAu t b1 h2.2.1
    split at h
    ·cases h; exact ha
    ·split at h
     ·have h3:=qAt (t:=t) (a:=skipS t b1) (by omega)
      have k4:=qAu t (skipS t b1+1) (by omega)
      split at h
      ·rename_i h5
       cases h
       exact hp _ _ _ k4 h5
      ·cases h
     ·cases h; exact k2
  ·cases h; exact ha
 ·split at h
  ·rename_i h1
   cases h
   exact hp _ _ _ ha h1
  ·cases h
theorem rowR_place {t:ByteArray} {val:Nat→Rd (List Eng.Node)} (hv:Adv t val) (hp:PlaceAt t val) {obj:Bool}:∀ {m a k:Nat} {acc:List Eng.Node} {names:List ByteArray} {b:Nat} {c:Int},a≤t.size→rowR t val obj m a k acc names=.bad c b→b≤t.size
 | 0,a,k,acc,names,b,c,ha,h=>by cases h; exact ha
 | m+1,a,k,acc,names,b,c,ha,h=>by
  unfold rowR at h
  split at h
  ·rename_i h1
   cases h
   exact itemR_place hp ha h1
  ·rename_i b1 x1 h1
   have h2:=itemR_adv hv ha h1
   have k2:=qAu t b1 h2.2.1
   split at h
   ·cases h
   ·split at h
    ·have h3:=qAt (t:=t) (a:=skipS t b1) (by omega)
     exact rowR_place hv hp (qAu t _ (by omega)) h
    ·cases h; exact k2
theorem valR_place (t:ByteArray):∀d,PlaceAt t (valR t d)
 | 0=>fun a b c ha h=>by
  unfold valR at h
  split at h
  ·cases h; exact ha
  ·exact scalR_place t a b c ha h
 | d+1=>fun a b c ha h=>by
  unfold valR at h
  split at h
  ·have hlt:=qAt (t:=t) (a:=a) (by omega)
   unfold boxR at h
   split at h
   ·cases h
   ·split at h
    ·rename_i h1
     cases h
     exact rowR_place (qC6 t d) (valR_place t d) (qAu t _ (by omega)) h1
    ·cases h
  ·exact scalR_place t a b c ha h
theorem readR_place {t:ByteArray} {b:Nat} {c:Int} (h:readR t=.bad c b):b≤t.size:=by
 unfold readR at h
 have k:=qAu t 0 (by omega)
 split at h
 ·rename_i h1
  cases h
  exact valR_place t 32 _ _ _ k h1
 ·rename_i b1 l1 h1
  have h2:=qC6 t 32 _ _ _ k h1
  split at h
  ·cases h; omega
  ·cases h
theorem parseR_bad {t:ByteArray} {c b:Int} (h:parseR t=([],c,b)) (hc:c≠0):0≤b∧b≤t.size:=by
 unfold parseR at h
 split at h
 ·simp only [Prod.mk.injEq] at h
  omega
 ·rename_i hs
  unfold tellR at h
  cases hr:readR t with
  | ok b' l =>
   rw [hr] at h
   simp only [Prod.mk.injEq] at h
   exact (hc h.2.1.symm).elim
  | bad c' b' =>
   rw [hr] at h
   simp only [Prod.mk.injEq] at h
   have:=readR_place hr
   omega
end Go.Proofs.YtdcoiccdbgcpaaaDoor
namespace Go.Proofs.YtdcoiccdbgcpaaaDoor
open Go.Eng
set_option linter.unusedVariables false
set_option linter.unusedSimpArgs false
theorem validD_low {s:ByteArray} {a:Nat} (hlt:a<s.size) (hc:by8 s a<128):Lib.validD (s.data.toList.drop a)=Lib.validD (s.data.toList.drop (a+1)):=by
 have hl:a<s.data.toList.length:=by rw [Array.length_toList]; exact hlt
 rw [List.drop_eq_getElem_cons hl]
 refine Lib.validD_cons _ _ ?_
 have:by8 s a=(s.data.toList[a]).toNat:=by
  unfold by8
  have h2:s.get! a=s.data[a]!:=rfl
  rw [h2,getElem!_pos s.data a hlt]
  simp
 omega
theorem qGr {s:ByteArray} {a:Nat} (hlt:a<s.size) (hc:128≤by8 s a):Lib.validD (s.data.toList.drop a)=if seqK s a=0 then Lib.validD (s.data.toList.drop (a+seqW s a)) else false:=by
 have hne:s.data.toList.drop a≠[]:=by
  intro h
  have:=congrArg List.length h
  rw [List.length_drop,Array.length_toList] at this
  have:s.size=s.data.size:=rfl
  simp at *
  omega
 have hv:=Lib.validD_step _ hne
 rw [Lib.decodeL_drop,List.drop_drop] at hv
 obtain ⟨d1,d2⟩:=seq_dec hlt hc
 by_cases h0:seqK s a=0
 ·have hw:=qDm hlt hc h0
  rw [d1 h0,if_neg (by omega)] at hv
  rw [if_pos h0,hv]
 ·rw [(d2 h0).1,if_pos ⟨rfl,rfl⟩] at hv
  rw [if_neg h0,hv]
theorem contN_ext {n n':Nat} {b b':Nat→Nat}:∀ {m i lo hi:Nat},contN n b m i lo hi=0→(∀k,k<i+m→b' k=b k)→i+m≤n'→contN n' b' m i lo hi=0
 | 0,_,_,_,_,_,_=>rfl
 | m+1,i,lo,hi,h,hb,hn=>by
  unfold contN at h ⊢
  rw [if_neg (by omega),hb i (by omega)]
  split at h
  ·cases h
  ·split at h
   ·cases h
   ·rename_i h2
    rw [if_neg h2]
    exact contN_ext h (fun k hk=>hb k (by omega)) (by omega)
theorem seqK_ext {t s:ByteArray} {a b:Nat} (ha:a<t.size) (h8:128≤by8 t a) (h:seqK t a=0) (hb:∀k,k<seqW t a→by8 s (b+k)=by8 t (a+k)) (hn:b+seqW t a≤s.size):seqK s b=0∧seqW s b=seqW t a:=by
 have hw:=qDm ha h8 h
 have h0:=hb 0 (by omega)
 simp only [Nat.add_zero] at h0
 have hwe:seqW s b=seqW t a:=by unfold seqW; rw [h0]
 refine ⟨?_,hwe⟩
 unfold seqK at h ⊢
 unfold seqW at hw hn hb
 rw [h0]
 split at h
 ·cases h
 ·rename_i h1
  rw [if_neg h1]
  exact contN_ext h (fun k hk=>hb k (by omega)) (by omega)
theorem qGl (l:List UInt8) (i:Nat) (h:i<l.length):by8 ⟨l.toArray⟩ i=(l[i]).toNat:=by
 unfold by8
 have h2:(ByteArray.mk l.toArray).get! i=l.toArray[i]!:=rfl
 rw [h2,getElem!_pos l.toArray i (by simpa using h)]
 simp
theorem validD_append:∀(n:Nat) (x y:List UInt8),x.length≤n→Lib.validD x=true→Lib.validD (x++y)=Lib.validD y
 | 0,x,y,hn,h=>by
  have:x=[]:=List.length_eq_zero_iff.1 (by omega)
  rw [this]; rfl
 | n+1,[],y,hn,h=>rfl
 | n+1,c::x,y,hn,h=>by
  by_cases hc:c.toNat<128
  ·rw [Lib.validD_cons c x hc] at h
   rw [List.cons_append,Lib.validD_cons c _ hc]
   exact validD_append n x y (by simp at hn; omega) h
  ·have e1:(ByteArray.mk (c::x).toArray).data.toList.drop 0=c::x:=by simp
   have e2:(ByteArray.mk (c::x++y).toArray).data.toList.drop 0=c::x++y:=by simp
   have hl1:0<(ByteArray.mk (c::x).toArray).size:=by show 0<(c::x).toArray.size; simp
   have hl2:0<(ByteArray.mk (c::x++y).toArray).size:=by show 0<(c::x++y).toArray.size; simp
   have b1:128≤by8 (ByteArray.mk (c::x).toArray) 0:=by
    rw [qGl _ 0 (by simp)]
    show 128≤c.toNat
    omega
   have b2:128≤by8 (ByteArray.mk (c::x++y).toArray) 0:=by
    rw [qGl _ 0 (by simp)]
    show 128≤c.toNat
    omega
   have v1:=qGr hl1 b1
   have v2:=qGr hl2 b2
   rw [e1] at v1
   rw [e2] at v2
   rw [h] at v1
   by_cases h0:seqK (ByteArray.mk (c::x).toArray) 0=0
   ·rw [if_pos h0] at v1
    have hw:=qDm hl1 b1 h0
    have hsz1:(ByteArray.mk (c::x).toArray).size=x.length+1:=by show (c::x).toArray.size=_; simp
    have hsz2:(ByteArray.mk (c::x++y).toArray).size=x.length+1+y.length:=by show (c::x++y).toArray.size=_; simp; omega
    generalize hwg:seqW (ByteArray.mk (c::x).toArray) 0=w at *
    have hx:=seqK_ext (s:=ByteArray.mk (c::x++y).toArray) (b:=0) hl1 b1 h0 (fun k hk=>by
     rw [hwg] at hk
     rw [Nat.zero_add,qGl _ k (by simp; omega),qGl _ k (by simp; omega),List.getElem_append_left (by simp; omega)]) (by rw [hwg,hsz2]; omega)
    rw [hwg] at hx
    rw [if_pos hx.1,hx.2] at v2
    have e3:(ByteArray.mk (c::x).toArray).data.toList.drop (0+w)=(c::x).drop w:=by simp
    have e4:(ByteArray.mk (c::x++y).toArray).data.toList.drop (0+w)=(c::x).drop w++y:=by
     rw [Nat.zero_add]
     show (c::x++y).toArray.toList.drop w=_
     rw [List.toList_toArray,List.drop_append_of_le_length (by simp; omega)]
    rw [e3] at v1
    rw [e4] at v2
    rw [v2]
    exact validD_append n _ y (by rw [List.length_drop]; simp at hn ⊢; omega) v1.symm
   ·rw [if_neg h0] at v1
    cases v1
def qCz (l:List Int):Prop:=Lib.validD (l.map fun n=>UInt8.ofNat n.toNat)=true
theorem qCz.append {x y:List Int} (hx:qCz x) (hy:qCz y):qCz (x++y):=by
 unfold qCz at *
 rw [List.map_append,validD_append _ _ _ (Nat.le_refl _) hx,hy]
theorem qCz.bytes {l:List Int} (h:qCz l):Lib.validD (qAw l).data.toList=true:=by
 rw [bytesI_eq]
 show Lib.validD (List.toArray _).toList=_
 rw [List.toList_toArray]
 exact h
theorem qCz.nil:qCz []:=rfl
theorem qCz.one {c:Int} (h:0≤c∧c<128):qCz [c]:=by
 unfold qCz
 simp only [List.map_cons,List.map_nil]
 rw [Lib.validD_cons _ _ (by rw [UInt8.toNat_ofNat',Nat.mod_eq_of_lt (by omega)]; omega)]
 rfl
theorem chunk_ok {l:List UInt8} (h8:128≤by8 ⟨l.toArray⟩ 0) (hl:0<l.length) (hk:seqK ⟨l.toArray⟩ 0=0) (hw:seqW ⟨l.toArray⟩ 0=l.length):Lib.validD l=true:=by
 have hlt:0<(ByteArray.mk l.toArray).size:=by show 0<l.toArray.size; simpa using hl
 have h:=qGr hlt h8
 rw [if_pos hk,hw] at h
 have e1:(ByteArray.mk l.toArray).data.toList.drop 0=l:=by simp
 have e2:(ByteArray.mk l.toArray).data.toList.drop (0+l.length)=[]:=by simp
 rw [e1,e2] at h
 exact h
theorem u8n {n:Nat} (h:n<256):(UInt8.ofNat n).toNat=n:=by rw [UInt8.toNat_ofNat',Nat.mod_eq_of_lt (by omega)]
theorem chunk2 {a b:Nat} (ha:194≤a∧a<224) (hb:128≤b∧b≤191):Lib.validD [UInt8.ofNat a,UInt8.ofNat b]=true:=by
 have b0:by8 ⟨[UInt8.ofNat a,UInt8.ofNat b].toArray⟩ 0=a:=by rw [qGl _ 0 (by simp)]; exact u8n (by omega)
 have b1:by8 ⟨[UInt8.ofNat a,UInt8.ofNat b].toArray⟩ 1=b:=by rw [qGl _ 1 (by simp)]; exact u8n (by omega)
 have f:Lib.firstT a=2:=by
  unfold Lib.firstT
  rw [if_neg (by omega),if_neg (by omega),if_pos (by omega)]
 refine chunk_ok (by rw [b0]; omega) (by simp) ?_ (by unfold seqW; rw [b0,f]; rfl)
 have hs:(ByteArray.mk [UInt8.ofNat a,UInt8.ofNat b].toArray).size=2:=rfl
 unfold seqK
 rw [b0,f,hs,if_neg (by decide)]
 simp only [Nat.reduceMod,Nat.reduceDiv,Nat.reduceSub,contN,Lib.accLo,Lib.accHi,Nat.zero_add,b1,if_true]
 rw [if_neg (by omega),if_neg (by omega)]
theorem chunk3 {a b c:Nat} (ha:224≤a∧a<240) (hb:128≤b∧b≤191) (hc:128≤c∧c≤191) (h1:a=224→160≤b) (h2:a=237→b≤159):Lib.validD [UInt8.ofNat a,UInt8.ofNat b,UInt8.ofNat c]=true:=by
 have b0:by8 ⟨[UInt8.ofNat a,UInt8.ofNat b,UInt8.ofNat c].toArray⟩ 0=a:=by rw [qGl _ 0 (by simp)]; exact u8n (by omega)
 have b1:by8 ⟨[UInt8.ofNat a,UInt8.ofNat b,UInt8.ofNat c].toArray⟩ 1=b:=by rw [qGl _ 1 (by simp)]; exact u8n (by omega)
 have b2:by8 ⟨[UInt8.ofNat a,UInt8.ofNat b,UInt8.ofNat c].toArray⟩ 2=c:=by rw [qGl _ 2 (by simp)]; exact u8n (by omega)
 have hs:(ByteArray.mk [UInt8.ofNat a,UInt8.ofNat b,UInt8.ofNat c].toArray).size=3:=rfl
 have f:Lib.firstT a=if a=224 then 19 else if a=237 then 35 else 3:=by
  unfold Lib.firstT
  rw [if_neg (by omega),if_neg (by omega),if_neg (by omega)]
  repeat' split
  all_goals first | rfl | omega
 refine chunk_ok (by rw [b0]; omega) (by simp) ?_ (by
  unfold seqW
  rw [b0,f]
  show _=3
  by_cases g1:a=224
  ·rw [if_pos g1]
  ·rw [if_neg g1]
   by_cases g2:a=237
   ·rw [if_pos g2]
   ·rw [if_neg g2])
 unfold seqK
 rw [b0,hs,f]
 by_cases g1:a=224
 ·have:=h1 g1
  rw [if_pos g1,if_neg (by decide)]
  simp only [Nat.reduceMod,Nat.reduceDiv,Nat.reduceSub,contN,Lib.accLo,Lib.accHi,Nat.zero_add,Nat.reduceAdd,b1,b2,if_true,Nat.reduceEqDiff,if_false]
  rw [if_neg (by omega),if_neg (by omega),if_neg (by omega),if_neg (by omega)]
 ·rw [if_neg g1]
  by_cases g2:a=237
  ·have:=h2 g2
   rw [if_pos g2,if_neg (by decide)]
   simp only [Nat.reduceMod,Nat.reduceDiv,Nat.reduceSub,contN,Lib.accLo,Lib.accHi,Nat.zero_add,Nat.reduceAdd,b1,b2,if_true,Nat.reduceEqDiff,if_false]
   rw [if_neg (by omega),if_neg (by omega),if_neg (by omega),if_neg (by omega)]
  ·rw [if_neg g2,if_neg (by decide)]
   simp only [Nat.reduceMod,Nat.reduceDiv,Nat.reduceSub,contN,Lib.accLo,Lib.accHi,Nat.zero_add,Nat.reduceAdd,b1,b2,if_true,Nat.reduceEqDiff,if_false]
   rw [if_neg (by omega),if_neg (by omega),if_neg (by omega),if_neg (by omega)]
theorem chunk4 {a b c d:Nat} (ha:240≤a∧a≤244) (hb:128≤b∧b≤191) (hc:128≤c∧c≤191) (hd:128≤d∧d≤191) (h1:a=240→144≤b) (h2:a=244→b≤143):Lib.validD [UInt8.ofNat a,UInt8.ofNat b,UInt8.ofNat c,UInt8.ofNat d]=true:=by
 have b0:by8 ⟨[UInt8.ofNat a,UInt8.ofNat b,UInt8.ofNat c,UInt8.ofNat d].toArray⟩ 0=a:=by rw [qGl _ 0 (by simp)]; exact u8n (by omega)
 have b1:by8 ⟨[UInt8.ofNat a,UInt8.ofNat b,UInt8.ofNat c,UInt8.ofNat d].toArray⟩ 1=b:=by rw [qGl _ 1 (by simp)]; exact u8n (by omega)
 have b2:by8 ⟨[UInt8.ofNat a,UInt8.ofNat b,UInt8.ofNat c,UInt8.ofNat d].toArray⟩ 2=c:=by rw [qGl _ 2 (by simp)]; exact u8n (by omega)
 have b3:by8 ⟨[UInt8.ofNat a,UInt8.ofNat b,UInt8.ofNat c,UInt8.ofNat d].toArray⟩ 3=d:=by rw [qGl _ 3 (by simp)]; exact u8n (by omega)
 have hs:(ByteArray.mk [UInt8.ofNat a,UInt8.ofNat b,UInt8.ofNat c,UInt8.ofNat d].toArray).size=4:=rfl
 have f:Lib.firstT a=if a=240 then 52 else if a=244 then 68 else 4:=by
  unfold Lib.firstT
  rw [if_neg (by omega),if_neg (by omega),if_neg (by omega),if_neg (by omega),if_neg (by omega),if_neg (by omega),if_neg (by omega)]
  repeat' split
  all_goals first | rfl | omega
 refine chunk_ok (by rw [b0]; omega) (by simp) ?_ (by
  unfold seqW
  rw [b0,f]
  show _=4
  by_cases g1:a=240
  ·rw [if_pos g1]
  ·rw [if_neg g1]
   by_cases g2:a=244
   ·rw [if_pos g2]
   ·rw [if_neg g2])
 unfold seqK
 rw [b0,hs,f]
 by_cases g1:a=240
 ·have:=h1 g1
  rw [if_pos g1,if_neg (by decide)]
  simp only [Nat.reduceMod,Nat.reduceDiv,Nat.reduceSub,contN,Lib.accLo,Lib.accHi,Nat.zero_add,Nat.reduceAdd,b1,b2,b3,if_true,Nat.reduceEqDiff,if_false]
  rw [if_neg (by omega),if_neg (by omega),if_neg (by omega),if_neg (by omega),if_neg (by omega),if_neg (by omega)]
 ·rw [if_neg g1]
  by_cases g2:a=244
  ·have:=h2 g2
   rw [if_pos g2,if_neg (by decide)]
   simp only [Nat.reduceMod,Nat.reduceDiv,Nat.reduceSub,contN,Lib.accLo,Lib.accHi,Nat.zero_add,Nat.reduceAdd,b1,b2,b3,if_true,Nat.reduceEqDiff,if_false]
   rw [if_neg (by omega),if_neg (by omega),if_neg (by omega),if_neg (by omega),if_neg (by omega),if_neg (by omega)]
  ·rw [if_neg g2,if_neg (by decide)]
   simp only [Nat.reduceMod,Nat.reduceDiv,Nat.reduceSub,contN,Lib.accLo,Lib.accHi,Nat.zero_add,Nat.reduceAdd,b1,b2,b3,if_true,Nat.reduceEqDiff,if_false]
   rw [if_neg (by omega),if_neg (by omega),if_neg (by omega),if_neg (by omega),if_neg (by omega),if_neg (by omega)]
theorem utfL_valid {u:Int} (h:Code u):qCz (utfL u):=by
 unfold Code at h
 unfold utfL
 split
 ·exact qCz.one ⟨by omega,by omega⟩
 ·split
  ·show Lib.validD [UInt8.ofNat (192+u / 64).toNat,UInt8.ofNat (128+u % 64).toNat]=true
   exact chunk2 (by omega) (by omega)
  ·split
   ·show Lib.validD [UInt8.ofNat (224+u / 4096).toNat,UInt8.ofNat (128+u / 64 % 64).toNat,UInt8.ofNat (128+u % 64).toNat]=true
    exact chunk3 (by omega) (by omega) (by omega) (by omega) (by omega)
   ·show Lib.validD [UInt8.ofNat (240+u / 262144).toNat,UInt8.ofNat (128+u / 4096 % 64).toNat,UInt8.ofNat (128+u / 64 % 64).toNat,UInt8.ofNat (128+u % 64).toNat]=true
    exact chunk4 (by omega) (by omega) (by omega) (by omega) (by omega) (by omega)
theorem by8_ext (t:ByteArray) (a b k:Nat) (h:a+k<b) (hb:b≤t.size):by8 (t.extract a b) k=by8 t (a+k):=by
 have hsz:(t.extract a b).size=b - a:=by rw [ByteArray.size_extract]; omega
 have h1:=qDg (t:=t.extract a b) (i:=k) (by omega)
 have h2:=qDg (t:=t) (i:=a+k) (by omega)
 rw [qC9 t a b (k:Int) (by omega) (by omega)] at h1
 rw [show ((a+k:Nat):Int)=(a:Int)+(k:Int) by omega] at h2
 omega
theorem seq_valid {t:ByteArray} {a:Nat} (ha:a<t.size) (h8:128≤by8 t a) (h:seqK t a=0):qCz (qAg (t.extract a (a+seqW t a))):=by
 have hw:=qDm ha h8 h
 have hsz:(t.extract a (a+seqW t a)).size=seqW t a:=by rw [ByteArray.size_extract]; omega
 have hx:=seqK_ext (s:=t.extract a (a+seqW t a)) (b:=0) ha h8 h (fun k hk=>by rw [Nat.zero_add]; exact by8_ext t a _ k (by omega) (by omega)) (by omega)
 have h0:by8 (t.extract a (a+seqW t a)) 0=by8 t a:=by8_ext t a _ 0 (by omega) (by omega)
 have hv:=qGr (s:=t.extract a (a+seqW t a)) (a:=0) (by omega) (by omega)
 rw [if_pos hx.1,hx.2,List.drop_zero,List.drop_eq_nil_of_le (by rw [Array.length_toList]; show (t.extract a (a+seqW t a)).size≤_; omega),Lib.validD_nil] at hv
 unfold qCz qAg
 rw [List.map_map]
 have e:∀l:List UInt8,l.map ((fun n:Int=>UInt8.ofNat n.toNat) ∘ fun b:UInt8=>(b.toNat:Int))=l:=fun l=>by
  conv=>rhs; rw [←List.map_id l]
  refine List.map_congr_left fun x _=>?_
  simp
 rw [e]
 exact hv
theorem qE3 {t:ByteArray}:∀ {n a b:Nat} {acc l:List Int},quoR t n a acc=.ok b l→qCz acc→qCz l
 | 0,a,b,acc,l,h,_=>by cases h
 | n+1,a,b,acc,l,h,hacc=>by
  unfold quoR at h
  split at h
  ·cases h
  ·rename_i h0
   have ha:=qAt (t:=t) (a:=a) (by omega)
   split at h
   ·cases h
    exact hacc
   ·split at h
    ·split at h
     ·cases h
     ·rename_i b' u he
      exact qE3 h (hacc.append (utfL_valid (escR_ok he).2.2))
    ·split at h
     ·exact qE3 h (hacc.append (qCz.one (by omega)))
     ·split at h
      ·rename_i hk
       exact qE3 h (hacc.append (seq_valid ha (by have:=qDg ha; omega) hk))
      ·cases h
end Go.Proofs.YtdcoiccdbgcpaaaDoor
