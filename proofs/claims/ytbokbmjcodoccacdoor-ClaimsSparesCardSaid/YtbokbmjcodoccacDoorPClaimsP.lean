/-
  Texts of a claim.
-/
import Derived.Test.YtbokbmjcodoccacDoorPFind
import Derived.Test.YtbokbmjcodoccacDoorProg
set_option linter.unusedSimpArgs false
set_option linter.unusedVariables false
namespace Go.Proofs.YtbokbmjcodoccacDoor
open Go.Eng
def TreeAt(val:Nat->Rd (List Eng.Node)):Prop:=∀a b l,val a=.ok b l->∀(k:BA) (pre post:List Eng.Node),Tree (pre++qFz k l++post) pre.length (pre.length+l.length)
theorem at_pre(pre post:List Eng.Node)(n:Eng.Node)(l:List Eng.Node):(pre++(n::l)++post)[pre.length]?=some n:=by
 rw[List.append_assoc,List.getElem?_append_right (Nat.le_refl _),Nat.sub_self];rfl
theorem leaf_tree(pre post:List Eng.Node)(n:Eng.Node)(h:n.kids=0):Tree (pre++[n]++post) pre.length (pre.length+1) :=
 Tree.mk (at_pre pre post n []) (by omega) (by rw[h];exact Trees.nil _ (by simp))
theorem scalR_tree(t:BA):TreeAt (scalR t):=by
 intro a b l h k pre post;unfold scalR at h;repeat' split at h
 all_goals first
  | (cases h;done)
  | (cases h;exact leaf_tree pre post _ rfl)
theorem setKey_self:∀l:List Eng.Node,∃k,qFz k l=l
 | []=>⟨⟨#[]⟩,rfl⟩
 | n::r=>⟨n.key,rfl⟩
theorem itemR_set{t:BA}{val:Nat->Rd (List Eng.Node)}{obj:Bool}{names:List BA}{a b:Nat}{x:BA × List Eng.Node}(h:qGi t val obj names a=.ok b x):∃a' l k,val a'=.ok b l/\x.2=qFz k l:=by
 unfold qGi at h;repeat' split at h
 all_goals first
  | (cases h;done)
  | skip
 ·rename_i h7;cases h;exact⟨_,_,_,h7,rfl⟩
 ·rename_i b1 l1 h7;cases h;obtain⟨k,hk⟩:=setKey_self l1;exact⟨_,_,k,h7,hk.symm⟩
theorem rowR_trees{t:BA}{val:Nat->Rd (List Eng.Node)}(hv:TreeAt val){obj:Bool}:∀ {m a k:Nat} {acc:List Eng.Node} {names:List BA} {b:Nat} {x:Nat × List Eng.Node},rowR t val obj m a k acc names=.ok b x ->
  ∃(j:Nat) (more:List Eng.Node),x.1=k+j/\x.2=acc++more/\∀pre post,Trees (pre++more++post) j pre.length (pre.length+more.length)
 | 0,a,k,acc,names,b,x,h=>by cases h
 | m+1,a,k,acc,names,b,x,h=>by
  unfold rowR at h;split at h
  ·cases h
  ·rename_i b1 y h1;obtain⟨a',l,kk,hl,hy⟩:=itemR_set h1;have hlen:y.2.length=l.length:=by rw[hy,setKey_len]
   have ht:∀pre post,Tree (pre++y.2++post) pre.length (pre.length+y.2.length):=λpre post=>by
    rw[hlen,hy];exact hv _ _ _ hl kk pre post
   split at h
   ·cases h;exact⟨1,y.2,rfl,rfl,ht⟩
   ·split at h
    ·obtain⟨j,more,e1,e2,h3⟩:=rowR_trees hv h;refine⟨j+1,y.2++more,by omega,by rw[e2,List.append_assoc],λpre post=>?_⟩;have h4:=ht pre (more++post);have h5:=h3 (pre++y.2) post;rw[List.length_append] at h5;have e3:pre++(y.2++more)++post=pre++y.2++(more++post):=by simp
     have e4:pre++y.2++more++post=pre++y.2++(more++post):=by simp
     rw[e4] at h5;rw[e3,List.length_append,show pre.length+(y.2.length+more.length)=pre.length+y.2.length+more.length by omega];exact Trees.app h4 h5
    ·cases h
theorem boxR_tree{t:BA}{val:Nat->Rd (List Eng.Node)}(hv:TreeAt val){obj:Bool}{a b:Nat}{l:List Eng.Node}(h:boxR t val obj a=.ok b l)(k:BA)(pre post:List Eng.Node):Tree (pre++qFz k l++post) pre.length (pre.length+l.length):=by
 unfold boxR at h;split at h
 ·cases h;exact leaf_tree pre post _ rfl
 ·split at h
  ·cases h
  ·rename_i b1 x h1;cases h;obtain⟨j,more,e1,e2,h3⟩:=rowR_trees hv h1;simp only[List.nil_append,Nat.zero_add] at e1 e2;rw[e1,e2];have h4:=h3 (pre++[setK k (nd0 (kindC obj) ⟨#[]⟩ false 0 (j:Int))]) post;have e3:pre++[setK k (nd0 (kindC obj) ⟨#[]⟩ false 0 (j:Int))]++more++post=pre++(setK k (nd0 (kindC obj) ⟨#[]⟩ false 0 (j:Int))::more)++post:=by simp
   rw[e3,List.length_append,List.length_singleton] at h4;refine Tree.mk (n:=setK k (nd0 (kindC obj) ⟨#[]⟩ false 0 (j:Int))) (at_pre pre post _ more) (show(0:Int)<=(j:Int) by omega) ?_;show Trees _ (Int.toNat (j:Int)) _ _;rw[Int.toNat_natCast,List.length_cons,show pre.length+(more.length+1)=pre.length+1+more.length by omega];exact h4
theorem valR_tree(t:BA):∀d,TreeAt (valR t d)
 | 0=>λa b l h k pre post=>by
  unfold valR at h;split at h
  ·cases h
  ·exact scalR_tree t a b l h k pre post
 | d+1=>λa b l h k pre post=>by
  unfold valR at h;split at h
  ·exact boxR_tree (valR_tree t d) h k pre post
  ·exact scalR_tree t a b l h k pre post
theorem readR_tree{t:BA}{b:Nat}{l:List Eng.Node}(h:readR t=.ok b l):Tree l 0 l.length:=by
 unfold readR at h;split at h
 ·cases h
 ·rename_i b1 l1 h1;split at h
  ·cases h
  ·cases h;have:=valR_tree t 32 _ _ _ h1 ⟨#[]⟩ [] [];rw[valR_key h1,List.nil_append,List.append_nil,List.length_nil,Nat.zero_add] at this;exact this
def qF8(m:Nat)(n:Eng.Node):Prop:=n.key.size<=m/\n.text.size<=m/\0<=n.kids/\n.kids<=m/\1<=n.kind/\n.kind<=7
theorem qF8.mono{m m':Nat}(h:m<=m'){n:Eng.Node}(hn:qF8 m n):qF8 m' n:=by
 unfold qF8 at *
 omega
def SizeAt(t:BA)(val:Nat->Rd (List Eng.Node)):Prop:=∀a b l,a<=t.size->val a=.ok b l->∀n∈l,qF8 (4*t.size) n
theorem bytesI_size{l:List Int}:(qBe l).size=l.length:=by
 rw[bytesI_eq];show(l.map _).toArray.size=_;simp
theorem scalR_size(t:BA):SizeAt t (scalR t):=by
 intro a b l ha h n hn;unfold scalR at h;split at h
 ·have:=qBp (t:=t) (a:=a) (by omega);split at h
  ·cases h
  ·rename_i h1;have h2:=quoR_ok h1 (by simp);cases h;simp only[List.mem_singleton] at hn;subst hn;refine⟨by show(0:Nat)<=_;omega,?_,by show(0:Int)<=0;omega,by show(0:Int)<=_;omega,by show(1:Int)<=5;omega,by show(5:Int)<=7;omega⟩;show(qBe _).size<=_;rw[bytesI_size];have:=h2.2.2.2;simp only[List.length_nil,Nat.zero_add] at this;omega
 ·split at h
  ·split at h
   ·cases h
   ·cases h;simp only[List.mem_singleton] at hn;subst hn;refine⟨by show(0:Nat)<=_;omega,?_,by show(0:Int)<=0;omega,by show(0:Int)<=_;omega,by show(1:Int)<=4;omega,by show(4:Int)<=7;omega⟩;show(t.extract _ _).size<=_;rw[ByteArray.size_extract];omega
  ·have lit:∀k:Int,1<=n.kind/\n.kind<=7->n=nd0 k ⟨#[]⟩ false 0 0->qF8 (4*t.size) n:=λk hk e=>by
    subst e;exact⟨by show(0:Nat)<=_;omega,by show(0:Nat)<=_;omega,by show(0:Int)<=0;omega,by show(0:Int)<=_;omega,hk.1,hk.2⟩
   repeat' split at h
   all_goals first
    | (cases h;done)
    | (cases h;have hn:=List.mem_singleton.1 hn;exact lit _ ⟨by rw[hn];show(1:Int)<=_;decide,by rw[hn];show _<=(7:Int);decide⟩ (hn.trans rfl))
theorem setKey_size{m:Nat}{k:BA}(hk:k.size<=m){l:List Eng.Node}(h:∀n∈l,qF8 m n):∀n∈qFz k l,qF8 m n:=by
 cases l with
 | nil=>intro n hn;cases hn
 | cons x r =>
  intro n hn;rcases List.mem_cons.1 hn with rfl | hn
  ·have:=h x List.mem_cons_self;exact⟨hk,this.2.1,this.2.2⟩
  ·exact h n (List.mem_cons_of_mem _ hn)
theorem itemR_size{t:BA}{val:Nat->Rd (List Eng.Node)}(hv:Adv t val)(hz:SizeAt t val){obj:Bool}{names:List BA}{a b:Nat}{x:BA × List Eng.Node}(ha:a<=t.size)(h:qGi t val obj names a=.ok b x):∀n∈x.2,qF8 (4*t.size) n:=by
 unfold qGi at h;split at h
 ·split at h
  ·have:=qBp (t:=t) (a:=a) (by omega);split at h
   ·cases h
   ·rename_i b1 l h1;have h2:=quoR_ok h1 (by simp);split at h
    ·cases h
    ·split at h
     ·rename_i hc;have h3:=qBp (t:=t) (a:=qAz t b1) (by omega);have h4:=qCs t b1;have h6:=qBt t (qAz t b1+1) (by omega);split at h
      ·cases h
      ·rename_i h7;have h8:=hz _ _ _ h6 h7;cases h;refine setKey_size ?_ h8;rw[bytesI_size];have:=h2.2.2.2;simp only[List.length_nil,Nat.zero_add] at this;omega
     ·cases h
  ·cases h
 ·split at h
  ·cases h
  ·rename_i h7;cases h;exact hz _ _ _ ha h7
theorem rowR_size{t:BA}{val:Nat->Rd (List Eng.Node)}(hv:Adv t val)(hz:SizeAt t val){obj:Bool}:∀ {m a k:Nat} {acc:List Eng.Node} {names:List BA} {b:Nat} {x:Nat × List Eng.Node},a<=t.size->(∀n∈acc,qF8 (4*t.size) n)->rowR t val obj m a k acc names=.ok b x->∀n∈x.2,qF8 (4*t.size) n
 | 0,a,k,acc,names,b,x,ha,hacc,h=>by cases h
 | m+1,a,k,acc,names,b,x,ha,hacc,h=>by
  unfold rowR at h;split at h
  ·cases h
  ·rename_i b1 x1 h1;have h2:=itemR_adv hv ha h1;have h3:=itemR_size hv hz ha h1;have h4:=qCs t b1;have h5:=qBt t b1 h2.2.1;have h6:∀n∈acc++x1.2,qF8 (4*t.size) n:=λn hn=>(List.mem_append.1 hn).elim (hacc n) (h3 n)
   split at h
   ·cases h;exact h6
   ·split at h
    ·have h5:=qBp (t:=t) (a:=qAz t b1) (by omega);exact rowR_size hv hz (qBt t _ (by omega)) h6 h
    ·cases h
theorem valR_size(t:BA):∀d,SizeAt t (valR t d)
 | 0=>λa b l ha h=>by
  unfold valR at h;split at h
  ·cases h
  ·exact scalR_size t a b l ha h
 | d+1=>λa b l ha h=>by
  unfold valR at h;split at h
  ·have hlt:=qBp (t:=t) (a:=a) (by omega);unfold boxR at h;have hd:∀(obj:Bool) (k:Nat),k<=t.size->qF8 (4*t.size) (nd0 (kindC obj) ⟨#[]⟩ false 0 (k:Int)):=λobj k hk=>⟨by show(0:Nat)<=_;omega,by show(0:Nat)<=_;omega,by show(0:Int)<=(k:Int);omega,by show(k:Int)<=_;omega,by show 1<=kindC obj;cases obj <;> decide,by show kindC obj<=7;cases obj <;> decide⟩
   split at h
   ·cases h;intro n hn;simp only[List.mem_singleton] at hn;subst hn;exact hd _ 0 (by omega)
   ·split at h
    ·cases h
    ·rename_i b1 x h1;cases h;have k2:=qBt t (a+1) (by omega);have h2:=rowR_adv (valR_adv t d) k2 h1;have h3:=rowR_size (valR_adv t d) (valR_size t d) k2 (by intro n hn;cases hn) h1;intro n hn;rcases List.mem_cons.1 hn with rfl | hn
     ·exact hd _ _ (by omega)
     ·exact h3 n hn
  ·exact scalR_size t a b l ha h
theorem readR_size{t:BA}{b:Nat}{l:List Eng.Node}(h:readR t=.ok b l):∀n∈l,qF8 (4*t.size) n:=by
 unfold readR at h;have k:=qBt t 0 (by omega);split at h
 ·cases h
 ·rename_i h1;split at h
  ·cases h
  ·cases h;exact valR_size t 32 _ _ _ k h1
theorem scalR_code{t:BA}{a b:Nat}{c:Int}(h:scalR t a=.bad c b):c≠0:=by
 unfold scalR at h;split at h
 ·split at h
  ·rename_i h1;have:=quoR_code h1;cases h;omega
  ·cases h
 ·split at h
  ·split at h
   ·rename_i h1;cases h;unfold numR at h1;split at h1
    ·rename_i h2;cases h1;unfold zeroR at h2;split at h2
     ·cases h2
     ·have:=digR_code h2;omega
    ·split at h1
     ·rename_i h2;cases h1;unfold dotR at h2;split at h2
      ·have:=digR_code h2;omega
      ·cases h2
     ·unfold powR at h1;split at h1
      ·have:=digR_code h1;omega
      ·cases h1
   ·cases h
  ·repeat' split at h
   all_goals first
    | (cases h;done)
    | (rename_i h1;have:=litR_code h1;cases h;omega)
    | (cases h;decide)
theorem itemR_code{t:BA}{val:Nat->Rd (List Eng.Node)}(hv:∀a b c,val a=.bad c b->c≠0){obj:Bool}{names:List BA}{a b:Nat}{c:Int}(h:qGi t val obj names a=.bad c b):c≠0:=by
 unfold qGi at h;split at h
 ·split at h
  ·split at h
   ·rename_i h1;have:=quoR_code h1;cases h;omega
   ·split at h
    ·cases h;decide
    ·split at h
     ·split at h
      ·rename_i h1;cases h;exact hv _ _ _ h1
      ·cases h
     ·cases h;decide
  ·cases h;decide
 ·split at h
  ·rename_i h1;cases h;exact hv _ _ _ h1
  ·cases h
theorem rowR_code{t:BA}{val:Nat->Rd (List Eng.Node)}(hv:∀a b c,val a=.bad c b->c≠0){obj:Bool}:∀ {m a k:Nat} {acc:List Eng.Node} {names:List BA} {b:Nat} {c:Int},rowR t val obj m a k acc names=.bad c b->c≠0
 | 0,a,k,acc,names,b,c,h=>by cases h;decide
 | m+1,a,k,acc,names,b,c,h=>by
  unfold rowR at h;split at h
  ·rename_i h1;cases h;exact itemR_code hv h1
  ·split at h
   ·cases h
   ·split at h
    ·exact rowR_code hv h
    ·cases h;decide
theorem valR_code{t:BA}:∀(d a b:Nat) (c:Int),valR t d a=.bad c b->c≠0
 | 0,a,b,c,h=>by
  unfold valR at h;split at h
  ·cases h;decide
  ·exact scalR_code h
 | d+1,a,b,c,h=>by
  unfold valR at h;split at h
  ·unfold boxR at h;split at h
   ·cases h
   ·split at h
    ·rename_i h1;cases h;exact rowR_code (valR_code d) h1
    ·cases h
  ·exact scalR_code h
theorem parseR_cases(t:BA):(∃l,parseR t=(l,0,0)/\t.size<=262144/\readR t=.ok t.size l/\l≠[]/\l.length<=t.size/\Tree l 0 l.length/\∀n∈l,qF8 1048576 n)\/(∃c b,parseR t=([],c,b)/\c≠0):=by
 unfold parseR;by_cases hs:262144<t.size
 ·rw[if_pos hs];exact .inr ⟨10,0,rfl,by decide⟩
 ·rw[if_neg hs];cases h:readR t with
  | bad c b =>
   refine .inr ⟨c,b,rfl,?_⟩;unfold readR at h;split at h
   ·rename_i h1;cases h;exact valR_code _ _ _ _ h1
   ·split at h
    ·cases h;decide
    ·cases h
  | ok b l =>
   have hb:b=t.size:=by
    unfold readR at h;have k:=qBt t 0 (by omega);split at h
    ·cases h
    ·rename_i h1;have h2:=valR_adv t 32 _ _ _ k h1;have:=qBt t _ h2.2.1;split at h
     ·cases h
     ·cases h;omega
   subst hb;exact .inl ⟨l,rfl,by omega,rfl,(readR_len h).1,(readR_len h).2,readR_tree h,λn hn=>(readR_size h n hn).mono (by omega)⟩
def ValidI(l:List Int):Prop:=Lib.validD (l.map λn=>UInt8.ofNat n.toNat)=true
theorem ValidI.nil:ValidI []:=rfl
section
variable {t:BA} {a b:Nat} (hb:b<=t.size)
include hb
end
theorem qF8.okN{m:Nat}(hm:m<=3000000){n:Eng.Node}(h:qF8 m n):OkN n:=⟨by unfold qF8 at h;omega,by unfold qF8 at h;omega,by unfold qF8 at h;unfold qAc;omega⟩
end Go.Proofs.YtbokbmjcodoccacDoor
namespace Go.Proofs.YtbokbmjcodoccacDoor
open Go.Eng
set_option maxRecDepth 100000
noncomputable section
structure qG0 where
 has:Bool
 at_:Int
structure qGv where
 value:(List Eng.Node)
 iss:BA
 hasIss:Bool
 sub:BA
 hasSub:Bool
 aud:(List BA)
 hasAud:Bool
 jti:BA
 hasJti:Bool
 exp_:qG0
 nbf:qG0
 iat:qG0
def zae_b0:IQ:=(.loop [0,1,28,29,30] (.join [(1000000,some 5,.u8,0)] [0,1,28,29,30] (.seq (rg 31 [oP 31 (.bi .lss t30 t29)]) (.seq (.cond t31 .skip (.cn [0] (.exit 4))) (.seq (.block 5 (.seq (rg 8 [oP 32 (.iaddr 1 t28 t30),oP 33 (.load none t32),oM 8 t33]) (.seq (.seq (rg 39 [oM 34 t1,oM 35 t8,oP 36 (.iaddr 6 t34 t35),oP 37 (.faddr 0 t36),oP 38 (.load none t37),oP 39 (.bi .neq t38 (vI 5))]) (.cond t39 (.seq (rg 6 [oP 6 (.mv vF)]) (.canon [(1000000,some 5,.u8,0),(3000003,none,.u8,0)] [6] .ret)) .skip)) (.reg 0 (some [0,1,2,3,4,5,6,7,8,9,10,11,12,13,14]) ([oM 40 t0]++rF 41 t0 5++[oM 45 t1,oM 46 t8,oP 47 (.iaddr 6 t45 t46),oP 48 (.faddr 2 t47),oP 49 (.load none t48),oP 50 (.bslice 9 1 1 [.string ⟨#[]⟩] [(0,t49)]),oP 51 (.append 9 1 16 [.string ⟨#[]⟩] t44 t50)]++rS 52 t40 5 t51))))) (rg 30 [oP 54 (.bi .add t30 (vI 1)),oM 30 t54]))))))
def zae_b1:IQ:=(.seq (rg 0 ([oM 55 t0,oM 56 t1,oM 57 t2,oP 58 (.iaddr 6 t56 t57),oP 59 (.faddr 2 t58),oP 60 (.load none t59),oP 61 (.bslice 9 1 1 [.string ⟨#[]⟩] [(0,t60)])]++rS 62 t55 5 t61)) (.seq (rg 6 [oP 6 (.mv vT)]) (.canon [(1000000,some 5,.u8,0),(3000003,none,.u8,0)] [6] .ret)))
def zae_q:IQ:=(.seq (rg 6 [oP 6 (.mv vF)]) (.seq (rg 0 ([oM 9 t0]++rS 10 t9 6 vT)) (.seq (.seq (rg 16 [oM 12 t1,oM 13 t2,oP 14 (.iaddr 6 t12 t13),oP 15 (.faddr 0 t14),oP 16 (.load none t15)]) (.block 0 (.seq (.block 3 (.block 2 (.seq (.block 1 (.seq (.seq (.seq (rg 17 [oP 18 (.bi .eql t16 (vI 6)),oM 17 t18]) (.cond t17 (.exit 1) .skip)) (.seq (.seq (.seq (rg 19 [oP 20 (.bi .eql t16 (vI 1)),oM 19 t20]) (.cond t19 .skip (rg 19 [oP 21 (.bi .eql t16 (vI 3)),oM 19 t21]))) (.cond t19 (.exit 2) .skip)) (.seq (.seq (rg 22 [oP 23 (.bi .eql t16 (vI 2)),oM 22 t23]) (.cond t22 .skip (.seq (rg 22 [oP 24 (.bi .eql t16 (vI 4)),oM 22 t24]) (.cond t22 .skip (rg 22 [oP 25 (.bi .eql t16 (vI 7)),oM 22 t25]))))) (.cond t22 (.exit 3) .skip)))) (.exit 0))) (.seq (.seq (.seq (rg 30 [oM 26 t1,oM 27 t2,oP 28 (.call 12 [t26,t27]),oP 29 (.len t28),oP 30 (.mv (vI 0))]) (.block 4 (.canon [(1000000,some 5,.u8,0)] [0,1,28,29,30] (.sub 0 zae_b0)))) (.seq (rg 6 [oP 6 (.mv vT)]) (.canon [(1000000,some 5,.u8,0),(3000003,none,.u8,0)] [6] .ret))) (.exit 0))))) (.seq (.seq (rg 6 [oP 6 (.mv vF)]) (.canon [(1000000,some 5,.u8,0),(3000003,none,.u8,0)] [6] .ret)) (.exit 0))))) (.cn [0,1,2] (.sub 1 zae_b1)))))
def qB7(x29_ x30_:Int)(v:List Eng.Node)(x28_:List Int)(qG7:List BA):Option ((Int × (List BA)) ⊕ ((Bool × (List BA)) ⊕ ((List BA)))) :=
 bif decide (x30_<x29_) then(gd (0<=x30_/\x30_<x28_.length)<|gd (x30_.toNat<x28_.length)<|gd (0<=(x28_.getD x30_.toNat (ET.dft .i64))/\(x28_.getD x30_.toNat (ET.dft .i64))<v.length)<|gd ((Int.toNat (x28_.getD x30_.toNat (ET.dft .i64)))<v.length)<|gd ((Int.toNat (x28_.getD x30_.toNat (ET.dft .i64)))<v.length)<|bif(!decide (((v.getD (Int.toNat (x28_.getD x30_.toNat (ET.dft .i64))) (ET.dft .node)).kind)=(5:Int))) then(some (.inr (.inl (false,qG7)))) else(gd (0<=(x28_.getD x30_.toNat (ET.dft .i64))/\(x28_.getD x30_.toNat (ET.dft .i64))<v.length)<|gd ((Int.toNat (x28_.getD x30_.toNat (ET.dft .i64)))<v.length)<|gd ((Int.toNat (x28_.getD x30_.toNat (ET.dft .i64)))<v.length)<|gd (qG7.length+([(v.getD (Int.toNat (x28_.getD x30_.toNat (ET.dft .i64))) (ET.dft .node)).text]:List BA).length<=9223372036854775807/\(qG7.length+([(v.getD (Int.toNat (x28_.getD x30_.toNat (ET.dft .i64))) (ET.dft .node)).text]:List BA).length)*16<=140737488355328)<|gd (qAc (x30_+(1:Int)))<|some (.inl ((x30_+(1:Int)),(qG7++[(v.getD (Int.toNat (x28_.getD x30_.toNat (ET.dft .i64))) (ET.dft .node)).text]))))) else(some (.inr (.inr qG7)))
def zae_p0(x29_ x30_:Int)(v:List Eng.Node)(x28_:List Int)(qG7:List BA):Option ((Bool × (List BA)) ⊕ ((List BA))) :=
 qA0 (λx:(Int × (List BA))=>qB7 x29_ x.1 v x28_ x.2) (x30_,qG7)
def zae_p1(at_:Int)(v:List Eng.Node):Option (Bool × (List BA)) :=
 gd (0<=at_/\at_<v.length)<|gd (at_.toNat<v.length)<|gd (at_.toNat<v.length)<|some (true,[(v.getD at_.toNat (ET.dft .node)).text])
def zae_s(c:qGv)(v:(List Eng.Node))(at_:Int):Option (qGv × Bool) :=
 gd (0<=at_/\at_<v.length)<|gd (at_.toNat<v.length)<|gd (at_.toNat<v.length)<|bif decide (((v.getD at_.toNat (ET.dft .node)).kind)=(6:Int)) then((zan_s v at_).bind λr9 =>(zae_p0 (r9.length:Int) (0:Int) v r9 c.aud).bind λo10=>(Sum.elim (λ(o10_0:Bool × (List BA)) =>some ({c with aud:=o10_0.2,hasAud:=true:qGv},o10_0.1)) (λ(o10_1:(List BA)) =>some ({c with aud:=o10_1,hasAud:=true:qGv},true))) o10) else(bif decide (((v.getD at_.toNat (ET.dft .node)).kind)=(1:Int)) then(bif decide (((v.getD at_.toNat (ET.dft .node)).kind)=(1:Int)) then(some ({c with hasAud:=true:qGv},false)) else(bif decide (((v.getD at_.toNat (ET.dft .node)).kind)=(2:Int)) then(bif decide (((v.getD at_.toNat (ET.dft .node)).kind)=(2:Int)) then(some ({c with hasAud:=true:qGv},false)) else((zae_p1 at_ v).bind λo11 =>some ({c with aud:=o11.2,hasAud:=true:qGv},o11.1))) else(bif decide (((v.getD at_.toNat (ET.dft .node)).kind)=(4:Int)) then(bif decide (((v.getD at_.toNat (ET.dft .node)).kind)=(4:Int)) then(some ({c with hasAud:=true:qGv},false)) else((zae_p1 at_ v).bind λo12 =>some ({c with aud:=o12.2,hasAud:=true:qGv},o12.1))) else(bif decide (((v.getD at_.toNat (ET.dft .node)).kind)=(7:Int)) then(some ({c with hasAud:=true:qGv},false)) else((zae_p1 at_ v).bind λo13 =>some ({c with aud:=o13.2,hasAud:=true:qGv},o13.1)))))) else(bif decide (((v.getD at_.toNat (ET.dft .node)).kind)=(3:Int)) then(some ({c with hasAud:=true:qGv},false)) else(bif decide (((v.getD at_.toNat (ET.dft .node)).kind)=(2:Int)) then(bif decide (((v.getD at_.toNat (ET.dft .node)).kind)=(2:Int)) then(some ({c with hasAud:=true:qGv},false)) else((zae_p1 at_ v).bind λo14 =>some ({c with aud:=o14.2,hasAud:=true:qGv},o14.1))) else(bif decide (((v.getD at_.toNat (ET.dft .node)).kind)=(4:Int)) then(bif decide (((v.getD at_.toNat (ET.dft .node)).kind)=(4:Int)) then(some ({c with hasAud:=true:qGv},false)) else((zae_p1 at_ v).bind λo15 =>some ({c with aud:=o15.2,hasAud:=true:qGv},o15.1))) else(bif decide (((v.getD at_.toNat (ET.dft .node)).kind)=(7:Int)) then(some ({c with hasAud:=true:qGv},false)) else((zae_p1 at_ v).bind λo16 =>some ({c with aud:=o16.2,hasAud:=true:qGv},o16.1)))))))
def zae_G:Nat->Option CQ:=tblQ [(12,zan_w)]
def zDJW1:=(qAa dB (qAa dS (qAa dB (qAa dB (qAa dZ (qAa dB (qAa dZ (qAa dB (qAa dZ dNil)))))))))
def zae_d0:=(dQS (qAa (dSO 0 (dH 0 0)) (qAa (dSO 1 (dO 1)) (qAa (dSO 28 (dO 4)) (qAa (dSO 29 dZ) (qAa (dSO 30 dZ) dNil))))) (qAa (qC7 28 (qAa (dO 2) (qAa dS (qAa dB (qAa dS (qAa dB (qAa (dO 5) zDJW1))))))) (qAa (qA5 .node) (qAa (qA5 .node) (qAa dDead (qAa (dRow .i64 3) (qAa (dRow .str 9) dNil)))))))
def zae_l0:SubQ:=mkL zae_d0 (λx=>zae_p0 x.1.2.2.2.1 x.1.2.2.2.2.1 x.2.2.1 x.2.2.2.2.2.1 x.2.2.2.2.2.2.1) λx r R kn kx kr=>(Sum.elim (λ(r_0:Bool × (List BA))=>kr ⟨[sL 6 (.vB r_0.1)],[],[.cells 28 [.own 2,.vS x.2.1.2.1,.vB x.2.1.2.2.1,.vS x.2.1.2.2.2.1,.vB x.2.1.2.2.2.2.1,.own 4,.vB x.2.1.2.2.2.2.2.2.1,.vS x.2.1.2.2.2.2.2.2.2.1,.vB x.2.1.2.2.2.2.2.2.2.2.1,.vB x.2.1.2.2.2.2.2.2.2.2.2.1,.vI x.2.1.2.2.2.2.2.2.2.2.2.2.1,.vB x.2.1.2.2.2.2.2.2.2.2.2.2.2.1,.vI x.2.1.2.2.2.2.2.2.2.2.2.2.2.2.1,.vB x.2.1.2.2.2.2.2.2.2.2.2.2.2.2.2.1,.vI x.2.1.2.2.2.2.2.2.2.2.2.2.2.2.2.2.1],.view .node x.2.2.1,.view .node x.2.2.2.1,.dead,.row .str 9 r_0.2]⟩) (λ(r_1:(List BA))=>kx 4 ⟨[sL 0 (.hd 0 0)],[],[.cells 28 [.own 2,.vS x.2.1.2.1,.vB x.2.1.2.2.1,.vS x.2.1.2.2.2.1,.vB x.2.1.2.2.2.2.1,.own 4,.vB x.2.1.2.2.2.2.2.2.1,.vS x.2.1.2.2.2.2.2.2.2.1,.vB x.2.1.2.2.2.2.2.2.2.2.1,.vB x.2.1.2.2.2.2.2.2.2.2.2.1,.vI x.2.1.2.2.2.2.2.2.2.2.2.2.1,.vB x.2.1.2.2.2.2.2.2.2.2.2.2.2.1,.vI x.2.1.2.2.2.2.2.2.2.2.2.2.2.2.1,.vB x.2.1.2.2.2.2.2.2.2.2.2.2.2.2.2.1,.vI x.2.1.2.2.2.2.2.2.2.2.2.2.2.2.2.2.1],.view .node x.2.2.1,.view .node x.2.2.2.1,.dead,.row .str 9 r_1]⟩)) r
def zDJW2:=(qC7 28 (qAa (dO 2) (qAa dS (qAa dB (qAa dS (qAa dB (qAa (dO 3) zDJW1)))))))
def zDJW3:=(qAa (qA5 .node) (qAa (qA5 .node) (qAa (dRow .str 9) dNil)))
def zae_d1:=(dQS (qAa (dSO 0 (dH 0 0)) (qAa (dSO 1 (dO 1)) (qAa (dSO 2 dZ) dNil))) (qAa zDJW2 zDJW3))
def zae_l1:SubQ:=mkL zae_d1 (λx=>zae_p1 x.1.2.2.1 x.2.2.1) λx r R kn kx kr=>kr ⟨[sL 6 (.vB r.1)],[],[.cells 28 [.own 2,.vS x.2.1.2.1,.vB x.2.1.2.2.1,.vS x.2.1.2.2.2.1,.vB x.2.1.2.2.2.2.1,.own 4,.vB x.2.1.2.2.2.2.2.2.1,.vS x.2.1.2.2.2.2.2.2.2.1,.vB x.2.1.2.2.2.2.2.2.2.2.1,.vB x.2.1.2.2.2.2.2.2.2.2.2.1,.vI x.2.1.2.2.2.2.2.2.2.2.2.2.1,.vB x.2.1.2.2.2.2.2.2.2.2.2.2.2.1,.vI x.2.1.2.2.2.2.2.2.2.2.2.2.2.2.1,.vB x.2.1.2.2.2.2.2.2.2.2.2.2.2.2.2.1,.vI x.2.1.2.2.2.2.2.2.2.2.2.2.2.2.2.2.1],.view .node x.2.2.1,.view .node x.2.2.2.1,.dead,.row .str 9 r.2]⟩
def zae_L:Nat->SubQ:=tblL [(0,zae_l0),(1,zae_l1)]
theorem zae_sub0:qBl zae_L zae_G 4 31 64 0 zae_b0:=qAw (show zae_L 0=zae_l0 from by kernel_rfl) λx R kn kx kr=>qAi (step:=λy=>qB7 x.1.2.2.2.1 y.1 x.2.2.1 x.2.2.2.2.2.1 y.2) (enc:=λ(y:Int × (List BA))=>zae_d0.e ((x.1.1,x.1.2.1,x.1.2.2.1,x.1.2.2.2.1,y.1,x.1.2.2.2.2.2),(x.2.1,x.2.2.1,x.2.2.2.1,x.2.2.2.2.1,x.2.2.2.2.2.1,y.2,x.2.2.2.2.2.2.2))) (λy=>by kernel_rfl) (λy ki=>by simp only[qB7,-eq_self,sZ];kernel_rfl) (x.1.2.2.2.2.1,x.2.2.2.2.2.2.1)
theorem zae_sub1:qBl zae_L zae_G 4 31 64 1 zae_b1:=qAw (show zae_L 1=zae_l1 from by kernel_rfl) λx R kn kx kr=>by
 simp only[zae_p1,-eq_self,sZ];kernel_rfl
def zYJW0(y:dTy (qAa zDJW2 zDJW3)):qGv:=(⟨y.2.2.1,y.1.2.1,y.1.2.2.1,y.1.2.2.2.1,y.1.2.2.2.2.1,y.2.2.2.1,y.1.2.2.2.2.2.2.1,y.1.2.2.2.2.2.2.2.1,y.1.2.2.2.2.2.2.2.2.1,(⟨y.1.2.2.2.2.2.2.2.2.2.1,y.1.2.2.2.2.2.2.2.2.2.2.1⟩:qG0),(⟨y.1.2.2.2.2.2.2.2.2.2.2.2.1,y.1.2.2.2.2.2.2.2.2.2.2.2.2.1⟩:qG0),(⟨y.1.2.2.2.2.2.2.2.2.2.2.2.2.2.1,y.1.2.2.2.2.2.2.2.2.2.2.2.2.2.2.1⟩:qG0)⟩:qGv)
def zae_c:CS:=mkC (qAa (dVC (dCO (dH 0 0))) (qAa (dVC (dCO (dO 1))) (qAa (dVC (dCO dZ)) dNil))) (qAa zDJW2 zDJW3) (λx y=>zae_s (zYJW0 y) y.2.1 x.2.2.1) (λx y r=>.c (.o (.vB r.2))) λx y r=>[.cells 28 [.own 2,.vS r.1.iss,.vB r.1.hasIss,.vS r.1.sub,.vB r.1.hasSub,.own 4,.vB r.1.hasAud,.vS r.1.jti,.vB r.1.hasJti,.vB r.1.exp_.has,.vI r.1.exp_.at_,.vB r.1.nbf.has,.vI r.1.nbf.at_,.vB r.1.iat.has,.vI r.1.iat.at_],.view .node y.2.1,.view .node y.2.2.1,.dead,.row .str 9 r.1.aud]
theorem zae_val:qAj Tryd.prog 22 zae_c:=vl1 zae_q [.tmp 6] 64 31 4 (show qA8 zae_L zae_G 4 31 64 [(0,zae_b0),(1,zae_b1)] from⟨zae_sub0,zae_sub1,tV⟩) (qAt ⟨zan_ok,tV⟩) λx y=>by
 simp only[zae_s,-eq_self,sZ];kernel_rfl
def zae_w:CQ:=qBy [(0,some 0,some (.node,37)),(0,some 5,some (.str,9)),(1,none,some (.node,37))] (qDc [true,false,false,true] zae_c)
theorem zae_ok:qAh Tryd.prog 22 zae_w:=qAo zae_val
def zag_q:IQ:=(.seq (rg 6 [oP 6 (.mv vF)]) (.seq (rg 0 [oM 11 t1,oM 12 t2,oP 13 (.iaddr 6 t11 t12),oP 14 (.load (some 6) t13),oP 7 (.alloc 37 [.int .i64 0,.string ⟨#[]⟩,.string ⟨#[]⟩,.bool false,.int .i64 0,.int .i64 0]),oN (.store 6 t7 t14)]) (.seq (rg 8 [oP 8 (.mv (.v (.pointer none)))]) (.seq (rg 9 [oP 9 (.mv (.v (.pointer none)))]) (.seq (rg 10 [oP 10 (.mv (.v (.pointer none)))]) (.seq (.seq (rg 16 [oP 15 (.faddr 1 t7),oP 16 (.load none t15)]) (.block 0 (.seq (rg 17 [oP 18 (.bi .eql t16 (.v (.string ⟨#[105,115,115]⟩))),oM 17 t18]) (.cond t17 (.reg 9 (some [0,1,2,3,4,5,6,7]) [oM 19 t0,oP 20 (.nk t19),oP 21 (.faddr 1 t20),oM 22 t0,oP 23 (.nk t22),oP 24 (.faddr 2 t23),oM 8 t21,oM 9 t24]) (.seq (rg 25 [oP 26 (.bi .eql t16 (.v (.string ⟨#[115,117,98]⟩))),oM 25 t26]) (.cond t25 (.reg 9 (some [0,1,2,3,4,5,6,7]) [oM 27 t0,oP 28 (.nk t27),oP 29 (.faddr 3 t28),oM 30 t0,oP 31 (.nk t30),oP 32 (.faddr 4 t31),oM 8 t29,oM 9 t32]) (.seq (rg 33 [oP 34 (.bi .eql t16 (.v (.string ⟨#[106,116,105]⟩))),oM 33 t34]) (.cond t33 (.reg 9 (some [0,1,2,3,4,5,6,7]) [oM 35 t0,oP 36 (.nk t35),oP 37 (.faddr 7 t36),oM 38 t0,oP 39 (.nk t38),oP 40 (.faddr 8 t39),oM 8 t37,oM 9 t40]) (.seq (rg 41 [oP 42 (.bi .eql t16 (.v (.string ⟨#[101,120,112]⟩))),oM 41 t42]) (.cond t41 (rg 10 [oM 43 t0,oP 44 (.nk t43),oP 45 (.faddr 9 t44),oM 10 t45]) (.seq (rg 46 [oP 47 (.bi .eql t16 (.v (.string ⟨#[110,98,102]⟩))),oM 46 t47]) (.cond t46 (rg 10 [oM 48 t0,oP 49 (.nk t48),oP 50 (.faddr 11 t49),oM 10 t50]) (.seq (rg 51 [oP 52 (.bi .eql t16 (.v (.string ⟨#[105,97,116]⟩))),oM 51 t52]) (.cond t51 (rg 10 [oM 53 t0,oP 54 (.nk t53),oP 55 (.faddr 13 t54),oM 10 t55]) .skip)))))))))))))) (.seq (.block 1 (.seq (rg 56 [oM 57 t8,oP 58 (.ext (.ptrEq true) [t57,(.v (.pointer none))]),oM 56 t58]) (.cond t56 (.seq (rg 0 [oM 59 t8,oM 60 t9,oP 61 (.faddr 2 t7),oP 62 (.load none t61),oP 63 (.nk t59),oN (.store 1 t63 t62),oP 64 (.nk t60),oN (.store 1 t64 vT)]) (.seq (rg 6 [oP 65 (.faddr 0 t7),oP 66 (.load none t65),oP 67 (.bi .eql t66 (vI 5)),oM 6 t67]) (.canon [(1000000,some 5,.u8,0),(3000003,none,.u8,0)] [6] .ret))) (.seq (rg 68 [oM 69 t10,oP 70 (.ext (.ptrEq true) [t69,(.v (.pointer none))]),oM 68 t70]) (.cond t68 (.seq (rg 0 [oM 71 t10,oP 72 (.faddr 4 t7),oP 73 (.load none t72),oP 74 (.build [.bool false,.int .i64 0] [(0,1,vT),(1,1,t73)]),oP 75 (.nk t71),oN (.store 2 t75 t74)]) (.seq (rg 6 [oP 76 (.faddr 0 t7),oP 77 (.load none t76),oP 78 (.bi .eql t77 (vI 4)),oM 79 t78,oF 80 (.faddr 3 t7) 79,oF 81 (.load none t80) 79,oP 82 (.pick t79 t81 vF),oM 6 t82]) (.canon [(1000000,some 5,.u8,0),(3000003,none,.u8,0)] [6] .ret))) (.seq (rg 83 [oP 84 (.faddr 1 t7),oP 85 (.load none t84),oP 86 (.bi .eql t85 (.v (.string ⟨#[97,117,100]⟩))),oM 83 t86]) (.cond t83 (.seq (rg 6 [oM 87 t0,oM 88 t1,oM 89 t2,oP 90 (.call 22 [t87,t88,t89]),oM 6 t90]) (.canon [(1000000,some 5,.u8,0),(3000003,none,.u8,0)] [6] .ret)) .skip))))))) (.seq (rg 6 [oP 6 (.mv vT)]) (.canon [(1000000,some 5,.u8,0),(3000003,none,.u8,0)] [6] .ret)))))))))
def zag_s(c:qGv)(v:(List Eng.Node))(at_:Int):Option (qGv × Bool) :=
 gd (0<=at_/\at_<v.length)<|gd (at_.toNat<v.length)<|bif decide (((v.getD at_.toNat (ET.dft .node)).key)=(⟨#[105,115,115]⟩:BA)) then(some ({c with iss:=(v.getD at_.toNat (ET.dft .node)).text,hasIss:=true:qGv},decide (((v.getD at_.toNat (ET.dft .node)).kind)=(5:Int)))) else(bif decide (((v.getD at_.toNat (ET.dft .node)).key)=(⟨#[115,117,98]⟩:BA)) then(some ({c with sub:=(v.getD at_.toNat (ET.dft .node)).text,hasSub:=true:qGv},decide (((v.getD at_.toNat (ET.dft .node)).kind)=(5:Int)))) else(bif decide (((v.getD at_.toNat (ET.dft .node)).key)=(⟨#[106,116,105]⟩:BA)) then(some ({c with jti:=(v.getD at_.toNat (ET.dft .node)).text,hasJti:=true:qGv},decide (((v.getD at_.toNat (ET.dft .node)).kind)=(5:Int)))) else(bif decide (((v.getD at_.toNat (ET.dft .node)).key)=(⟨#[101,120,112]⟩:BA)) then(some ({c with exp_:=(⟨true,(v.getD at_.toNat (ET.dft .node)).int⟩:qG0):qGv},((decide (((v.getD at_.toNat (ET.dft .node)).kind)=(4:Int))) && ((v.getD at_.toNat (ET.dft .node)).whole)))) else(bif decide (((v.getD at_.toNat (ET.dft .node)).key)=(⟨#[110,98,102]⟩:BA)) then(some ({c with nbf:=(⟨true,(v.getD at_.toNat (ET.dft .node)).int⟩:qG0):qGv},((decide (((v.getD at_.toNat (ET.dft .node)).kind)=(4:Int))) && ((v.getD at_.toNat (ET.dft .node)).whole)))) else(bif decide (((v.getD at_.toNat (ET.dft .node)).key)=(⟨#[105,97,116]⟩:BA)) then(some ({c with iat:=(⟨true,(v.getD at_.toNat (ET.dft .node)).int⟩:qG0):qGv},((decide (((v.getD at_.toNat (ET.dft .node)).kind)=(4:Int))) && ((v.getD at_.toNat (ET.dft .node)).whole)))) else(bif decide (((v.getD at_.toNat (ET.dft .node)).key)=(⟨#[97,117,100]⟩:BA)) then((zae_s c v at_).bind λr2 =>some ({r2.1 with value:=c.value:qGv},r2.2)) else(some (c,true))))))))
def zag_c:CS:=mkC (qAa (dVC (dCO (dH 0 0))) (qAa (dVC (dCO (dO 1))) (qAa (dVC (dCO dZ)) dNil))) (qAa zDJW2 zDJW3) (λx y=>zag_s (zYJW0 y) y.2.1 x.2.2.1) (λx y r=>.c (.o (.vB r.2))) λx y r=>[.cells 28 [.own 2,.vS r.1.iss,.vB r.1.hasIss,.vS r.1.sub,.vB r.1.hasSub,.own 4,.vB r.1.hasAud,.vS r.1.jti,.vB r.1.hasJti,.vB r.1.exp_.has,.vI r.1.exp_.at_,.vB r.1.nbf.has,.vI r.1.nbf.at_,.vB r.1.iat.has,.vI r.1.iat.at_],.view .node y.2.1,.view .node y.2.2.1,.dead,.row .str 9 r.1.aud]
theorem zag_val:qAj Tryd.prog 13 zag_c:=vl0 zag_q [.tmp 6] 91 17 4 [(22,zae_w)] ⟨zae_ok,tV⟩ λx y=>by
 simp only[zag_s,-eq_self,sZ];kernel_rfl
def zag_w:CQ:=qBy [(0,some 0,some (.node,37)),(0,some 5,some (.str,9)),(1,none,some (.node,37))] (qDc [true,false,false,true] zag_c)
theorem zag_ok:qAh Tryd.prog 13 zag_w:=qAo zag_val
def zad_b0:IQ:=(.loop [2,4,7,27,28,29] (.seq (rg 30 [oP 30 (.bi .lss t29 t28)]) (.seq (.cond t30 .skip (.cn [2,4,7] (.exit 0))) (.seq (.block 1 (.seq (rg 9 [oP 31 (.iaddr 1 t27 t29),oP 32 (.load none t31),oM 9 t32]) (.seq (rg 36 [oM 33 t4,oM 34 t9,oP 35 (.call 13 [t7,t33,t34]),oP 36 (.un .not t35)]) (.cond t36 (.seq (rg 3 [oP 37 (.build [.slice none 0 0,.string ⟨#[]⟩,.bool false,.string ⟨#[]⟩,.bool false,.slice none 0 0,.bool false,.string ⟨#[]⟩,.bool false,.bool false,.int .i64 0,.bool false,.int .i64 0,.bool false,.int .i64 0] []),oN (.store 15 t2 t37),oP 3 (.mv (vI 131))]) (.canon [(2,some 0,.node,37),(2,some 5,.str,9)] [2,3] .ret)) .skip)))) (rg 29 [oP 38 (.bi .add t29 (vI 1)),oM 29 t38])))))
def zad_q:IQ:=(.seq (rg 3 [oP 2 (.alloc 28 [.slice none 0 0,.string ⟨#[]⟩,.bool false,.string ⟨#[]⟩,.bool false,.slice none 0 0,.bool false,.string ⟨#[]⟩,.bool false,.bool false,.int .i64 0,.bool false,.int .i64 0,.bool false,.int .i64 0]),oP 3 (.mv (vI 0))]) (.seq (rg 6 [oM 11 t0,oP 12 (.call 11 [t11]),oM 10 t12,oP 13 (.extract t10 0),oP 14 (.extract t10 1),oP 15 (.extract t10 2),oM 4 t13,oM 5 t14,oM 6 t15]) (.seq (.seq (rg 17 [oM 16 t5,oP 17 (.bi .neq t16 (vI 0))]) (.cond t17 (.seq (rg 3 [oP 18 (.build [.slice none 0 0,.string ⟨#[]⟩,.bool false,.string ⟨#[]⟩,.bool false,.slice none 0 0,.bool false,.string ⟨#[]⟩,.bool false,.bool false,.int .i64 0,.bool false,.int .i64 0,.bool false,.int .i64 0] []),oM 19 t5,oN (.store 15 t2 t18),oM 3 t19]) (.canon [(2,some 0,.node,37),(2,some 5,.str,9)] [2,3] .ret)) .skip)) (.seq (.seq (rg 24 [oM 20 t4,oP 21 (.iaddr 6 t20 (vI 0)),oP 22 (.faddr 0 t21),oP 23 (.load none t22),oP 24 (.bi .neq t23 (vI 7))]) (.cond t24 (.seq (rg 3 [oP 25 (.build [.slice none 0 0,.string ⟨#[]⟩,.bool false,.string ⟨#[]⟩,.bool false,.slice none 0 0,.bool false,.string ⟨#[]⟩,.bool false,.bool false,.int .i64 0,.bool false,.int .i64 0,.bool false,.int .i64 0] []),oN (.store 15 t2 t25),oP 3 (.mv (vI 130))]) (.canon [(2,some 0,.node,37),(2,some 5,.str,9)] [2,3] .ret)) .skip)) (.seq (rg 7 [oP 7 (.alloc 28 [.slice none 0 0,.string ⟨#[]⟩,.bool false,.string ⟨#[]⟩,.bool false,.slice none 0 0,.bool false,.string ⟨#[]⟩,.bool false,.bool false,.int .i64 0,.bool false,.int .i64 0,.bool false,.int .i64 0])]) (.seq (.seq (rg 29 [oM 26 t4,oP 27 (.call 12 [t26,(vI 0)]),oP 28 (.len t27),oP 29 (.mv (vI 0))]) (.block 0 (.canon [(7,some 0,.node,37),(7,some 5,.str,9)] [2,4,7,27,28,29] (.sub 0 zad_b0)))) (.seq (rg 0 [oM 39 t4,oP 40 (.faddr 0 t7),oN (.store 1 t40 t39)]) (.seq (rg 3 [oP 41 (.load (some 15) t7),oN (.store 15 t2 t41),oP 3 (.mv (vI 0))]) (.canon [(2,some 0,.node,37),(2,some 5,.str,9)] [2,3] .ret)))))))))
def qB6(x28_ x29_:Int)(v:List Eng.Node)(qHp:BA)(qHj:Bool)(qHr:BA)(qHl qHi:Bool)(qHq:BA)(qHk qHd:Bool)(qHh:Int)(qG6:Bool)(qG9:Int)(qG5:Bool)(qG8:Int)(x27_:List Int)(qHo:List Eng.Node)(qG7:List BA):Option ((Int × BA × Bool × BA × Bool × Bool × BA × Bool × Bool × Int × Bool × Int × Bool × Int × (List BA)) ⊕ ((Int × BA × Bool × BA × Bool × Bool × BA × Bool × Bool × Int × Bool × Int × Bool × Int × (List Eng.Node) × (List BA)) ⊕ (BA × Bool × BA × Bool × Bool × BA × Bool × Bool × Int × Bool × Int × Bool × Int × (List BA)))) :=
 bif decide (x29_<x28_) then(gd (0<=x29_/\x29_<x27_.length)<|gd (x29_.toNat<x27_.length)<|(zag_s (⟨qHo,qHp,qHj,qHr,qHl,qG7,qHi,qHq,qHk,(⟨qHd,qHh⟩:qG0),(⟨qG6,qG9⟩:qG0),(⟨qG5,qG8⟩:qG0)⟩:qGv) v (x27_.getD x29_.toNat (ET.dft .i64))).bind λr54 =>bif(!r54.2) then(some (.inr (.inl ((131:Int),(⟨#[]⟩:BA),false,(⟨#[]⟩:BA),false,false,(⟨#[]⟩:BA),false,false,(0:Int),false,(0:Int),false,(0:Int),[],[])))) else(gd (qAc (x29_+(1:Int)))<|some (.inl ((x29_+(1:Int)),r54.1.iss,r54.1.hasIss,r54.1.sub,r54.1.hasSub,r54.1.hasAud,r54.1.jti,r54.1.hasJti,r54.1.exp_.has,r54.1.exp_.at_,r54.1.nbf.has,r54.1.nbf.at_,r54.1.iat.has,r54.1.iat.at_,r54.1.aud)))) else(some (.inr (.inr (qHp,qHj,qHr,qHl,qHi,qHq,qHk,qHd,qHh,qG6,qG9,qG5,qG8,qG7))))
def zad_p0(x28_ x29_:Int)(v:List Eng.Node)(qHp:BA)(qHj:Bool)(qHr:BA)(qHl qHi:Bool)(qHq:BA)(qHk qHd:Bool)(qHh:Int)(qG6:Bool)(qG9:Int)(qG5:Bool)(qG8:Int)(x27_:List Int)(qHo:List Eng.Node)(qG7:List BA):Option ((Int × BA × Bool × BA × Bool × Bool × BA × Bool × Bool × Int × Bool × Int × Bool × Int × (List Eng.Node) × (List BA)) ⊕ (BA × Bool × BA × Bool × Bool × BA × Bool × Bool × Int × Bool × Int × Bool × Int × (List BA))) :=
 qA0 (λx:(Int × BA × Bool × BA × Bool × Bool × BA × Bool × Bool × Int × Bool × Int × Bool × Int × (List BA))=>qB6 x28_ x.1 v x.2.1 x.2.2.1 x.2.2.2.1 x.2.2.2.2.1 x.2.2.2.2.2.1 x.2.2.2.2.2.2.1 x.2.2.2.2.2.2.2.1 x.2.2.2.2.2.2.2.2.1 x.2.2.2.2.2.2.2.2.2.1 x.2.2.2.2.2.2.2.2.2.2.1 x.2.2.2.2.2.2.2.2.2.2.2.1 x.2.2.2.2.2.2.2.2.2.2.2.2.1 x.2.2.2.2.2.2.2.2.2.2.2.2.2.1 x27_ qHo x.2.2.2.2.2.2.2.2.2.2.2.2.2.2) (x29_,qHp,qHj,qHr,qHl,qHi,qHq,qHk,qHd,qHh,qG6,qG9,qG5,qG8,qG7)
def zad_s(payload:BA):Option (qGv × Int) :=
 (zap_s payload).bind λr52 =>bif(!decide (r52.2.1=(0:Int))) then(some ((⟨[],(⟨#[]⟩:BA),false,(⟨#[]⟩:BA),false,[],false,(⟨#[]⟩:BA),false,(⟨false,(0:Int)⟩:qG0),(⟨false,(0:Int)⟩:qG0),(⟨false,(0:Int)⟩:qG0)⟩:qGv),r52.2.1)) else(gd (0<=(0:Int)/\(0:Int)<r52.1.length)<|gd ((Int.toNat (0:Int))<r52.1.length)<|gd ((Int.toNat (0:Int))<r52.1.length)<|bif(!decide (((r52.1.getD (Int.toNat (0:Int)) (ET.dft .node)).kind)=(7:Int))) then(some ((⟨[],(⟨#[]⟩:BA),false,(⟨#[]⟩:BA),false,[],false,(⟨#[]⟩:BA),false,(⟨false,(0:Int)⟩:qG0),(⟨false,(0:Int)⟩:qG0),(⟨false,(0:Int)⟩:qG0)⟩:qGv),(130:Int))) else((zan_s r52.1 (0:Int)).bind λr53 =>(zad_p0 (r53.length:Int) (0:Int) r52.1 (⟨#[]⟩:BA) false (⟨#[]⟩:BA) false false (⟨#[]⟩:BA) false false (0:Int) false (0:Int) false (0:Int) r53 [] []).bind λo55=>(Sum.elim (λ(o55_0:Int × BA × Bool × BA × Bool × Bool × BA × Bool × Bool × Int × Bool × Int × Bool × Int × (List Eng.Node) × (List BA)) =>some ((⟨o55_0.2.2.2.2.2.2.2.2.2.2.2.2.2.2.1,o55_0.2.1,o55_0.2.2.1,o55_0.2.2.2.1,o55_0.2.2.2.2.1,o55_0.2.2.2.2.2.2.2.2.2.2.2.2.2.2.2,o55_0.2.2.2.2.2.1,o55_0.2.2.2.2.2.2.1,o55_0.2.2.2.2.2.2.2.1,(⟨o55_0.2.2.2.2.2.2.2.2.1,o55_0.2.2.2.2.2.2.2.2.2.1⟩:qG0),(⟨o55_0.2.2.2.2.2.2.2.2.2.2.1,o55_0.2.2.2.2.2.2.2.2.2.2.2.1⟩:qG0),(⟨o55_0.2.2.2.2.2.2.2.2.2.2.2.2.1,o55_0.2.2.2.2.2.2.2.2.2.2.2.2.2.1⟩:qG0)⟩:qGv),o55_0.1)) (λ(o55_1:BA × Bool × BA × Bool × Bool × BA × Bool × Bool × Int × Bool × Int × Bool × Int × (List BA)) =>some ((⟨r52.1,o55_1.1,o55_1.2.1,o55_1.2.2.1,o55_1.2.2.2.1,o55_1.2.2.2.2.2.2.2.2.2.2.2.2.2,o55_1.2.2.2.2.1,o55_1.2.2.2.2.2.1,o55_1.2.2.2.2.2.2.1,(⟨o55_1.2.2.2.2.2.2.2.1,o55_1.2.2.2.2.2.2.2.2.1⟩:qG0),(⟨o55_1.2.2.2.2.2.2.2.2.2.1,o55_1.2.2.2.2.2.2.2.2.2.2.1⟩:qG0),(⟨o55_1.2.2.2.2.2.2.2.2.2.2.2.1,o55_1.2.2.2.2.2.2.2.2.2.2.2.2.1⟩:qG0)⟩:qGv),(0:Int)))) o55))
def zad_G:Nat->Option CQ:=tblQ [(11,zap_w),(12,zan_w),(13,zag_w)]
def zad_d0:=(dQS (qAa (dSO 2 (dH 0 0)) (qAa (dSO 4 (dO 1)) (qAa (dSO 7 (dH 2 0)) (qAa (dSO 27 (dO 3)) (qAa (dSO 28 dZ) (qAa (dSO 29 dZ) dNil)))))) (qAa (qC7 28 (qAa dNS (qAa dS (qAa dB (qAa dS (qAa dB (qAa dNS zDJW1))))))) (qAa (dRow .node 37) (qAa (qC7 28 (qAa (dO 4) (qAa dS (qAa dB (qAa dS (qAa dB (qAa (dO 5) zDJW1))))))) (qAa (dRow .i64 3) (qAa (dRow .node 37) (qAa (dRow .str 9) dNil)))))))
def zad_l0:SubQ:=mkL zad_d0 (λx=>zad_p0 x.1.2.2.2.2.1 x.1.2.2.2.2.2.1 x.2.2.1 x.2.2.2.1.2.1 x.2.2.2.1.2.2.1 x.2.2.2.1.2.2.2.1 x.2.2.2.1.2.2.2.2.1 x.2.2.2.1.2.2.2.2.2.2.1 x.2.2.2.1.2.2.2.2.2.2.2.1 x.2.2.2.1.2.2.2.2.2.2.2.2.1 x.2.2.2.1.2.2.2.2.2.2.2.2.2.1 x.2.2.2.1.2.2.2.2.2.2.2.2.2.2.1 x.2.2.2.1.2.2.2.2.2.2.2.2.2.2.2.1 x.2.2.2.1.2.2.2.2.2.2.2.2.2.2.2.2.1 x.2.2.2.1.2.2.2.2.2.2.2.2.2.2.2.2.2.1 x.2.2.2.1.2.2.2.2.2.2.2.2.2.2.2.2.2.2.1 x.2.2.2.2.1 x.2.2.2.2.2.1 x.2.2.2.2.2.2.1) λx r R kn kx kr=>(Sum.elim (λ(r_0:Int × BA × Bool × BA × Bool × Bool × BA × Bool × Bool × Int × Bool × Int × Bool × Int × (List Eng.Node) × (List BA))=>kr ⟨[sL 2 (.hd 0 0),sL 3 (.vI r_0.1)],[],[.cells 28 [.own 1,.vS r_0.2.1,.vB r_0.2.2.1,.vS r_0.2.2.2.1,.vB r_0.2.2.2.2.1,.own 2,.vB r_0.2.2.2.2.2.1,.vS r_0.2.2.2.2.2.2.1,.vB r_0.2.2.2.2.2.2.2.1,.vB r_0.2.2.2.2.2.2.2.2.1,.vI r_0.2.2.2.2.2.2.2.2.2.1,.vB r_0.2.2.2.2.2.2.2.2.2.2.1,.vI r_0.2.2.2.2.2.2.2.2.2.2.2.1,.vB r_0.2.2.2.2.2.2.2.2.2.2.2.2.1,.vI r_0.2.2.2.2.2.2.2.2.2.2.2.2.2.1],.row .node 37 r_0.2.2.2.2.2.2.2.2.2.2.2.2.2.2.1,.row .str 9 r_0.2.2.2.2.2.2.2.2.2.2.2.2.2.2.2]⟩) (λ(r_1:BA × Bool × BA × Bool × Bool × BA × Bool × Bool × Int × Bool × Int × Bool × Int × (List BA))=>kx 0 ⟨[sL 2 (.hd 0 0),sL 4 (.own 1),sL 7 (.hd 2 0)],[],[.cells 28 [.val (.slice none 0 0),.vS x.2.1.2.1,.vB x.2.1.2.2.1,.vS x.2.1.2.2.2.1,.vB x.2.1.2.2.2.2.1,.val (.slice none 0 0),.vB x.2.1.2.2.2.2.2.2.1,.vS x.2.1.2.2.2.2.2.2.2.1,.vB x.2.1.2.2.2.2.2.2.2.2.1,.vB x.2.1.2.2.2.2.2.2.2.2.2.1,.vI x.2.1.2.2.2.2.2.2.2.2.2.2.1,.vB x.2.1.2.2.2.2.2.2.2.2.2.2.2.1,.vI x.2.1.2.2.2.2.2.2.2.2.2.2.2.2.1,.vB x.2.1.2.2.2.2.2.2.2.2.2.2.2.2.2.1,.vI x.2.1.2.2.2.2.2.2.2.2.2.2.2.2.2.2.1],.row .node 37 x.2.2.1,.cells 28 [.own 3,.vS r_1.1,.vB r_1.2.1,.vS r_1.2.2.1,.vB r_1.2.2.2.1,.own 4,.vB r_1.2.2.2.2.1,.vS r_1.2.2.2.2.2.1,.vB r_1.2.2.2.2.2.2.1,.vB r_1.2.2.2.2.2.2.2.1,.vI r_1.2.2.2.2.2.2.2.2.1,.vB r_1.2.2.2.2.2.2.2.2.2.1,.vI r_1.2.2.2.2.2.2.2.2.2.2.1,.vB r_1.2.2.2.2.2.2.2.2.2.2.2.1,.vI r_1.2.2.2.2.2.2.2.2.2.2.2.2.1],.row .node 37 x.2.2.2.2.2.1,.row .str 9 r_1.2.2.2.2.2.2.2.2.2.2.2.2.2]⟩)) r
def zad_L:Nat->SubQ:=tblL [(0,zad_l0)]
theorem zad_sub0:qBl zad_L zad_G 0 30 42 0 zad_b0:=qAw (show zad_L 0=zad_l0 from by kernel_rfl) λx R kn kx kr=>qAi (step:=λy=>qB6 x.1.2.2.2.2.1 y.1 x.2.2.1 y.2.1 y.2.2.1 y.2.2.2.1 y.2.2.2.2.1 y.2.2.2.2.2.1 y.2.2.2.2.2.2.1 y.2.2.2.2.2.2.2.1 y.2.2.2.2.2.2.2.2.1 y.2.2.2.2.2.2.2.2.2.1 y.2.2.2.2.2.2.2.2.2.2.1 y.2.2.2.2.2.2.2.2.2.2.2.1 y.2.2.2.2.2.2.2.2.2.2.2.2.1 y.2.2.2.2.2.2.2.2.2.2.2.2.2.1 x.2.2.2.2.1 x.2.2.2.2.2.1 y.2.2.2.2.2.2.2.2.2.2.2.2.2.2) (enc:=λ(y:Int × BA × Bool × BA × Bool × Bool × BA × Bool × Bool × Int × Bool × Int × Bool × Int × (List BA))=>zad_d0.e ((x.1.1,x.1.2.1,x.1.2.2.1,x.1.2.2.2.1,x.1.2.2.2.2.1,y.1,x.1.2.2.2.2.2.2),(x.2.1,x.2.2.1,(x.2.2.2.1.1,y.2.1,y.2.2.1,y.2.2.2.1,y.2.2.2.2.1,x.2.2.2.1.2.2.2.2.2.1,y.2.2.2.2.2.1,y.2.2.2.2.2.2.1,y.2.2.2.2.2.2.2.1,y.2.2.2.2.2.2.2.2.1,y.2.2.2.2.2.2.2.2.2.1,y.2.2.2.2.2.2.2.2.2.2.1,y.2.2.2.2.2.2.2.2.2.2.2.1,y.2.2.2.2.2.2.2.2.2.2.2.2.1,y.2.2.2.2.2.2.2.2.2.2.2.2.2.1,x.2.2.2.1.2.2.2.2.2.2.2.2.2.2.2.2.2.2.2),x.2.2.2.2.1,x.2.2.2.2.2.1,y.2.2.2.2.2.2.2.2.2.2.2.2.2.2,x.2.2.2.2.2.2.2))) (λy=>by kernel_rfl) (λy ki=>by simp only[qB6,-eq_self,sZ];kernel_rfl) (x.1.2.2.2.2.2.1,x.2.2.2.1.2.1,x.2.2.2.1.2.2.1,x.2.2.2.1.2.2.2.1,x.2.2.2.1.2.2.2.2.1,x.2.2.2.1.2.2.2.2.2.2.1,x.2.2.2.1.2.2.2.2.2.2.2.1,x.2.2.2.1.2.2.2.2.2.2.2.2.1,x.2.2.2.1.2.2.2.2.2.2.2.2.2.1,x.2.2.2.1.2.2.2.2.2.2.2.2.2.2.1,x.2.2.2.1.2.2.2.2.2.2.2.2.2.2.2.1,x.2.2.2.1.2.2.2.2.2.2.2.2.2.2.2.2.1,x.2.2.2.1.2.2.2.2.2.2.2.2.2.2.2.2.2.1,x.2.2.2.1.2.2.2.2.2.2.2.2.2.2.2.2.2.2.1,x.2.2.2.2.2.2.1)
def zad_c:CS:=mkC (qAa (dVC (dCO dS)) dNil) dNil (λx y=>zad_s x.1) (λx y r=>.tup [.agg [.own 0,.vS r.1.iss,.vB r.1.hasIss,.vS r.1.sub,.vB r.1.hasSub,.own 1,.vB r.1.hasAud,.vS r.1.jti,.vB r.1.hasJti,.vB r.1.exp_.has,.vI r.1.exp_.at_,.vB r.1.nbf.has,.vI r.1.nbf.at_,.vB r.1.iat.has,.vI r.1.iat.at_],.o (.vI r.2)]) λx y r=>[.row .node 37 r.1.value,.row .str 9 r.1.aud]
theorem zad_val:qAj Tryd.prog 5 zad_c:=vl1 zad_q [.cell 2 (some 15),.tmp 3] 42 30 0 (show qA8 zad_L zad_G 0 30 42 [(0,zad_b0)] from⟨zad_sub0,tV⟩) (qAt ⟨zap_ok,zan_ok,zag_ok,tV⟩) λx y=>by
 simp only[zad_s,-eq_self,sZ];kernel_rfl
def zad_w:CQ:=qDc [] zad_c
theorem zad_ok:qAh Tryd.prog 5 zad_w:=liftQ_valid zad_val
end
def Uniq(l:List Eng.Node):List Nat->Prop
 | []=>True
 | p::r=>(∀q∈r,qBu l q≠qBu l p)/\Uniq l r
theorem findK_app{l:List Eng.Node}(key:BA):∀(L M:List Nat),qCg l key (L++M)=match qCg l key L with | some p=>some p | none=>qCg l key M
 | [],M=>rfl
 | p::r,M=>by
  show(if(l.getD p (ET.dft .node)).key=key then some p else qCg l key (r++M))=match (if(l.getD p (ET.dft .node)).key=key then some p else qCg l key r) with | some p=>some p | none=>qCg l key M
  by_cases h:(l.getD p (ET.dft .node)).key=key
  ·rw[if_pos h,if_pos h]
  ·rw[if_neg h,if_neg h,findK_app key r M]
theorem findK_none{l:List Eng.Node}{key:BA}:∀ {L:List Nat},(∀q∈L,qBu l q≠key)->qCg l key L=none
 | [],h=>rfl
 | q::r,h=>by
  unfold qCg;rw[if_neg (show ¬(l.getD q (ET.dft .node)).key=key from h q List.mem_cons_self)];exact findK_none λp hp=>h p (List.mem_cons_of_mem _ hp)
theorem Uniq.before{l:List Eng.Node}:∀ {L:List Nat} {p:Nat} {M:List Nat},Uniq l (L++p::M)->∀q∈L,qBu l q≠qBu l p
 | [],p,M,h,q,hq=>by cases hq
 | x::L,p,M,h,q,hq=>by
  rcases List.mem_cons.1 hq with rfl | hq
  ·exact λhe=>h.1 p (List.mem_append_right _ List.mem_cons_self) he.symm
  ·exact Uniq.before h.2 q hq
structure Obj (l:List Eng.Node) (L:List Nat):Prop where
 ok:OkL l
 kids:zan_s l 0=some (upN L)
 root:∃nd e,l[0]?=some nd/\0<=nd.kids/\nd.kind=7/\Trees l nd.kids.toNat (0+1) e/\qDg l nd.kids.toNat (0+1) L e
 tree:∀p∈L,∃e,Tree l p e
 uniq:Uniq l L
 mem:∀key,zao_s l 0 key=some (memI (qCg l key L))
 kind:(l.getD 0 (ET.dft .node)).kind=7
 ne:0<l.length
theorem places_tree{v:List Eng.Node}:∀ {k a e:Nat} {L:List Nat},qDg v k a L e->∀p∈L,∃e',Tree v p e'
 | 0,a,e,L,h,p,hp=>by rw[h.1] at hp;cases hp
 | k+1,a,e,L,h,p,hp=>by
  obtain⟨b,r,rfl,g1,g2⟩:=h;rcases List.mem_cons.1 hp with rfl | hp
  ·exact⟨b,g1⟩
  ·exact places_tree g2 p hp
def nIss:BA:=⟨#[105,115,115]⟩
def nSub:BA:=⟨#[115,117,98]⟩
def nJti:BA:=⟨#[106,116,105]⟩
def nAud:BA:=⟨#[97,117,100]⟩
def nExp:BA:=⟨#[101,120,112]⟩
def nNbf:BA:=⟨#[110,98,102]⟩
def nIat:BA:=⟨#[105,97,116]⟩
def tX(l:List Eng.Node)(p:Nat):BA:=(l.getD p (ET.dft .node)).text
def txtO(l:List Eng.Node):Option Nat->BA
 | some p=>tX l p
 | none=>⟨#[]⟩
def timO(l:List Eng.Node):Option Nat->qG0
 | some p=>⟨true,(l.getD p (ET.dft .node)).int⟩
 | none=>⟨false,0⟩
noncomputable def subP(l:List Eng.Node)(p:Nat):List Nat:=((zan_s l (p:Int)).getD []).map Int.toNat
noncomputable def audO(l:List Eng.Node):Option Nat->List BA
 | some p=>if(l.getD p (ET.dft .node)).kind=6 then(subP l p).map (tX l) else [tX l p]
 | none=>[]
noncomputable def cOf(l:List Eng.Node)(L:List Nat):qGv :=
 ⟨[],txtO l (qCg l nIss L),(qCg l nIss L).isSome,txtO l (qCg l nSub L),(qCg l nSub L).isSome,audO l (qCg l nAud L),(qCg l nAud L).isSome,txtO l (qCg l nJti L),(qCg l nJti L).isSome,timO l (qCg l nExp L),timO l (qCg l nNbf L),timO l (qCg l nIat L)⟩
theorem audO_six{l:List Eng.Node}{p:Nat}(h:(l.getD p (ET.dft .node)).kind=6):audO l (some p)=(subP l p).map (tX l):=if_pos h
theorem audO_else{l:List Eng.Node}{p:Nat}(h:¬(l.getD p (ET.dft .node)).kind=6):audO l (some p)=[tX l p]:=if_neg h
def strB(l:List Eng.Node)(p:Nat):Bool:=decide ((l.getD p (ET.dft .node)).kind=5)
def timB(l:List Eng.Node)(p:Nat):Bool:=decide ((l.getD p (ET.dft .node)).kind=4) && (l.getD p (ET.dft .node)).whole
noncomputable def audB(l:List Eng.Node)(p:Nat):Bool:=if(l.getD p (ET.dft .node)).kind=6 then(subP l p).all (strB l) else strB l p
noncomputable def goodB(l:List Eng.Node)(p:Nat):Bool :=
 if qBu l p=nIss then strB l p else if qBu l p=nSub then strB l p else if qBu l p=nJti then strB l p else if qBu l p=nExp then timB l p else if qBu l p=nNbf then timB l p else if qBu l p=nIat then timB l p else if qBu l p=nAud then audB l p else true
structure Sub (l:List Eng.Node) (p:Nat):Prop where
 lt:p<l.length
 j:zan_s l (p:Int)=some (upN (subP l p))
 src:∃nd e,l[p]?=some nd/\0<=nd.kids/\Trees l nd.kids.toNat (p+1) e/\qDg l nd.kids.toNat (p+1) (subP l p) e
 inn:∀q∈subP l p,q<l.length
 len:(subP l p).length<=2000000
theorem upN_back(L:List Nat):(upN L).map Int.toNat=L:=by
 unfold upN;rw[List.map_map];exact(List.map_congr_left λa _=>Int.toNat_natCast a).trans (List.map_id L)
theorem upN_at(pre post:List Nat)(p:Nat):(upN (pre++p::post)).getD pre.length (ET.dft .i64)=(p:Int):=by
 unfold upN;rw[List.getD_eq_getElem?_getD,List.getElem?_map,List.getElem?_append_right (Nat.le_refl _),Nat.sub_self];rfl
theorem sub_of{l:List Eng.Node}(hok:OkL l){p e:Nat}(h:Tree l p e):Sub l p:=by
 obtain⟨nd,h1,h2,h3⟩:=h.node;obtain⟨L,hL⟩:=h3.places;have hlen:=hL.len;have hlt:=(List.getElem?_eq_some_iff.1 h1).1;have h4:=hok.1;have hj:=j_kids hok.1 h1 h2 h3 hL;have e1:subP l p=L:=by
  unfold subP;rw[hj];exact upN_back L
 exact⟨hlt,by rw[e1];exact hj,⟨nd,_,h1,h2,h3,by rw[e1];exact hL⟩,by rw[e1];exact places_in hL,by rw[e1];have:=h3.le;omega⟩
theorem aud_loop{l:List Eng.Node}(hl:l.length<=2000000){L:List Nat}(hL:L.length<=2000000)(hin:∀q∈L,q<l.length) :
  ∀(post pre:List Nat) (A:List BA),L=pre++post->A.length=pre.length->∃r,zae_p0 ((upN L).length:Int) (pre.length:Int) l (upN L) A=some r/\(post.all (strB l)=true->r=.inr (A++post.map (tX l)))/\(post.all (strB l)=false->∃A',r=.inl (false,A'))
 | [],pre,A,h,hA=>by
  refine⟨.inr A,?_,λ_=>by simp,λh=>by cases h⟩;unfold zae_p0;refine qAg ?_;unfold qB7;rw[qEl,deF (by rw[h,List.append_nil];omega),cnF]
 | p::post,pre,A,h,hA=>by
  have hlen:L.length=pre.length+(post.length+1):=by rw[h,List.length_append,List.length_cons]
  have hp:=hin p (by rw[h];exact List.mem_append_right _ List.mem_cons_self);have hat:(upN L).getD pre.length (ET.dft .i64)=(p:Int):=by rw[h];exact upN_at pre post p
  by_cases hk:(l.getD p (ET.dft .node)).kind=5
  ·obtain⟨r,h1,h2,h3⟩:=aud_loop hl hL hin post (pre++[p]) (A++[tX l p]) (by rw[h];simp) (by simp[hA]);have hs:strB l p=true:=deT hk;refine⟨r,?_,λha=>?_,λha=>?_⟩
   ·rw[<-h1];unfold zae_p0;rw[qAm (y:=((((pre++[p]).length:Nat):Int),A++[tX l p])) ?_];unfold qB7;dsimp only;rw[qEl,deT (by omega),cnT,qAb (by omega),Int.toNat_natCast,qAb (by omega),hat,Int.toNat_natCast,qAb (by omega),qAb (by omega),qAb (by omega),deT hk,Bool.not_true,cnF,qAb (by omega),qAb (by omega),qAb (by omega),qAb (by rw[List.length_singleton];omega)];refine(qAb (by unfold qAc;omega) _).trans ?_;rw[List.length_append];rfl
   ·rw[List.all_cons,hs,Bool.true_and] at ha;rw[h2 ha];simp
   ·rw[List.all_cons,hs,Bool.true_and] at ha;exact h3 ha
  ·refine⟨.inl (false,A),?_,λha=>?_,λ_=>⟨A,rfl⟩⟩
   ·unfold zae_p0;refine qAg ?_;unfold qB7;dsimp only;rw[qEl,deT (by omega),cnT,qAb (by omega),Int.toNat_natCast,qAb (by omega),hat,Int.toNat_natCast,qAb (by omega),qAb (by omega),qAb (by omega),deF hk,Bool.not_false,cnT]
   ·rw[List.all_cons,show strB l p=false from deF hk,Bool.false_and] at ha;cases ha
theorem p_aud{l:List Eng.Node}(hok:OkL l){p:Nat}(hp:Sub l p)(hk:1<=(l.getD p (ET.dft .node)).kind/\(l.getD p (ET.dft .node)).kind<=7)(c:qGv)(hc:c.aud=[]) :
  ∃A b,zae_s c l (p:Int)=some (⟨c.value,c.iss,c.hasIss,c.sub,c.hasSub,A,true,c.jti,c.hasJti,c.exp_,c.nbf,c.iat⟩,b)/\b=audB l p/\(b=true->A=audO l (some p)):=by
 have hlt:=hp.lt;have hp1:zae_p1 (p:Int) l=some (true,[tX l p]):=by
  unfold zae_p1;rw[qAb (by omega),Int.toNat_natCast,qAb hlt,qAb hlt];rfl
 unfold zae_s;rw[qAb (by omega),Int.toNat_natCast,qAb hlt,qAb hlt,hp1];by_cases h6:(l.getD p (ET.dft .node)).kind=6
 ·rw[deT h6,cnT,hp.j,obS,hc];obtain⟨r,h1,h2,h3⟩:=aud_loop hok.1 hp.len hp.inn (subP l p) [] [] rfl rfl;rw[show((([]:List Nat).length:Nat):Int)=0 from rfl] at h1;rw[h1,obS];cases ha:(subP l p).all (strB l) with
  | true =>
   rw[h2 ha];exact⟨_,_,rfl,by unfold audB;rw[if_pos h6,ha],λ_=>by rw[audO_six h6];rfl⟩
  | false =>
   obtain⟨A',rfl⟩:=h3 ha;exact⟨_,_,rfl,by unfold audB;rw[if_pos h6,ha],λh=>by cases h⟩
 ·rw[audO_else h6];unfold audB strB;rw[if_neg h6];generalize (l.getD p (ET.dft .node)).kind=k at *
  have:k=1\/k=2\/k=3\/k=4\/k=5\/k=7:=by omega
  rcases this with rfl | rfl | rfl | rfl | rfl | rfl
  ·exact⟨_,_,rfl,rfl,λh=>by cases h⟩
  ·exact⟨_,_,rfl,rfl,λh=>by cases h⟩
  ·exact⟨_,_,rfl,rfl,λh=>by cases h⟩
  ·exact⟨_,_,rfl,rfl,λh=>by cases h⟩
  ·exact⟨_,_,rfl,rfl,λ_=>rfl⟩
  ·exact⟨_,_,rfl,rfl,λh=>by cases h⟩
theorem find_hit{l:List Eng.Node}{key:BA}{L:List Nat}{p:Nat}(hn:∀q∈L,qBu l q≠qBu l p)(hk:qBu l p=key):qCg l key L=none/\qCg l key (L++[p])=some p:=by
 have h1:qCg l key L=none:=findK_none λq hq he=>hn q hq (by rw[he,hk])
 refine⟨h1,?_⟩;rw[findK_app,h1];show(if qBu l p=key then some p else none)=some p;rw[if_pos hk]
theorem qAf{l:List Eng.Node}{key:BA}(L:List Nat){p:Nat}(hk:¬qBu l p=key):qCg l key (L++[p])=qCg l key L:=by
 rw[findK_app];cases qCg l key L with
 | some q=>rfl
 | none =>
  show(if qBu l p=key then some p else none)=none;rw[if_neg hk]
theorem p_put{l:List Eng.Node}(hok:OkL l){p:Nat}(hp:Sub l p)(hk:1<=(l.getD p (ET.dft .node)).kind/\(l.getD p (ET.dft .node)).kind<=7){L:List Nat}(hn:∀q∈L,qBu l q≠qBu l p) :
  ∃c',zag_s (cOf l L) l (p:Int)=some (c',goodB l p)/\(goodB l p=true->c'=cOf l (L++[p])):=by
 have hlt:=hp.lt;unfold zag_s;rw[qAb (by omega),Int.toNat_natCast,qAb hlt];show ∃c',(bif decide (qBu l p=nIss) then some (_,strB l p) else bif decide (qBu l p=nSub) then some (_,strB l p) else bif decide (qBu l p=nJti) then some (_,strB l p) else bif decide (qBu l p=nExp) then some (_,timB l p) else bif decide (qBu l p=nNbf) then some (_,timB l p) else bif decide (qBu l p=nIat) then some (_,timB l p) else bif decide (qBu l p=nAud) then _ else some (_,true))=_/\_;have n12:¬nIss=nSub:=by decide
 have n13:¬nIss=nJti:=by decide
 have n14:¬nIss=nExp:=by decide
 have n15:¬nIss=nNbf:=by decide
 have n16:¬nIss=nIat:=by decide
 have n17:¬nIss=nAud:=by decide
 have n23:¬nSub=nJti:=by decide
 have n24:¬nSub=nExp:=by decide
 have n25:¬nSub=nNbf:=by decide
 have n26:¬nSub=nIat:=by decide
 have n27:¬nSub=nAud:=by decide
 have n34:¬nJti=nExp:=by decide
 have n35:¬nJti=nNbf:=by decide
 have n36:¬nJti=nIat:=by decide
 have n37:¬nJti=nAud:=by decide
 have n45:¬nExp=nNbf:=by decide
 have n46:¬nExp=nIat:=by decide
 have n47:¬nExp=nAud:=by decide
 have n56:¬nNbf=nIat:=by decide
 have n57:¬nNbf=nAud:=by decide
 have n67:¬nIat=nAud:=by decide
 have nm:∀ {a b:BA},qBu l p=a->¬a=b->¬qBu l p=b:=λh h'=>by rw[h];exact h'
 have nm':∀ {a b:BA},qBu l p=a->¬b=a->¬qBu l p=b:=λh h'=>by rw[h];exact λe=>h' e.symm
 have hgood:goodB l p=if qBu l p=nIss then strB l p else if qBu l p=nSub then strB l p else if qBu l p=nJti then strB l p else if qBu l p=nExp then timB l p else if qBu l p=nNbf then timB l p else if qBu l p=nIat then timB l p else if qBu l p=nAud then audB l p else true:=rfl
 by_cases h1:qBu l p=nIss
 ·rw[deT h1,cnT,hgood,if_pos h1];refine⟨_,rfl,λ_=>?_⟩;unfold cOf;rw[(find_hit hn h1).2,qAf L (nm h1 n12),qAf L (nm h1 n13),qAf L (nm h1 n14),qAf L (nm h1 n15),qAf L (nm h1 n16),qAf L (nm h1 n17)];rfl
 rw[deF h1,cnF,if_neg h1] at *
 by_cases h2:qBu l p=nSub
 ·rw[deT h2,cnT,hgood,if_pos h2];refine⟨_,rfl,λ_=>?_⟩;unfold cOf;rw[(find_hit hn h2).2,qAf L h1,qAf L (nm h2 n23),qAf L (nm h2 n24),qAf L (nm h2 n25),qAf L (nm h2 n26),qAf L (nm h2 n27)];rfl
 rw[deF h2,cnF,if_neg h2] at *
 by_cases h3:qBu l p=nJti
 ·rw[deT h3,cnT,hgood,if_pos h3];refine⟨_,rfl,λ_=>?_⟩;unfold cOf;rw[(find_hit hn h3).2,qAf L h1,qAf L h2,qAf L (nm h3 n34),qAf L (nm h3 n35),qAf L (nm h3 n36),qAf L (nm h3 n37)];rfl
 rw[deF h3,cnF,if_neg h3] at *
 by_cases h4:qBu l p=nExp
 ·rw[deT h4,cnT,hgood,if_pos h4];refine⟨_,rfl,λ_=>?_⟩;unfold cOf;rw[(find_hit hn h4).2,qAf L h1,qAf L h2,qAf L h3,qAf L (nm h4 n45),qAf L (nm h4 n46),qAf L (nm h4 n47)];rfl
 rw[deF h4,cnF,if_neg h4] at *
 by_cases h5:qBu l p=nNbf
 ·rw[deT h5,cnT,hgood,if_pos h5];refine⟨_,rfl,λ_=>?_⟩;unfold cOf;rw[(find_hit hn h5).2,qAf L h1,qAf L h2,qAf L h3,qAf L h4,qAf L (nm h5 n56),qAf L (nm h5 n57)];rfl
 rw[deF h5,cnF,if_neg h5] at *
 by_cases h6:qBu l p=nIat
 ·rw[deT h6,cnT,hgood,if_pos h6];refine⟨_,rfl,λ_=>?_⟩;unfold cOf;rw[(find_hit hn h6).2,qAf L h1,qAf L h2,qAf L h3,qAf L h4,qAf L h5,qAf L (nm h6 n67)];rfl
 rw[deF h6,cnF,if_neg h6] at *
 by_cases h7:qBu l p=nAud
 ·rw[deT h7,cnT,hgood,if_pos h7];obtain⟨f1,f2⟩:=find_hit hn h7;obtain⟨A,b,g1,g2,g3⟩:=p_aud hok hp hk (cOf l L) (by show audO l (qCg l nAud L)=[];rw[f1];rfl);rw[g1,obS];refine⟨_,by rw[<-g2],λhb=>?_⟩;rw[g3 (by rw[g2];exact hb)];unfold cOf;rw[f2,qAf L h1,qAf L h2,qAf L h3,qAf L h4,qAf L h5,qAf L h6];rfl
 rw[deF h7,cnF,if_neg h7] at *
 refine⟨_,by rw[hgood],λ_=>?_⟩;unfold cOf;rw[qAf L h1,qAf L h2,qAf L h3,qAf L h4,qAf L h5,qAf L h6,qAf L h7]
def tupC(c:qGv):BA × Bool × BA × Bool × Bool × BA × Bool × Bool × Int × Bool × Int × Bool × Int × (List BA) :=
 (c.iss,c.hasIss,c.sub,c.hasSub,c.hasAud,c.jti,c.hasJti,c.exp_.has,c.exp_.at_,c.nbf.has,c.nbf.at_,c.iat.has,c.iat.at_,c.aud)
def noC:qGv:=⟨[],⟨#[]⟩,false,⟨#[]⟩,false,[],false,⟨#[]⟩,false,⟨false,0⟩,⟨false,0⟩,⟨false,0⟩⟩
theorem claims_loop{l:List Eng.Node}{L:List Nat}(hO:Obj l L)(hkd:∀n∈l,1<=n.kind/\n.kind<=7)(hL:L.length<=2000000) :
  ∀(post pre:List Nat),L=pre++post->zad_p0 ((upN L).length:Int) (pre.length:Int) l (cOf l pre).iss (cOf l pre).hasIss (cOf l pre).sub (cOf l pre).hasSub (cOf l pre).hasAud (cOf l pre).jti (cOf l pre).hasJti (cOf l pre).exp_.has (cOf l pre).exp_.at_ (cOf l pre).nbf.has (cOf l pre).nbf.at_ (cOf l pre).iat.has (cOf l pre).iat.at_ (upN L) [] (cOf l pre).aud =
   some (if post.all (goodB l)=true then .inr (tupC (cOf l L)) else .inl (131,⟨#[]⟩,false,⟨#[]⟩,false,false,⟨#[]⟩,false,false,0,false,0,false,0,[],[]))
 | [],pre,h=>by
  unfold zad_p0;refine qAg ?_;unfold qB6;rw[qEl,deF (by rw[h,List.append_nil];omega),cnF,h,List.append_nil];rfl
 | p::post,pre,h=>by
  have hlen:L.length=pre.length+(post.length+1):=by rw[h,List.length_append,List.length_cons]
  obtain⟨e,he⟩:=hO.tree p (by rw[h];exact List.mem_append_right _ List.mem_cons_self);have hp:=sub_of hO.ok he;have hat:(upN L).getD pre.length (ET.dft .i64)=(p:Int):=by rw[h];exact upN_at pre post p
  have hu:=hO.uniq;rw[h] at hu;have hkp:1<=(l.getD p (ET.dft .node)).kind/\(l.getD p (ET.dft .node)).kind<=7:=by
   rw[List.getD_eq_getElem?_getD,List.getElem?_eq_getElem hp.lt];exact hkd _ (List.getElem_mem hp.lt)
  obtain⟨c',h1,h2⟩:=p_put hO.ok hp hkp hu.before;have h1':zag_s (⟨[],(cOf l pre).iss,(cOf l pre).hasIss,(cOf l pre).sub,(cOf l pre).hasSub,(cOf l pre).aud,(cOf l pre).hasAud,(cOf l pre).jti,(cOf l pre).hasJti,(⟨(cOf l pre).exp_.has,(cOf l pre).exp_.at_⟩:qG0),(⟨(cOf l pre).nbf.has,(cOf l pre).nbf.at_⟩:qG0),(⟨(cOf l pre).iat.has,(cOf l pre).iat.at_⟩:qG0)⟩:qGv) l (p:Int)=some (c',goodB l p):=h1;by_cases hg:goodB l p=true
  ·have ih:=claims_loop hO hkd hL post (pre++[p]) (by rw[h];simp);rw[List.all_cons,hg,Bool.true_and,<-ih];rw[h2 hg] at h1';unfold zad_p0;rw[qAm (y:=((((pre++[p]).length:Nat):Int),tupC (cOf l (pre++[p])))) ?_]
   ·rfl
   unfold qB6;dsimp only;rw[qEl,deT (by omega),cnT,qAb (by omega),Int.toNat_natCast,qAb (by omega),hat,h1',obS,hg,Bool.not_true,cnF];refine(qAb (by unfold qAc;omega) _).trans ?_;rw[List.length_append];rfl
  ·have hg':=Bool.eq_false_iff.2 hg;rw[List.all_cons,hg',Bool.false_and,if_neg (by decide)];unfold zad_p0;refine qAg ?_;unfold qB6;dsimp only;rw[qEl,deT (by omega),cnT,qAb (by omega),Int.toNat_natCast,qAb (by omega),hat,h1',obS,hg',Bool.not_false,cnT]
noncomputable def fullC(l:List Eng.Node)(L:List Nat):qGv:=⟨l,(cOf l L).iss,(cOf l L).hasIss,(cOf l L).sub,(cOf l L).hasSub,(cOf l L).aud,(cOf l L).hasAud,(cOf l L).jti,(cOf l L).hasJti,(cOf l L).exp_,(cOf l L).nbf,(cOf l L).iat⟩
theorem aud_tot{l:List Eng.Node}{L:List Nat}(hL:L.length<=2000000)(hin:∀q∈L,q<l.length) :
  ∀(post pre:List Nat) (A:List BA),L=pre++post->A.length+post.length<=8000000000000->∃b B,zae_p0 ((upN L).length:Int) (pre.length:Int) l (upN L) A=some (if b=true then .inr B else .inl (false,B))/\B.length<=A.length+post.length
 | [],pre,A,h,hA=>by
  refine⟨true,A,?_,Nat.le_add_right _ _⟩;unfold zae_p0;refine qAg ?_;unfold qB7;rw[qEl,deF (by rw[h,List.append_nil];omega),cnF,if_pos rfl]
 | p::post,pre,A,h,hA=>by
  have hlen:L.length=pre.length+(post.length+1):=by rw[h,List.length_append,List.length_cons]
  rw[List.length_cons] at hA;have hp:=hin p (by rw[h];exact List.mem_append_right _ List.mem_cons_self);have hat:(upN L).getD pre.length (ET.dft .i64)=(p:Int):=by rw[h];exact upN_at pre post p
  by_cases hk:(l.getD p (ET.dft .node)).kind=5
  ·obtain⟨b,B,h1,h2⟩:=aud_tot hL hin post (pre++[p]) (A++[tX l p]) (by rw[h];simp) (by simp;omega);refine⟨b,B,?_,by simp at h2 ⊢;omega⟩;rw[<-h1];unfold zae_p0;rw[qAm (y:=((((pre++[p]).length:Nat):Int),A++[tX l p])) ?_];unfold qB7;dsimp only;rw[qEl,deT (by omega),cnT,qAb (by omega),Int.toNat_natCast,qAb (by omega),hat,Int.toNat_natCast,qAb (by omega),qAb (by omega),qAb (by omega),deT hk,Bool.not_true,cnF,qAb (by omega),qAb (by omega),qAb (by omega),qAb (by rw[List.length_singleton];omega)];refine(qAb (by unfold qAc;omega) _).trans ?_;rw[List.length_append];rfl
  ·refine⟨false,A,?_,by omega⟩;unfold zae_p0;refine qAg ?_;unfold qB7;dsimp only;rw[qEl,deT (by omega),cnT,qAb (by omega),Int.toNat_natCast,qAb (by omega),hat,Int.toNat_natCast,qAb (by omega),qAb (by omega),qAb (by omega),deF hk,Bool.not_false,cnT];rfl
theorem p_aud_tot{l:List Eng.Node}{p:Nat}(hp:Sub l p)(hk:1<=(l.getD p (ET.dft .node)).kind/\(l.getD p (ET.dft .node)).kind<=7)(c:qGv)(hc:c.aud.length<=4000000000000) :
  ∃c' b,zae_s c l (p:Int)=some (c',b)/\c'.aud.length<=c.aud.length+2000000:=by
 have hlt:=hp.lt;have hln:=hp.len;have hp1:zae_p1 (p:Int) l=some (true,[tX l p]):=by
  unfold zae_p1;rw[qAb (by omega),Int.toNat_natCast,qAb hlt,qAb hlt];rfl
 unfold zae_s;rw[qAb (by omega),Int.toNat_natCast,qAb hlt,qAb hlt,hp1];by_cases h6:(l.getD p (ET.dft .node)).kind=6
 ·rw[deT h6,cnT,hp.j,obS];obtain⟨b,B,h1,h2⟩:=aud_tot hp.len hp.inn (subP l p) [] c.aud rfl (by omega);rw[show((([]:List Nat).length:Nat):Int)=0 from rfl] at h1;rw[h1,obS];cases b <;> exact⟨_,_,rfl,by show B.length<=_;omega⟩
 ·generalize (l.getD p (ET.dft .node)).kind=k at *
  have:k=1\/k=2\/k=3\/k=4\/k=5\/k=7:=by omega
  rcases this with rfl | rfl | rfl | rfl | rfl | rfl
  ·exact⟨_,_,rfl,by show c.aud.length<=_;omega⟩
  ·exact⟨_,_,rfl,by show c.aud.length<=_;omega⟩
  ·exact⟨_,_,rfl,by show c.aud.length<=_;omega⟩
  ·exact⟨_,_,rfl,by show c.aud.length<=_;omega⟩
  ·exact⟨_,_,rfl,by show 1<=_;omega⟩
  ·exact⟨_,_,rfl,by show c.aud.length<=_;omega⟩
theorem p_put_tot{l:List Eng.Node}{p:Nat}(hp:Sub l p)(hk:1<=(l.getD p (ET.dft .node)).kind/\(l.getD p (ET.dft .node)).kind<=7)(c:qGv)(hc:c.aud.length<=4000000000000) :
  ∃c' b,zag_s c l (p:Int)=some (c',b)/\c'.aud.length<=c.aud.length+2000000:=by
 have hlt:=hp.lt;obtain⟨a,d,g1,g2⟩:=p_aud_tot hp hk c hc;unfold zag_s;rw[qAb (by omega),Int.toNat_natCast,qAb hlt,g1];cases decide ((l.getD p (ET.dft .node)).key=(⟨#[105,115,115]⟩:BA)) with
 | true=>exact⟨_,_,rfl,by show c.aud.length<=_;omega⟩
 | false =>
 cases decide ((l.getD p (ET.dft .node)).key=(⟨#[115,117,98]⟩:BA)) with
 | true=>exact⟨_,_,rfl,by show c.aud.length<=_;omega⟩
 | false =>
 cases decide ((l.getD p (ET.dft .node)).key=(⟨#[106,116,105]⟩:BA)) with
 | true=>exact⟨_,_,rfl,by show c.aud.length<=_;omega⟩
 | false =>
 cases decide ((l.getD p (ET.dft .node)).key=(⟨#[101,120,112]⟩:BA)) with
 | true=>exact⟨_,_,rfl,by show c.aud.length<=_;omega⟩
 | false =>
 cases decide ((l.getD p (ET.dft .node)).key=(⟨#[110,98,102]⟩:BA)) with
 | true=>exact⟨_,_,rfl,by show c.aud.length<=_;omega⟩
 | false =>
 cases decide ((l.getD p (ET.dft .node)).key=(⟨#[105,97,116]⟩:BA)) with
 | true=>exact⟨_,_,rfl,by show c.aud.length<=_;omega⟩
 | false =>
 cases decide ((l.getD p (ET.dft .node)).key=(⟨#[97,117,100]⟩:BA)) with
 | true=>exact⟨_,_,rfl,g2⟩
 | false=>exact⟨_,_,rfl,by show c.aud.length<=_;omega⟩
theorem claims_tot{l:List Eng.Node}{L:List Nat}(hin:∀p∈L,Sub l p)(hkd:∀n∈l,1<=n.kind/\n.kind<=7)(hL:L.length<=2000000) :
  ∀(post pre:List Nat) (c:qGv),L=pre++post->c.aud.length<=2000000*pre.length->∃r,zad_p0 ((upN L).length:Int) (pre.length:Int) l c.iss c.hasIss c.sub c.hasSub c.hasAud c.jti c.hasJti c.exp_.has c.exp_.at_ c.nbf.has c.nbf.at_ c.iat.has c.iat.at_ (upN L) [] c.aud=some r /\
   (r=.inl (131,⟨#[]⟩,false,⟨#[]⟩,false,false,⟨#[]⟩,false,false,0,false,0,false,0,[],[])\/∃c',r=.inr (tupC c')/\c'.aud.length<=4000000000000)
 | [],pre,c,h,hc=>by
  have hpl:pre.length=L.length:=by rw[h,List.append_nil]
  refine⟨.inr (tupC c),?_,.inr ⟨c,rfl,by omega⟩⟩;unfold zad_p0;refine qAg ?_;unfold qB6;rw[qEl,deF (by omega),cnF];rfl
 | p::post,pre,c,h,hc=>by
  have hlen:L.length=pre.length+(post.length+1):=by rw[h,List.length_append,List.length_cons]
  have hp:=hin p (by rw[h];exact List.mem_append_right _ List.mem_cons_self);have hat:(upN L).getD pre.length (ET.dft .i64)=(p:Int):=by rw[h];exact upN_at pre post p
  have hkp:1<=(l.getD p (ET.dft .node)).kind/\(l.getD p (ET.dft .node)).kind<=7:=by
   rw[List.getD_eq_getElem?_getD,List.getElem?_eq_getElem hp.lt];exact hkd _ (List.getElem_mem hp.lt)
  obtain⟨c',b,h1,h2⟩:=p_put_tot hp hkp (⟨[],c.iss,c.hasIss,c.sub,c.hasSub,c.aud,c.hasAud,c.jti,c.hasJti,(⟨c.exp_.has,c.exp_.at_⟩:qG0),(⟨c.nbf.has,c.nbf.at_⟩:qG0),(⟨c.iat.has,c.iat.at_⟩:qG0)⟩:qGv) (by show c.aud.length<=_;omega);have h2':c'.aud.length<=c.aud.length+2000000:=h2;cases b with
  | false =>
   refine⟨_,?_,.inl rfl⟩;unfold zad_p0;refine qAg ?_;unfold qB6;dsimp only;rw[qEl,deT (by omega),cnT,qAb (by omega),Int.toNat_natCast,qAb (by omega),hat,h1,obS,Bool.not_false,cnT]
  | true =>
   obtain⟨r,g1,g2⟩:=claims_tot hin hkd hL post (pre++[p]) c' (by rw[h];simp) (by simp;omega);refine⟨r,?_,g2⟩;rw[<-g1];unfold zad_p0;rw[qAm (y:=((((pre++[p]).length:Nat):Int),tupC c')) ?_]
   ·rfl
   unfold qB6;dsimp only;rw[qEl,deT (by omega),cnT,qAb (by omega),Int.toNat_natCast,qAb (by omega),hat,h1,obS,Bool.not_true,cnF];refine(qAb (by unfold qAc;omega) _).trans ?_;rw[List.length_append];rfl
theorem parse_some(t:BA):∃c k,zad_s t=some (c,k)/\c.value.length<=2000000/\c.aud.length<=4000000000000:=by
 unfold zad_s;rw[p_Parse,obS];rcases parseR_cases t with⟨l,h1,hs,h2,hne,hll,hT,hz⟩ | ⟨c,b,h1,hc⟩
 ·rw[h1];have hlt:0<l.length:=List.length_pos_iff.2 hne;dsimp only;rw[deT rfl,Bool.not_true,cnF,qAb (by omega),qAb (by omega),qAb (by omega)];rw[show Int.toNat 0=0 from rfl];by_cases h7:(l.getD 0 (ET.dft .node)).kind=7
  ·have hok:OkL l:=⟨by omega,λn hn=>(hz n hn).okN (by omega)⟩;have hkd:∀n∈l,1<=n.kind/\n.kind<=7:=λn hn=>(hz n hn).2.2.2.2
   have h0:=sub_of hok hT;have hin:∀q∈subP l 0,Sub l q:=λq hq=>by
    obtain⟨nd,e,s1,s2,s3,s4⟩:=h0.src;obtain⟨e',he⟩:=places_tree s4 q hq;exact sub_of hok he
   have k1:=h0.j;rw[show((0:Nat):Int)=0 from rfl] at k1;obtain⟨r,g1,g2⟩:=claims_tot hin hkd h0.len (subP l 0) [] noC rfl (Nat.zero_le _);have g1':zad_p0 ((upN (subP l 0)).length:Int) 0 l ⟨#[]⟩ false ⟨#[]⟩ false false ⟨#[]⟩ false false 0 false 0 false 0 (upN (subP l 0)) [] []=some r:=g1;rw[deT h7,Bool.not_true,cnF,k1,obS,g1',obS];rcases g2 with rfl | ⟨c',rfl,hc'⟩
   ·exact⟨noC,131,rfl,Nat.zero_le _,Nat.zero_le _⟩
   ·exact⟨⟨l,c'.iss,c'.hasIss,c'.sub,c'.hasSub,c'.aud,c'.hasAud,c'.jti,c'.hasJti,c'.exp_,c'.nbf,c'.iat⟩,0,rfl,by show l.length<=_;omega,hc'⟩
  ·rw[deF h7,Bool.not_false,cnT];exact⟨noC,130,rfl,Nat.zero_le _,Nat.zero_le _⟩
 ·rw[h1];dsimp only;rw[deF hc,Bool.not_false,cnT];exact⟨noC,c,rfl,Nat.zero_le _,Nat.zero_le _⟩
end Go.Proofs.YtbokbmjcodoccacDoor
