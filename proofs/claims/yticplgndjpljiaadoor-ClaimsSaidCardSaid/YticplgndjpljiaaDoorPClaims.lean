/-
  What a payload says, as the program and the document read it. No program.
-/
import Derived.Test.YticplgndjpljiaaDoorPTreeS
import Derived.Test.YticplgndjpljiaaDoorJW
namespace Go.Proofs.YticplgndjpljiaaDoor
open Go.Eng
set_option linter.unusedVariables false
set_option linter.unusedSimpArgs false
def Uniq (l:List Eng.Node):List Nat→Prop
 | []=>True
 | p::r=>(∀q∈r,qA8 l q≠qA8 l p)∧Uniq l r
theorem kidsS_uniq {v:List Eng.Node} {d:Nat}:∀(k a:Nat) (names:List ByteArray) (e:Nat) (L:List Nat),kidsS v (oneS v d true) true k a names=some e→qDk v k a L e→(∀a b,oneS v d true a=some b→Tree v a b)→(∀p∈L,¬qA8 v p∈names)∧Uniq v L
 | 0,a,names,e,L,h,hL,ht=>by
  obtain ⟨rfl,_⟩:=hL
  exact ⟨fun p hp=>(by cases hp),tV⟩
 | k+1,a,names,e,L,h,hL,ht=>by
  obtain ⟨b,r,rfl,g1,g2⟩:=hL
  unfold kidsS at h
  cases ho:oneS v d true a with
  | none=>rw [ho] at h; cases h
  | some b' =>
   rw [ho] at h
   dsimp only at h
   have:=Trees.det (ht _ _ ho) g1
   subst this
   split at h
   ·cases h
   ·rename_i hn
    have hn:¬qA8 v a∈names:=fun hm=>hn ⟨rfl,hm⟩
    obtain ⟨i1,i2⟩:=kidsS_uniq k b' (names++[qA8 v a]) e r h g2 ht
    refine ⟨fun p hp=>?_,fun q hq he=>?_,i2⟩
    ·rcases List.mem_cons.1 hp with rfl | hp
     ·exact hn
     ·exact fun hm=>i1 p hp (List.mem_append_left _ hm)
    ·exact i1 q hq (by rw [he]; exact List.mem_append_right _ List.mem_cons_self)
theorem findK_app {l:List Eng.Node} (key:ByteArray):∀(L M:List Nat),qAq l key (L++M)=match qAq l key L with | some p=>some p | none=>qAq l key M
 | [],M=>rfl
 | p::r,M=>by
  show (if (l.getD p (ET.dft .node)).key=key then some p else qAq l key (r++M))=match (if (l.getD p (ET.dft .node)).key=key then some p else qAq l key r) with | some p=>some p | none=>qAq l key M
  by_cases h:(l.getD p (ET.dft .node)).key=key
  ·rw [if_pos h,if_pos h]
  ·rw [if_neg h,if_neg h,findK_app key r M]
theorem findK_mem {l:List Eng.Node} {key:ByteArray}:∀ {L:List Nat} {p:Nat},qAq l key L=some p→p∈L∧qA8 l p=key
 | [],p,h=>by cases h
 | q::r,p,h=>by
  unfold qAq at h
  split at h
  ·rename_i hq
   cases h
   exact ⟨List.mem_cons_self,hq⟩
  ·obtain ⟨i1,i2⟩:=findK_mem h
   exact ⟨List.mem_cons_of_mem _ i1,i2⟩
theorem findK_none {l:List Eng.Node} {key:ByteArray}:∀ {L:List Nat},(∀q∈L,qA8 l q≠key)→qAq l key L=none
 | [],h=>rfl
 | q::r,h=>by
  unfold qAq
  rw [if_neg (show ¬(l.getD q (ET.dft .node)).key=key from h q List.mem_cons_self)]
  exact findK_none fun p hp=>h p (List.mem_cons_of_mem _ hp)
theorem Uniq.before {l:List Eng.Node}:∀ {L:List Nat} {p:Nat} {M:List Nat},Uniq l (L++p::M)→∀q∈L,qA8 l q≠qA8 l p
 | [],p,M,h,q,hq=>by cases hq
 | x::L,p,M,h,q,hq=>by
  rcases List.mem_cons.1 hq with rfl | hq
  ·exact fun he=>h.1 p (List.mem_append_right _ List.mem_cons_self) he.symm
  ·exact Uniq.before h.2 q hq
theorem Uniq.find {l:List Eng.Node} {L M:List Nat} {p:Nat} (h:Uniq l (L++p::M)):qAq l (qA8 l p) (L++p::M)=some p:=by
 rw [findK_app,findK_none h.before]
 show (if qA8 l p=qA8 l p then some p else _)=_
 rw [if_pos rfl]
structure Obj (l:List Eng.Node) (L:List Nat):Prop where
 ok:OkL l
 kids:zan_s l 0=some (upN L)
 rkids:qCj l 0=some (upN L)
 tree:∀p∈L,∃e,Tree l p e
 uniq:Uniq l L
 mem:∀key,zao_s l 0 key=some (memI (qAq l key L))∧qDm l 0 key=some (memI (qAq l key L))
 kind:(l.getD 0 (ET.dft .node)).kind=7
 ne:0<l.length
theorem places_tree {v:List Eng.Node}:∀ {k a e:Nat} {L:List Nat},qDk v k a L e→∀p∈L,∃e',Tree v p e'
 | 0,a,e,L,h,p,hp=>by rw [h.1] at hp; cases hp
 | k+1,a,e,L,h,p,hp=>by
  obtain ⟨b,r,rfl,g1,g2⟩:=h
  rcases List.mem_cons.1 hp with rfl | hp
  ·exact ⟨b,g1⟩
  ·exact places_tree g2 p hp
theorem obj_read {t:ByteArray} {l:List Eng.Node} (hs:t.size≤262144) (hr:readR t=.ok t.size l) (hok:OkL l) (ht:Tree l 0 l.length) (h7:(l.getD 0 (ET.dft .node)).kind=7) (hone:∀d a b,oneS l d true a=some b→Tree l a b):∃L,Obj l L:=by
 obtain ⟨nd,h1,h2,h3⟩:=ht.node
 obtain ⟨L,hL⟩:=h3.places
 have hlt:=(List.getElem?_eq_some_iff.1 h1).1
 have hnd:l.getD 0 (ET.dft .node)=nd:=by rw [List.getD_eq_getElem?_getD,h1]; rfl
 have h7':nd.kind=7:=by rw [←hnd]; exact h7
 have hsh:=readR_shape hs hr
 unfold oneS at hsh
 rw [h1] at hsh
 dsimp only at hsh
 refine ⟨L,hok,?_,?_,places_tree hL,?_,fun key=>?_,h7,hlt⟩
 ·have:=j_kids hok.1 h1 h2 h3 hL
  rwa [show ((0:Nat):Int)=0 from rfl] at this
 ·have:=r_kids hok.1 h1 h2 h3 hL
  rwa [show ((0:Nat):Int)=0 from rfl] at this
 ·split at hsh
  ·rw [deT h7'] at hsh
   exact (kidsS_uniq _ _ _ _ _ hsh hL fun a b h=>hone _ a b h).2
  ·cases hsh
 ·have:=member_find hok.1 h1 h2 h3 hL key
  rw [if_pos h7',show ((0:Nat):Int)=0 from rfl] at this
  exact this
theorem texts_loop (l:List ByteArray) (hl:l.length≤4000000):∀(j i:Nat),i+j=l.length→zbp_p0 (i:Int) l l=some (.inr ())
 | 0,i,h=>by
  unfold zbp_p0
  refine qAi ?_
  unfold qFw
  rw [deF (by omega),cnF]
 | j+1,i,h=>by
  have ih:=texts_loop l hl j (i+1) (by omega)
  unfold zbp_p0 at ih ⊢
  rw [qAr (y:=((i+1:Nat):Int)) ?_,ih]
  unfold qFw
  rw [deT (by omega),cnT,qAb (by omega),qAb (by omega),qAb (by omega),qAb (by omega)]
  simp only [decide_true,Bool.not_true,cnF]
  exact qAb (by unfold qAc; omega) _
theorem texts_self (l:List ByteArray) (hl:l.length≤4000000):zbp_s l l=some true:=by
 have:=texts_loop l hl l.length 0 (by omega)
 rw [show ((0:Nat):Int)=0 from rfl] at this
 unfold zbp_s
 rw [deT rfl,Bool.not_true,cnF,this]
 rfl
theorem nodes_loop (v:List Eng.Node) (hv:v.length≤3000000):∀(j i:Nat),i+j=v.length→zbo_p0 (i:Int) v v=some (.inr ())
 | 0,i,h=>by
  unfold zbo_p0
  refine qAi ?_
  unfold qFn
  rw [deF (by omega),cnF]
 | j+1,i,h=>by
  have ih:=nodes_loop v hv j (i+1) (by omega)
  unfold zbo_p0 at ih ⊢
  rw [qAr (y:=((i+1:Nat):Int)) ?_,ih]
  unfold qFn
  rw [deT (by omega),cnT,qAb (by omega),qAb (by omega),qAb (by omega),qAb (by omega)]
  simp only [decide_true,beq_self_eq_true,Bool.and_self,Bool.not_true,cnF]
  exact qAb (by unfold qAc; omega) _
theorem nodes_self (v:List Eng.Node) (hv:v.length≤3000000):zbo_s v v=some true:=by
 have:=nodes_loop v hv v.length 0 (by omega)
 rw [show ((0:Nat):Int)=0 from rfl] at this
 unfold zbo_s
 rw [deT rfl,Bool.not_true,cnF,this]
 rfl
theorem claims_self (c:qHc) (h1:c.value.length≤2000000) (h2:c.aud.length≤2000000):zbn_s c c=some true:=by
 unfold zbn_s
 simp only [decide_true,beq_self_eq_true,Bool.and_self,cnT,texts_self c.aud (by omega),nodes_self c.value (by omega),obS]
def nIss:ByteArray:=⟨#[105,115,115]⟩
def nSub:ByteArray:=⟨#[115,117,98]⟩
def nJti:ByteArray:=⟨#[106,116,105]⟩
def nAud:ByteArray:=⟨#[97,117,100]⟩
def nExp:ByteArray:=⟨#[101,120,112]⟩
def nNbf:ByteArray:=⟨#[110,98,102]⟩
def nIat:ByteArray:=⟨#[105,97,116]⟩
def tX (l:List Eng.Node) (p:Nat):ByteArray:=(l.getD p (ET.dft .node)).text
def txtO (l:List Eng.Node):Option Nat→ByteArray
 | some p=>tX l p
 | none=>⟨#[]⟩
def timO (l:List Eng.Node):Option Nat→qHf
 | some p=>⟨true,(l.getD p (ET.dft .node)).int⟩
 | none=>⟨false,0⟩
noncomputable def subP (l:List Eng.Node) (p:Nat):List Nat:=((zan_s l (p:Int)).getD []).map Int.toNat
noncomputable def audO (l:List Eng.Node):Option Nat→List ByteArray
 | some p=>if (l.getD p (ET.dft .node)).kind=6 then (subP l p).map (tX l) else [tX l p]
 | none=>[]
noncomputable def cOf (l:List Eng.Node) (L:List Nat):qHc :=
 ⟨[],txtO l (qAq l nIss L),(qAq l nIss L).isSome,txtO l (qAq l nSub L),(qAq l nSub L).isSome,audO l (qAq l nAud L),(qAq l nAud L).isSome,txtO l (qAq l nJti L),(qAq l nJti L).isSome,timO l (qAq l nExp L),timO l (qAq l nNbf L),timO l (qAq l nIat L)⟩
theorem audO_six {l:List Eng.Node} {p:Nat} (h:(l.getD p (ET.dft .node)).kind=6):audO l (some p)=(subP l p).map (tX l):=if_pos h
theorem audO_else {l:List Eng.Node} {p:Nat} (h:¬(l.getD p (ET.dft .node)).kind=6):audO l (some p)=[tX l p]:=if_neg h
def strB (l:List Eng.Node) (p:Nat):Bool:=decide ((l.getD p (ET.dft .node)).kind=5)
def timB (l:List Eng.Node) (p:Nat):Bool:=decide ((l.getD p (ET.dft .node)).kind=4) && (l.getD p (ET.dft .node)).whole
noncomputable def audB (l:List Eng.Node) (p:Nat):Bool:=if (l.getD p (ET.dft .node)).kind=6 then (subP l p).all (strB l) else strB l p
noncomputable def goodB (l:List Eng.Node) (p:Nat):Bool :=
 if qA8 l p=nIss then strB l p else if qA8 l p=nSub then strB l p else if qA8 l p=nJti then strB l p else if qA8 l p=nExp then timB l p else if qA8 l p=nNbf then timB l p else if qA8 l p=nIat then timB l p else if qA8 l p=nAud then audB l p else true
structure Sub (l:List Eng.Node) (p:Nat):Prop where
 lt:p<l.length
 j:zan_s l (p:Int)=some (upN (subP l p))
 r:qCj l (p:Int)=some (upN (subP l p))
 inn:∀q∈subP l p,q<l.length
 len:(subP l p).length≤2000000
theorem upN_back (L:List Nat):(upN L).map Int.toNat=L:=by
 unfold upN
 rw [List.map_map]
 exact (List.map_congr_left fun a _=>Int.toNat_natCast a).trans (List.map_id L)
theorem upN_at (pre post:List Nat) (p:Nat):(upN (pre++p::post)).getD pre.length (ET.dft .i64)=(p:Int):=by
 unfold upN
 rw [List.getD_eq_getElem?_getD,List.getElem?_map,List.getElem?_append_right (Nat.le_refl _),Nat.sub_self]
 rfl
theorem sub_of {l:List Eng.Node} (hok:OkL l) {p e:Nat} (h:Tree l p e):Sub l p:=by
 obtain ⟨nd,h1,h2,h3⟩:=h.node
 obtain ⟨L,hL⟩:=h3.places
 have hlen:=hL.len
 have hlt:=(List.getElem?_eq_some_iff.1 h1).1
 have h4:=hok.1
 have hj:=j_kids hok.1 h1 h2 h3 hL
 have e1:subP l p=L:=by
  unfold subP
  rw [hj]
  exact upN_back L
 exact ⟨hlt,by rw [e1]; exact hj,by rw [e1]; exact r_kids hok.1 h1 h2 h3 hL,by rw [e1]; exact places_in hL,by rw [e1]; have:=h3.le; omega⟩
theorem aud_loop {l:List Eng.Node} (hl:l.length≤2000000) {L:List Nat} (hL:L.length≤2000000) (hin:∀q∈L,q<l.length) :
  ∀(post pre:List Nat) (A:List ByteArray),L=pre++post→A.length=pre.length→∃r,zae_p0 ((upN L).length:Int) (pre.length:Int) l (upN L) A=some r∧(post.all (strB l)=true→r=.inr (A++post.map (tX l)))∧(post.all (strB l)=false→∃A',r=.inl (false,A'))
 | [],pre,A,h,hA=>by
  refine ⟨.inr A,?_,fun _=>by simp,fun h=>by cases h⟩
  unfold zae_p0
  refine qAi ?_
  unfold qEn
  rw [qEi,deF (by rw [h,List.append_nil]; omega),cnF]
 | p::post,pre,A,h,hA=>by
  have hlen:L.length=pre.length+(post.length+1):=by rw [h,List.length_append,List.length_cons]
  have hp:=hin p (by rw [h]; exact List.mem_append_right _ List.mem_cons_self)
  have hat:(upN L).getD pre.length (ET.dft .i64)=(p:Int):=by rw [h]; exact upN_at pre post p
  by_cases hk:(l.getD p (ET.dft .node)).kind=5
  ·obtain ⟨r,h1,h2,h3⟩:=aud_loop hl hL hin post (pre++[p]) (A++[tX l p]) (by rw [h]; simp) (by simp [hA])
   have hs:strB l p=true:=deT hk
   refine ⟨r,?_,fun ha=>?_,fun ha=>?_⟩
   ·rw [←h1]
    unfold zae_p0
    rw [qAr (y:=((((pre++[p]).length:Nat):Int),A++[tX l p])) ?_]
    unfold qEn
    dsimp only
    rw [qEi,deT (by omega),cnT,qAb (by omega),Int.toNat_natCast,qAb (by omega),hat,Int.toNat_natCast,qAb (by omega),qAb (by omega),qAb (by omega),deT hk,Bool.not_true,cnF,qAb (by omega),qAb (by omega),qAb (by omega),qAb (by rw [List.length_singleton]; omega)]
    refine (qAb (by unfold qAc; omega) _).trans ?_
    rw [List.length_append]
    rfl
   ·rw [List.all_cons,hs,Bool.true_and] at ha
    rw [h2 ha]
    simp
   ·rw [List.all_cons,hs,Bool.true_and] at ha
    exact h3 ha
  ·refine ⟨.inl (false,A),?_,fun ha=>?_,fun _=>⟨A,rfl⟩⟩
   ·unfold zae_p0
    refine qAi ?_
    unfold qEn
    dsimp only
    rw [qEi,deT (by omega),cnT,qAb (by omega),Int.toNat_natCast,qAb (by omega),hat,Int.toNat_natCast,qAb (by omega),qAb (by omega),qAb (by omega),deF hk,Bool.not_false,cnT]
   ·rw [List.all_cons,show strB l p=false from deF hk,Bool.false_and] at ha
    cases ha
theorem p_aud {l:List Eng.Node} (hok:OkL l) {p:Nat} (hp:Sub l p) (hk:1≤(l.getD p (ET.dft .node)).kind∧(l.getD p (ET.dft .node)).kind≤7) (c:qHc) (hc:c.aud=[]) :
  ∃A b,zae_s c l (p:Int)=some (⟨c.value,c.iss,c.hasIss,c.sub,c.hasSub,A,true,c.jti,c.hasJti,c.exp_,c.nbf,c.iat⟩,b)∧b=audB l p∧(b=true→A=audO l (some p)):=by
 have hlt:=hp.lt
 have hp1:zae_p1 (p:Int) l=some (true,[tX l p]):=by
  unfold zae_p1
  rw [qAb (by omega),Int.toNat_natCast,qAb hlt,qAb hlt]
  rfl
 unfold zae_s
 rw [qAb (by omega),Int.toNat_natCast,qAb hlt,qAb hlt,hp1]
 by_cases h6:(l.getD p (ET.dft .node)).kind=6
 ·rw [deT h6,cnT,hp.j,obS,hc]
  obtain ⟨r,h1,h2,h3⟩:=aud_loop hok.1 hp.len hp.inn (subP l p) [] [] rfl rfl
  rw [show ((([]:List Nat).length:Nat):Int)=0 from rfl] at h1
  rw [h1,obS]
  cases ha:(subP l p).all (strB l) with
  | true =>
   rw [h2 ha]
   exact ⟨_,_,rfl,by unfold audB; rw [if_pos h6,ha],fun _=>by rw [audO_six h6]; rfl⟩
  | false =>
   obtain ⟨A',rfl⟩:=h3 ha
   exact ⟨_,_,rfl,by unfold audB; rw [if_pos h6,ha],fun h=>by cases h⟩
 ·rw [audO_else h6]
  unfold audB strB
  rw [if_neg h6]
  generalize (l.getD p (ET.dft .node)).kind=k at *
  have:k=1∨k=2∨k=3∨k=4∨k=5∨k=7:=by omega
  rcases this with rfl | rfl | rfl | rfl | rfl | rfl
  ·exact ⟨_,_,rfl,rfl,fun h=>by cases h⟩
  ·exact ⟨_,_,rfl,rfl,fun h=>by cases h⟩
  ·exact ⟨_,_,rfl,rfl,fun h=>by cases h⟩
  ·exact ⟨_,_,rfl,rfl,fun h=>by cases h⟩
  ·exact ⟨_,_,rfl,rfl,fun _=>rfl⟩
  ·exact ⟨_,_,rfl,rfl,fun h=>by cases h⟩
theorem find_hit {l:List Eng.Node} {key:ByteArray} {L:List Nat} {p:Nat} (hn:∀q∈L,qA8 l q≠qA8 l p) (hk:qA8 l p=key):qAq l key L=none∧qAq l key (L++[p])=some p:=by
 have h1:qAq l key L=none:=findK_none fun q hq he=>hn q hq (by rw [he,hk])
 refine ⟨h1,?_⟩
 rw [findK_app,h1]
 show (if qA8 l p=key then some p else none)=some p
 rw [if_pos hk]
theorem qAj {l:List Eng.Node} {key:ByteArray} (L:List Nat) {p:Nat} (hk:¬qA8 l p=key):qAq l key (L++[p])=qAq l key L:=by
 rw [findK_app]
 cases qAq l key L with
 | some q=>rfl
 | none =>
  show (if qA8 l p=key then some p else none)=none
  rw [if_neg hk]
theorem p_put {l:List Eng.Node} (hok:OkL l) {p:Nat} (hp:Sub l p) (hk:1≤(l.getD p (ET.dft .node)).kind∧(l.getD p (ET.dft .node)).kind≤7) {L:List Nat} (hn:∀q∈L,qA8 l q≠qA8 l p) :
  ∃c',zag_s (cOf l L) l (p:Int)=some (c',goodB l p)∧(goodB l p=true→c'=cOf l (L++[p])):=by
 have hlt:=hp.lt
 unfold zag_s
 rw [qAb (by omega),Int.toNat_natCast,qAb hlt]
 show ∃c',(bif decide (qA8 l p=nIss) then some (_,strB l p) else bif decide (qA8 l p=nSub) then some (_,strB l p) else bif decide (qA8 l p=nJti) then some (_,strB l p) else bif decide (qA8 l p=nExp) then some (_,timB l p) else bif decide (qA8 l p=nNbf) then some (_,timB l p) else bif decide (qA8 l p=nIat) then some (_,timB l p) else bif decide (qA8 l p=nAud) then _ else some (_,true))=_∧_
 have n12:¬nIss=nSub:=by decide
 have n13:¬nIss=nJti:=by decide
 have n14:¬nIss=nExp:=by decide
 have n15:¬nIss=nNbf:=by decide
 have n16:¬nIss=nIat:=by decide
 have n17:¬nIss=nAud:=by decide
 have n23:¬nSub=nJti:=by decide
 have n24:¬nSub=nExp:=by decide
 have n25:¬nSub=nNbf:=by decide
 have n26:¬nSub=nIat:=by decide
 have n27:¬nSub=nAud:=by decide
 have n34:¬nJti=nExp:=by decide
 have n35:¬nJti=nNbf:=by decide
 have n36:¬nJti=nIat:=by decide
 have n37:¬nJti=nAud:=by decide
 have n45:¬nExp=nNbf:=by decide
 have n46:¬nExp=nIat:=by decide
 have n47:¬nExp=nAud:=by decide
 have n56:¬nNbf=nIat:=by decide
 have n57:¬nNbf=nAud:=by decide
 have n67:¬nIat=nAud:=by decide
 have nm:∀ {a b:ByteArray},qA8 l p=a→¬a=b→¬qA8 l p=b:=fun h h'=>by rw [h]; exact h'
 have nm':∀ {a b:ByteArray},qA8 l p=a→¬b=a→¬qA8 l p=b:=fun h h'=>by rw [h]; exact fun e=>h' e.symm
 have hgood:goodB l p=if qA8 l p=nIss then strB l p else if qA8 l p=nSub then strB l p else if qA8 l p=nJti then strB l p else if qA8 l p=nExp then timB l p else if qA8 l p=nNbf then timB l p else if qA8 l p=nIat then timB l p else if qA8 l p=nAud then audB l p else true:=rfl
 by_cases h1:qA8 l p=nIss
 ·rw [deT h1,cnT,hgood,if_pos h1]
  refine ⟨_,rfl,fun _=>?_⟩
  unfold cOf
  rw [(find_hit hn h1).2,qAj L (nm h1 n12),qAj L (nm h1 n13),qAj L (nm h1 n14),qAj L (nm h1 n15),qAj L (nm h1 n16),qAj L (nm h1 n17)]
  rfl
 rw [deF h1,cnF,if_neg h1] at *
 by_cases h2:qA8 l p=nSub
 ·rw [deT h2,cnT,hgood,if_pos h2]
  refine ⟨_,rfl,fun _=>?_⟩
  unfold cOf
  rw [(find_hit hn h2).2,qAj L h1,qAj L (nm h2 n23),qAj L (nm h2 n24),qAj L (nm h2 n25),qAj L (nm h2 n26),qAj L (nm h2 n27)]
  rfl
 rw [deF h2,cnF,if_neg h2] at *
 by_cases h3:qA8 l p=nJti
 ·rw [deT h3,cnT,hgood,if_pos h3]
  refine ⟨_,rfl,fun _=>?_⟩
  unfold cOf
  rw [(find_hit hn h3).2,qAj L h1,qAj L h2,qAj L (nm h3 n34),qAj L (nm h3 n35),qAj L (nm h3 n36),qAj L (nm h3 n37)]
  rfl
 rw [deF h3,cnF,if_neg h3] at *
 by_cases h4:qA8 l p=nExp
 ·rw [deT h4,cnT,hgood,if_pos h4]
  refine ⟨_,rfl,fun _=>?_⟩
  unfold cOf
  rw [(find_hit hn h4).2,qAj L h1,qAj L h2,qAj L h3,qAj L (nm h4 n45),qAj L (nm h4 n46),qAj L (nm h4 n47)]
  rfl
 rw [deF h4,cnF,if_neg h4] at *
 by_cases h5:qA8 l p=nNbf
 ·rw [deT h5,cnT,hgood,if_pos h5]
  refine ⟨_,rfl,fun _=>?_⟩
  unfold cOf
  rw [(find_hit hn h5).2,qAj L h1,qAj L h2,qAj L h3,qAj L h4,qAj L (nm h5 n56),qAj L (nm h5 n57)]
  rfl
 rw [deF h5,cnF,if_neg h5] at *
 by_cases h6:qA8 l p=nIat
 ·rw [deT h6,cnT,hgood,if_pos h6]
  refine ⟨_,rfl,fun _=>?_⟩
  unfold cOf
  rw [(find_hit hn h6).2,qAj L h1,qAj L h2,qAj L h3,qAj L h4,qAj L h5,qAj L (nm h6 n67)]
  rfl
 rw [deF h6,cnF,if_neg h6] at *
 by_cases h7:qA8 l p=nAud
 ·rw [deT h7,cnT,hgood,if_pos h7]
  obtain ⟨f1,f2⟩:=find_hit hn h7
  obtain ⟨A,b,g1,g2,g3⟩:=p_aud hok hp hk (cOf l L) (by show audO l (qAq l nAud L)=[]; rw [f1]; rfl)
  rw [g1,obS]
  refine ⟨_,by rw [←g2],fun hb=>?_⟩
  rw [g3 (by rw [g2]; exact hb)]
  unfold cOf
  rw [f2,qAj L h1,qAj L h2,qAj L h3,qAj L h4,qAj L h5,qAj L h6]
  rfl
 rw [deF h7,cnF,if_neg h7] at *
 refine ⟨_,by rw [hgood],fun _=>?_⟩
 unfold cOf
 rw [qAj L h1,qAj L h2,qAj L h3,qAj L h4,qAj L h5,qAj L h6,qAj L h7]
theorem memI_some (p:Nat):memI (some p)=(p:Int):=rfl
def okO (f:Nat→Bool):Option Nat→Bool
 | none=>true
 | some p=>f p
section
variable {l:List Eng.Node} {L:List Nat} (hO:Obj l L)
include hO
theorem Obj.find_lt {key:ByteArray} {p:Nat} (h:qAq l key L=some p):p<l.length∧Sub l p:=by
 obtain ⟨h1,h2⟩:=findK_mem h
 obtain ⟨e,he⟩:=hO.tree p h1
 have:=sub_of hO.ok he
 exact ⟨this.lt,this⟩
end
def tupC (c:qHc):ByteArray × Bool × ByteArray × Bool × Bool × ByteArray × Bool × Bool × Int × Bool × Int × Bool × Int × (List ByteArray) :=
 (c.iss,c.hasIss,c.sub,c.hasSub,c.hasAud,c.jti,c.hasJti,c.exp_.has,c.exp_.at_,c.nbf.has,c.nbf.at_,c.iat.has,c.iat.at_,c.aud)
def noC:qHc:=⟨[],⟨#[]⟩,false,⟨#[]⟩,false,[],false,⟨#[]⟩,false,⟨false,0⟩,⟨false,0⟩,⟨false,0⟩⟩
theorem claims_loop {l:List Eng.Node} {L:List Nat} (hO:Obj l L) (hkd:∀n∈l,1≤n.kind∧n.kind≤7) (hL:L.length≤2000000) :
  ∀(post pre:List Nat),L=pre++post→zad_p0 ((upN L).length:Int) (pre.length:Int) l (cOf l pre).iss (cOf l pre).hasIss (cOf l pre).sub (cOf l pre).hasSub (cOf l pre).hasAud (cOf l pre).jti (cOf l pre).hasJti (cOf l pre).exp_.has (cOf l pre).exp_.at_ (cOf l pre).nbf.has (cOf l pre).nbf.at_ (cOf l pre).iat.has (cOf l pre).iat.at_ (upN L) [] (cOf l pre).aud =
   some (if post.all (goodB l)=true then .inr (tupC (cOf l L)) else .inl (131,⟨#[]⟩,false,⟨#[]⟩,false,false,⟨#[]⟩,false,false,0,false,0,false,0,[],[]))
 | [],pre,h=>by
  unfold zad_p0
  refine qAi ?_
  unfold qEk
  rw [qEi,deF (by rw [h,List.append_nil]; omega),cnF,h,List.append_nil]
  rfl
 | p::post,pre,h=>by
  have hlen:L.length=pre.length+(post.length+1):=by rw [h,List.length_append,List.length_cons]
  obtain ⟨e,he⟩:=hO.tree p (by rw [h]; exact List.mem_append_right _ List.mem_cons_self)
  have hp:=sub_of hO.ok he
  have hat:(upN L).getD pre.length (ET.dft .i64)=(p:Int):=by rw [h]; exact upN_at pre post p
  have hu:=hO.uniq
  rw [h] at hu
  have hkp:1≤(l.getD p (ET.dft .node)).kind∧(l.getD p (ET.dft .node)).kind≤7:=by
   rw [List.getD_eq_getElem?_getD,List.getElem?_eq_getElem hp.lt]
   exact hkd _ (List.getElem_mem hp.lt)
  obtain ⟨c',h1,h2⟩:=p_put hO.ok hp hkp hu.before
  have h1':zag_s (⟨[],(cOf l pre).iss,(cOf l pre).hasIss,(cOf l pre).sub,(cOf l pre).hasSub,(cOf l pre).aud,(cOf l pre).hasAud,(cOf l pre).jti,(cOf l pre).hasJti,(⟨(cOf l pre).exp_.has,(cOf l pre).exp_.at_⟩:qHf),(⟨(cOf l pre).nbf.has,(cOf l pre).nbf.at_⟩:qHf),(⟨(cOf l pre).iat.has,(cOf l pre).iat.at_⟩:qHf)⟩:qHc) l (p:Int)=some (c',goodB l p):=h1
  by_cases hg:goodB l p=true
  ·have ih:=claims_loop hO hkd hL post (pre++[p]) (by rw [h]; simp)
   rw [List.all_cons,hg,Bool.true_and,←ih]
   rw [h2 hg] at h1'
   unfold zad_p0
   rw [qAr (y:=((((pre++[p]).length:Nat):Int),tupC (cOf l (pre++[p])))) ?_]
   ·rfl
   unfold qEk
   dsimp only
   rw [qEi,deT (by omega),cnT,qAb (by omega),Int.toNat_natCast,qAb (by omega),hat,h1',obS,hg,Bool.not_true,cnF]
   refine (qAb (by unfold qAc; omega) _).trans ?_
   rw [List.length_append]
   rfl
  ·have hg':=Bool.eq_false_iff.2 hg
   rw [List.all_cons,hg',Bool.false_and,if_neg (by decide)]
   unfold zad_p0
   refine qAi ?_
   unfold qEk
   dsimp only
   rw [qEi,deT (by omega),cnT,qAb (by omega),Int.toNat_natCast,qAb (by omega),hat,h1',obS,hg',Bool.not_false,cnT]
noncomputable def allO (l:List Eng.Node) (L:List Nat):Bool:=okO (strB l) (qAq l nIss L) && okO (strB l) (qAq l nSub L) && okO (strB l) (qAq l nJti L) && okO (audB l) (qAq l nAud L) && okO (timB l) (qAq l nExp L) && okO (timB l) (qAq l nNbf L) && okO (timB l) (qAq l nIat L)
theorem okO_of {f:Nat→Bool} {o:Option Nat} (h:∀p,o=some p→f p=true):okO f o=true:=by
 cases o with
 | none=>rfl
 | some p=>exact h p rfl
theorem all_good {l:List Eng.Node} {L:List Nat} (hu:Uniq l L):L.all (goodB l)=allO l L:=by
 have hgood:∀p,goodB l p=if qA8 l p=nIss then strB l p else if qA8 l p=nSub then strB l p else if qA8 l p=nJti then strB l p else if qA8 l p=nExp then timB l p else if qA8 l p=nNbf then timB l p else if qA8 l p=nIat then timB l p else if qA8 l p=nAud then audB l p else true:=fun p=>rfl
 rw [Bool.eq_iff_iff]
 unfold allO
 simp only [Bool.and_eq_true,List.all_eq_true]
 constructor
 ·intro h
  have g:∀key p,qAq l key L=some p→qA8 l p=key∧goodB l p=true:=fun key p hf=>⟨(findK_mem hf).2,h p (findK_mem hf).1⟩
  refine ⟨⟨⟨⟨⟨⟨?_,?_⟩,?_⟩,?_⟩,?_⟩,?_⟩,?_⟩ <;> refine okO_of fun p hf=>?_ <;> obtain ⟨g1,g2⟩:=g _ p hf <;> rw [hgood,g1] at g2 <;> exact g2
 ·rintro ⟨⟨⟨⟨⟨⟨h1,h2⟩,h3⟩,h4⟩,h5⟩,h6⟩,h7⟩ p hp
  obtain ⟨A,B,rfl⟩:=List.append_of_mem hp
  have hf:=hu.find
  have use:∀ {key:ByteArray} {f:Nat→Bool},okO f (qAq l key (A++p::B))=true→qA8 l p=key→f p=true:=fun h hk=>by
   rw [←hk,hf] at h
   exact h
  rw [hgood]
  split
  ·rename_i hk; exact use h1 hk
  split
  ·rename_i hk; exact use h2 hk
  split
  ·rename_i hk; exact use h3 hk
  split
  ·rename_i hk; exact use h5 hk
  split
  ·rename_i hk; exact use h6 hk
  split
  ·rename_i hk; exact use h7 hk
  split
  ·rename_i hk; exact use h4 hk
  ·rfl
noncomputable def fullC (l:List Eng.Node) (L:List Nat):qHc:=⟨l,(cOf l L).iss,(cOf l L).hasIss,(cOf l L).sub,(cOf l L).hasSub,(cOf l L).aud,(cOf l L).hasAud,(cOf l L).jti,(cOf l L).hasJti,(cOf l L).exp_,(cOf l L).nbf,(cOf l L).iat⟩
end Go.Proofs.YticplgndjpljiaaDoor
