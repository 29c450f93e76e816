/-
  ClaimsParses: its call returns true.
-/
import Derived.Below
import Derived.Carry
import Derived.Lib.LaidU8
import Derived.Shelf.Lay
import Derived.Ground.NamesProg
import Derived.Test.YticplgndjpljiaaDoorPTreeS
import Derived.Test.YticplgndjpljiaaDoorJW
import Derived.Test.YticplgndjpljiaaDoorEngN
import Derived.Test.YticplgndjpljiaaDoorEngO
import Derived.Test.YticplgndjpljiaaDoorProg
import Derived.Test.YticplgndjpljiaaDoorRows
namespace Go.Proofs.YticplgndjpljiaaDoor
open Go.Eng
set_option linter.unusedVariables false
set_option linter.unusedSimpArgs false
def Uniq (l:List Eng.Node):List Nat→Prop
 | []=>True
 | p::r=>(∀q∈r,qBc l q≠qBc l p)∧Uniq l r
theorem kidsS_uniq {v:List Eng.Node} {d:Nat}:∀(k a:Nat) (names:List ByteArray) (e:Nat) (L:List Nat),kidsS v (oneS v d true) true k a names=some e→qDy v k a L e→(∀a b,oneS v d true a=some b→Tree v a b)→(∀p∈L,¬qBc v p∈names)∧Uniq v L
 | 0,a,names,e,L,h,hL,ht=>by
  obtain ⟨rfl,_⟩:=hL
  exact ⟨fun p hp=>(by cases hp),tV⟩
 | k+1,a,names,e,L,h,hL,ht=>by
  obtain ⟨b,r,rfl,g1,g2⟩:=hL
  unfold kidsS at h
  cases ho:oneS v d true a with
  | none=>rw [ho] at h; cases h
  | some b' =>
   rw [ho] at h
   dsimp only at h
   have:=Trees.det (ht _ _ ho) g1
   subst this
   split at h
   ·cases h
   ·rename_i hn
    have hn:¬qBc v a∈names:=fun hm=>hn ⟨rfl,hm⟩
    obtain ⟨i1,i2⟩:=kidsS_uniq k b' (names++[qBc v a]) e r h g2 ht
    refine ⟨fun p hp=>?_,fun q hq he=>?_,i2⟩
    ·rcases List.mem_cons.1 hp with rfl | hp
     ·exact hn
     ·exact fun hm=>i1 p hp (List.mem_append_left _ hm)
    ·exact i1 q hq (by rw [he]; exact List.mem_append_right _ List.mem_cons_self)
theorem findK_app {l:List Eng.Node} (key:ByteArray):∀(L M:List Nat),qBk l key (L++M)=match qBk l key L with | some p=>some p | none=>qBk l key M
 | [],M=>rfl
 | p::r,M=>by
  show (if (l.getD p (ET.dft .node)).key=key then some p else qBk l key (r++M))=match (if (l.getD p (ET.dft .node)).key=key then some p else qBk l key r) with | some p=>some p | none=>qBk l key M
  by_cases h:(l.getD p (ET.dft .node)).key=key
  ·rw [if_pos h,if_pos h]
  ·rw [if_neg h,if_neg h,findK_app key r M]
theorem findK_mem {l:List Eng.Node} {key:ByteArray}:∀ {L:List Nat} {p:Nat},qBk l key L=some p→p∈L∧qBc l p=key
 | [],p,h=>by cases h
 | q::r,p,h=>by
  unfold qBk at h
  split at h
  ·rename_i hq
   cases h
   exact ⟨List.mem_cons_self,hq⟩
  ·obtain ⟨i1,i2⟩:=findK_mem h
   exact ⟨List.mem_cons_of_mem _ i1,i2⟩
theorem findK_none {l:List Eng.Node} {key:ByteArray}:∀ {L:List Nat},(∀q∈L,qBc l q≠key)→qBk l key L=none
 | [],h=>rfl
 | q::r,h=>by
  unfold qBk
  rw [if_neg (show ¬(l.getD q (ET.dft .node)).key=key from h q List.mem_cons_self)]
  exact findK_none fun p hp=>h p (List.mem_cons_of_mem _ hp)
theorem Uniq.before {l:List Eng.Node}:∀ {L:List Nat} {p:Nat} {M:List Nat},Uniq l (L++p::M)→∀q∈L,qBc l q≠qBc l p
 | [],p,M,h,q,hq=>by cases hq
 | x::L,p,M,h,q,hq=>by
  rcases List.mem_cons.1 hq with rfl | hq
  ·exact fun he=>h.1 p (List.mem_append_right _ List.mem_cons_self) he.symm
  ·exact Uniq.before h.2 q hq
theorem Uniq.find {l:List Eng.Node} {L M:List Nat} {p:Nat} (h:Uniq l (L++p::M)):qBk l (qBc l p) (L++p::M)=some p:=by
 rw [findK_app,findK_none h.before]
 show (if qBc l p=qBc l p then some p else _)=_
 rw [if_pos rfl]
structure Obj (l:List Eng.Node) (L:List Nat):Prop where
 ok:OkL l
 kids:zaj_s l 0=some (upN L)
 rkids:zbt_s l 0=some (upN L)
 tree:∀p∈L,∃e,Tree l p e
 uniq:Uniq l L
 mem:∀key,json_Member_s l 0 key=some (memI (qBk l key L))∧zbu_s l 0 key=some (memI (qBk l key L))
 kind:(l.getD 0 (ET.dft .node)).kind=7
 ne:0<l.length
theorem places_tree {v:List Eng.Node}:∀ {k a e:Nat} {L:List Nat},qDy v k a L e→∀p∈L,∃e',Tree v p e'
 | 0,a,e,L,h,p,hp=>by rw [h.1] at hp; cases hp
 | k+1,a,e,L,h,p,hp=>by
  obtain ⟨b,r,rfl,g1,g2⟩:=h
  rcases List.mem_cons.1 hp with rfl | hp
  ·exact ⟨b,g1⟩
  ·exact places_tree g2 p hp
theorem obj_read {t:ByteArray} {l:List Eng.Node} (hs:t.size≤262144) (hr:readR t=.ok t.size l) (hok:OkL l) (ht:Tree l 0 l.length) (h7:(l.getD 0 (ET.dft .node)).kind=7) (hone:∀d a b,oneS l d true a=some b→Tree l a b):∃L,Obj l L:=by
 obtain ⟨nd,h1,h2,h3⟩:=ht.node
 obtain ⟨L,hL⟩:=h3.places
 have hlt:=(List.getElem?_eq_some_iff.1 h1).1
 have hnd:l.getD 0 (ET.dft .node)=nd:=by rw [List.getD_eq_getElem?_getD,h1]; rfl
 have h7':nd.kind=7:=by rw [←hnd]; exact h7
 have hsh:=readR_shape hs hr
 unfold oneS at hsh
 rw [h1] at hsh
 dsimp only at hsh
 refine ⟨L,hok,?_,?_,places_tree hL,?_,fun key=>?_,h7,hlt⟩
 ·have:=j_kids hok.1 h1 h2 h3 hL
  rwa [show ((0:Nat):Int)=0 from rfl] at this
 ·have:=r_kids hok.1 h1 h2 h3 hL
  rwa [show ((0:Nat):Int)=0 from rfl] at this
 ·split at hsh
  ·rw [deT h7'] at hsh
   exact (kidsS_uniq _ _ _ _ _ hsh hL fun a b h=>hone _ a b h).2
  ·cases hsh
 ·have:=member_find hok.1 h1 h2 h3 hL key
  rw [if_pos h7',show ((0:Nat):Int)=0 from rfl] at this
  exact this
theorem texts_loop (l:List ByteArray) (hl:l.length≤4000000):∀(j i:Nat),i+j=l.length→zbj_p0 (i:Int) l l=some (.inr ())
 | 0,i,h=>by
  unfold zbj_p0
  refine qAj ?_
  unfold qFl
  rw [deF (by omega),cnF]
 | j+1,i,h=>by
  have ih:=texts_loop l hl j (i+1) (by omega)
  unfold zbj_p0 at ih ⊢
  rw [qAv (y:=((i+1:Nat):Int)) ?_,ih]
  unfold qFl
  rw [deT (by omega),cnT,qAb (by omega),qAb (by omega),qAb (by omega),qAb (by omega)]
  simp only [decide_true,Bool.not_true,cnF]
  exact qAb (by unfold qAe; omega) _
theorem texts_self (l:List ByteArray) (hl:l.length≤4000000):zbj_s l l=some true:=by
 have:=texts_loop l hl l.length 0 (by omega)
 rw [show ((0:Nat):Int)=0 from rfl] at this
 unfold zbj_s
 rw [deT rfl,Bool.not_true,cnF,this]
 rfl
theorem nodes_loop (v:List Eng.Node) (hv:v.length≤3000000):∀(j i:Nat),i+j=v.length→zbi_p0 (i:Int) v v=some (.inr ())
 | 0,i,h=>by
  unfold zbi_p0
  refine qAj ?_
  unfold qE9
  rw [deF (by omega),cnF]
 | j+1,i,h=>by
  have ih:=nodes_loop v hv j (i+1) (by omega)
  unfold zbi_p0 at ih ⊢
  rw [qAv (y:=((i+1:Nat):Int)) ?_,ih]
  unfold qE9
  rw [deT (by omega),cnT,qAb (by omega),qAb (by omega),qAb (by omega),qAb (by omega)]
  simp only [decide_true,beq_self_eq_true,Bool.and_self,Bool.not_true,cnF]
  exact qAb (by unfold qAe; omega) _
theorem nodes_self (v:List Eng.Node) (hv:v.length≤3000000):zbi_s v v=some true:=by
 have:=nodes_loop v hv v.length 0 (by omega)
 rw [show ((0:Nat):Int)=0 from rfl] at this
 unfold zbi_s
 rw [deT rfl,Bool.not_true,cnF,this]
 rfl
theorem claims_self (c:qG3) (h1:c.value.length≤2000000) (h2:c.aud.length≤2000000):zbh_s c c=some true:=by
 unfold zbh_s
 simp only [decide_true,beq_self_eq_true,Bool.and_self,cnT,texts_self c.aud (by omega),nodes_self c.value (by omega),obS]
def nIss:ByteArray:=⟨#[105,115,115]⟩
def nSub:ByteArray:=⟨#[115,117,98]⟩
def nJti:ByteArray:=⟨#[106,116,105]⟩
def nAud:ByteArray:=⟨#[97,117,100]⟩
def nExp:ByteArray:=⟨#[101,120,112]⟩
def nNbf:ByteArray:=⟨#[110,98,102]⟩
def nIat:ByteArray:=⟨#[105,97,116]⟩
def tX (l:List Eng.Node) (p:Nat):ByteArray:=(l.getD p (ET.dft .node)).text
def txtO (l:List Eng.Node):Option Nat→ByteArray
 | some p=>tX l p
 | none=>⟨#[]⟩
def timO (l:List Eng.Node):Option Nat→qG7
 | some p=>⟨true,(l.getD p (ET.dft .node)).int⟩
 | none=>⟨false,0⟩
noncomputable def subP (l:List Eng.Node) (p:Nat):List Nat:=((zaj_s l (p:Int)).getD []).map Int.toNat
noncomputable def audO (l:List Eng.Node):Option Nat→List ByteArray
 | some p=>if (l.getD p (ET.dft .node)).kind=6 then (subP l p).map (tX l) else [tX l p]
 | none=>[]
noncomputable def cOf (l:List Eng.Node) (L:List Nat):qG3 :=
 ⟨[],txtO l (qBk l nIss L),(qBk l nIss L).isSome,txtO l (qBk l nSub L),(qBk l nSub L).isSome,audO l (qBk l nAud L),(qBk l nAud L).isSome,txtO l (qBk l nJti L),(qBk l nJti L).isSome,timO l (qBk l nExp L),timO l (qBk l nNbf L),timO l (qBk l nIat L)⟩
theorem audO_six {l:List Eng.Node} {p:Nat} (h:(l.getD p (ET.dft .node)).kind=6):audO l (some p)=(subP l p).map (tX l):=if_pos h
theorem audO_else {l:List Eng.Node} {p:Nat} (h:¬(l.getD p (ET.dft .node)).kind=6):audO l (some p)=[tX l p]:=if_neg h
def strB (l:List Eng.Node) (p:Nat):Bool:=decide ((l.getD p (ET.dft .node)).kind=5)
def timB (l:List Eng.Node) (p:Nat):Bool:=decide ((l.getD p (ET.dft .node)).kind=4) && (l.getD p (ET.dft .node)).whole
noncomputable def audB (l:List Eng.Node) (p:Nat):Bool:=if (l.getD p (ET.dft .node)).kind=6 then (subP l p).all (strB l) else strB l p
noncomputable def goodB (l:List Eng.Node) (p:Nat):Bool :=
 if qBc l p=nIss then strB l p else if qBc l p=nSub then strB l p else if qBc l p=nJti then strB l p else if qBc l p=nExp then timB l p else if qBc l p=nNbf then timB l p else if qBc l p=nIat then timB l p else if qBc l p=nAud then audB l p else true
structure Sub (l:List Eng.Node) (p:Nat):Prop where
 lt:p<l.length
 j:zaj_s l (p:Int)=some (upN (subP l p))
 r:zbt_s l (p:Int)=some (upN (subP l p))
 inn:∀q∈subP l p,q<l.length
 len:(subP l p).length≤2000000
theorem upN_back (L:List Nat):(upN L).map Int.toNat=L:=by
 unfold upN
 rw [List.map_map]
 exact (List.map_congr_left fun a _=>Int.toNat_natCast a).trans (List.map_id L)
theorem upN_at (pre post:List Nat) (p:Nat):(upN (pre++p::post)).getD pre.length (ET.dft .i64)=(p:Int):=by
 unfold upN
 rw [List.getD_eq_getElem?_getD,List.getElem?_map,List.getElem?_append_right (Nat.le_refl _),Nat.sub_self]
 rfl
theorem sub_of {l:List Eng.Node} (hok:OkL l) {p e:Nat} (h:Tree l p e):Sub l p:=by
 obtain ⟨nd,h1,h2,h3⟩:=h.node
 obtain ⟨L,hL⟩:=h3.places
 have hlen:=hL.len
 have hlt:=(List.getElem?_eq_some_iff.1 h1).1
 have h4:=hok.1
 have hj:=j_kids hok.1 h1 h2 h3 hL
 have e1:subP l p=L:=by
  unfold subP
  rw [hj]
  exact upN_back L
 exact ⟨hlt,by rw [e1]; exact hj,by rw [e1]; exact r_kids hok.1 h1 h2 h3 hL,by rw [e1]; exact places_in hL,by rw [e1]; have:=h3.le; omega⟩
theorem aud_loop {l:List Eng.Node} (hl:l.length≤2000000) {L:List Nat} (hL:L.length≤2000000) (hin:∀q∈L,q<l.length) :
  ∀(post pre:List Nat) (A:List ByteArray),L=pre++post→A.length=pre.length→∃r,zab_p0 ((upN L).length:Int) (pre.length:Int) l (upN L) A=some r∧(post.all (strB l)=true→r=.inr (A++post.map (tX l)))∧(post.all (strB l)=false→∃A',r=.inl (false,A'))
 | [],pre,A,h,hA=>by
  refine ⟨.inr A,?_,fun _=>by simp,fun h=>by cases h⟩
  unfold zab_p0
  refine qAj ?_
  unfold qD3
  rw [qDp,deF (by rw [h,List.append_nil]; omega),cnF]
 | p::post,pre,A,h,hA=>by
  have hlen:L.length=pre.length+(post.length+1):=by rw [h,List.length_append,List.length_cons]
  have hp:=hin p (by rw [h]; exact List.mem_append_right _ List.mem_cons_self)
  have hat:(upN L).getD pre.length (ET.dft .i64)=(p:Int):=by rw [h]; exact upN_at pre post p
  by_cases hk:(l.getD p (ET.dft .node)).kind=5
  ·obtain ⟨r,h1,h2,h3⟩:=aud_loop hl hL hin post (pre++[p]) (A++[tX l p]) (by rw [h]; simp) (by simp [hA])
   have hs:strB l p=true:=deT hk
   refine ⟨r,?_,fun ha=>?_,fun ha=>?_⟩
   ·rw [←h1]
    unfold zab_p0
    rw [qAv (y:=((((pre++[p]).length:Nat):Int),A++[tX l p])) ?_]
    unfold qD3
    dsimp only
    rw [qDp,deT (by omega),cnT,qAb (by omega),Int.toNat_natCast,qAb (by omega),hat,Int.toNat_natCast,qAb (by omega),qAb (by omega),qAb (by omega),deT hk,Bool.not_true,cnF,qAb (by omega),qAb (by omega),qAb (by omega),qAb (by rw [List.length_singleton]; omega)]
    refine (qAb (by unfold qAe; omega) _).trans ?_
    rw [List.length_append]
    rfl
   ·rw [List.all_cons,hs,Bool.true_and] at ha
    rw [h2 ha]
    simp
   ·rw [List.all_cons,hs,Bool.true_and] at ha
    exact h3 ha
  ·refine ⟨.inl (false,A),?_,fun ha=>?_,fun _=>⟨A,rfl⟩⟩
   ·unfold zab_p0
    refine qAj ?_
    unfold qD3
    dsimp only
    rw [qDp,deT (by omega),cnT,qAb (by omega),Int.toNat_natCast,qAb (by omega),hat,Int.toNat_natCast,qAb (by omega),qAb (by omega),qAb (by omega),deF hk,Bool.not_false,cnT]
   ·rw [List.all_cons,show strB l p=false from deF hk,Bool.false_and] at ha
    cases ha
theorem texts_lp {l:List Eng.Node} (hl:l.length≤2000000) {L:List Nat} (hL:L.length≤2000000) (hin:∀q∈L,q<l.length) :
  ∀(post pre:List Nat) (A:List ByteArray),L=pre++post→A.length=pre.length→zbm_p0 (pre.length:Int) l A (upN L)=some (if post.all (strB l)=true then .inr (A++post.map (tX l)) else .inl (false,false,[]))
 | [],pre,A,h,hA=>by
  unfold zbm_p0
  refine qAj ?_
  unfold qEe
  rw [qDp,deF (by rw [h,List.append_nil]; omega),cnF]
  simp
 | p::post,pre,A,h,hA=>by
  have hlen:L.length=pre.length+(post.length+1):=by rw [h,List.length_append,List.length_cons]
  have hp:=hin p (by rw [h]; exact List.mem_append_right _ List.mem_cons_self)
  have hat:(upN L).getD pre.length (ET.dft .i64)=(p:Int):=by rw [h]; exact upN_at pre post p
  by_cases hk:(l.getD p (ET.dft .node)).kind=5
  ·have ih:=texts_lp hl hL hin post (pre++[p]) (A++[tX l p]) (by rw [h]; simp) (by simp [hA])
   have hs:strB l p=true:=deT hk
   rw [List.all_cons,hs,Bool.true_and,show A++(p::post).map (tX l)=(A++[tX l p])++post.map (tX l) by simp,←ih]
   unfold zbm_p0
   rw [qAv (y:=((((pre++[p]).length:Nat):Int),A++[tX l p])) ?_]
   unfold qEe
   dsimp only
   rw [qDp,deT (by omega),cnT,qAb (by omega),Int.toNat_natCast,qAb (by omega),hat,Int.toNat_natCast,qAb (by omega),qAb (by omega),qAb (by omega),deT hk,Bool.not_true,cnF,qAb (by omega),qAb (by omega),qAb (by omega),qAb (by omega),qAb (by omega),qAb (by rw [List.length_singleton]; omega)]
   refine (qAb (by unfold qAe; omega) _).trans ?_
   rw [List.length_append]
   rfl
  ·rw [List.all_cons,show strB l p=false from deF hk,Bool.false_and,if_neg (by decide)]
   unfold zbm_p0
   refine qAj ?_
   unfold qEe
   dsimp only
   rw [qDp,deT (by omega),cnT,qAb (by omega),Int.toNat_natCast,qAb (by omega),hat,Int.toNat_natCast,qAb (by omega),qAb (by omega),qAb (by omega),deF hk,Bool.not_false,cnT]
theorem p_aud {l:List Eng.Node} (hok:OkL l) {p:Nat} (hp:Sub l p) (hk:1≤(l.getD p (ET.dft .node)).kind∧(l.getD p (ET.dft .node)).kind≤7) (c:qG3) (hc:c.aud=[]) :
  ∃A b,zab_s c l (p:Int)=some (⟨c.value,c.iss,c.hasIss,c.sub,c.hasSub,A,true,c.jti,c.hasJti,c.exp_,c.nbf,c.iat⟩,b)∧b=audB l p∧(b=true→A=audO l (some p)):=by
 have hlt:=hp.lt
 have hp1:zab_p1 (p:Int) l=some (true,[tX l p]):=by
  unfold zab_p1
  rw [qAb (by omega),Int.toNat_natCast,qAb hlt,qAb hlt]
  rfl
 unfold zab_s
 rw [qAb (by omega),Int.toNat_natCast,qAb hlt,qAb hlt,hp1]
 by_cases h6:(l.getD p (ET.dft .node)).kind=6
 ·rw [deT h6,cnT,hp.j,obS,hc]
  obtain ⟨r,h1,h2,h3⟩:=aud_loop hok.1 hp.len hp.inn (subP l p) [] [] rfl rfl
  rw [show ((([]:List Nat).length:Nat):Int)=0 from rfl] at h1
  rw [h1,obS]
  cases ha:(subP l p).all (strB l) with
  | true =>
   rw [h2 ha]
   exact ⟨_,_,rfl,by unfold audB; rw [if_pos h6,ha],fun _=>by rw [audO_six h6]; rfl⟩
  | false =>
   obtain ⟨A',rfl⟩:=h3 ha
   exact ⟨_,_,rfl,by unfold audB; rw [if_pos h6,ha],fun h=>by cases h⟩
 ·rw [audO_else h6]
  unfold audB strB
  rw [if_neg h6]
  generalize (l.getD p (ET.dft .node)).kind=k at *
  have:k=1∨k=2∨k=3∨k=4∨k=5∨k=7:=by omega
  rcases this with rfl | rfl | rfl | rfl | rfl | rfl
  ·exact ⟨_,_,rfl,rfl,fun h=>by cases h⟩
  ·exact ⟨_,_,rfl,rfl,fun h=>by cases h⟩
  ·exact ⟨_,_,rfl,rfl,fun h=>by cases h⟩
  ·exact ⟨_,_,rfl,rfl,fun h=>by cases h⟩
  ·exact ⟨_,_,rfl,rfl,fun _=>rfl⟩
  ·exact ⟨_,_,rfl,rfl,fun h=>by cases h⟩
theorem find_hit {l:List Eng.Node} {key:ByteArray} {L:List Nat} {p:Nat} (hn:∀q∈L,qBc l q≠qBc l p) (hk:qBc l p=key):qBk l key L=none∧qBk l key (L++[p])=some p:=by
 have h1:qBk l key L=none:=findK_none fun q hq he=>hn q hq (by rw [he,hk])
 refine ⟨h1,?_⟩
 rw [findK_app,h1]
 show (if qBc l p=key then some p else none)=some p
 rw [if_pos hk]
theorem qAm {l:List Eng.Node} {key:ByteArray} (L:List Nat) {p:Nat} (hk:¬qBc l p=key):qBk l key (L++[p])=qBk l key L:=by
 rw [findK_app]
 cases qBk l key L with
 | some q=>rfl
 | none =>
  show (if qBc l p=key then some p else none)=none
  rw [if_neg hk]
theorem p_put {l:List Eng.Node} (hok:OkL l) {p:Nat} (hp:Sub l p) (hk:1≤(l.getD p (ET.dft .node)).kind∧(l.getD p (ET.dft .node)).kind≤7) {L:List Nat} (hn:∀q∈L,qBc l q≠qBc l p) :
  ∃c',zac_s (cOf l L) l (p:Int)=some (c',goodB l p)∧(goodB l p=true→c'=cOf l (L++[p])):=by
 have hlt:=hp.lt
 unfold zac_s
 rw [qAb (by omega),Int.toNat_natCast,qAb hlt]
 show ∃c',(bif decide (qBc l p=nIss) then some (_,strB l p) else bif decide (qBc l p=nSub) then some (_,strB l p) else bif decide (qBc l p=nJti) then some (_,strB l p) else bif decide (qBc l p=nExp) then some (_,timB l p) else bif decide (qBc l p=nNbf) then some (_,timB l p) else bif decide (qBc l p=nIat) then some (_,timB l p) else bif decide (qBc l p=nAud) then _ else some (_,true))=_∧_
 have n12:¬nIss=nSub:=by decide
 have n13:¬nIss=nJti:=by decide
 have n14:¬nIss=nExp:=by decide
 have n15:¬nIss=nNbf:=by decide
 have n16:¬nIss=nIat:=by decide
 have n17:¬nIss=nAud:=by decide
 have n23:¬nSub=nJti:=by decide
 have n24:¬nSub=nExp:=by decide
 have n25:¬nSub=nNbf:=by decide
 have n26:¬nSub=nIat:=by decide
 have n27:¬nSub=nAud:=by decide
 have n34:¬nJti=nExp:=by decide
 have n35:¬nJti=nNbf:=by decide
 have n36:¬nJti=nIat:=by decide
 have n37:¬nJti=nAud:=by decide
 have n45:¬nExp=nNbf:=by decide
 have n46:¬nExp=nIat:=by decide
 have n47:¬nExp=nAud:=by decide
 have n56:¬nNbf=nIat:=by decide
 have n57:¬nNbf=nAud:=by decide
 have n67:¬nIat=nAud:=by decide
 have nm:∀ {a b:ByteArray},qBc l p=a→¬a=b→¬qBc l p=b:=fun h h'=>by rw [h]; exact h'
 have nm':∀ {a b:ByteArray},qBc l p=a→¬b=a→¬qBc l p=b:=fun h h'=>by rw [h]; exact fun e=>h' e.symm
 have hgood:goodB l p=if qBc l p=nIss then strB l p else if qBc l p=nSub then strB l p else if qBc l p=nJti then strB l p else if qBc l p=nExp then timB l p else if qBc l p=nNbf then timB l p else if qBc l p=nIat then timB l p else if qBc l p=nAud then audB l p else true:=rfl
 by_cases h1:qBc l p=nIss
 ·rw [deT h1,cnT,hgood,if_pos h1]
  refine ⟨_,rfl,fun _=>?_⟩
  unfold cOf
  rw [(find_hit hn h1).2,qAm L (nm h1 n12),qAm L (nm h1 n13),qAm L (nm h1 n14),qAm L (nm h1 n15),qAm L (nm h1 n16),qAm L (nm h1 n17)]
  rfl
 rw [deF h1,cnF,if_neg h1] at *
 by_cases h2:qBc l p=nSub
 ·rw [deT h2,cnT,hgood,if_pos h2]
  refine ⟨_,rfl,fun _=>?_⟩
  unfold cOf
  rw [(find_hit hn h2).2,qAm L h1,qAm L (nm h2 n23),qAm L (nm h2 n24),qAm L (nm h2 n25),qAm L (nm h2 n26),qAm L (nm h2 n27)]
  rfl
 rw [deF h2,cnF,if_neg h2] at *
 by_cases h3:qBc l p=nJti
 ·rw [deT h3,cnT,hgood,if_pos h3]
  refine ⟨_,rfl,fun _=>?_⟩
  unfold cOf
  rw [(find_hit hn h3).2,qAm L h1,qAm L h2,qAm L (nm h3 n34),qAm L (nm h3 n35),qAm L (nm h3 n36),qAm L (nm h3 n37)]
  rfl
 rw [deF h3,cnF,if_neg h3] at *
 by_cases h4:qBc l p=nExp
 ·rw [deT h4,cnT,hgood,if_pos h4]
  refine ⟨_,rfl,fun _=>?_⟩
  unfold cOf
  rw [(find_hit hn h4).2,qAm L h1,qAm L h2,qAm L h3,qAm L (nm h4 n45),qAm L (nm h4 n46),qAm L (nm h4 n47)]
  rfl
 rw [deF h4,cnF,if_neg h4] at *
 by_cases h5:qBc l p=nNbf
 ·rw [deT h5,cnT,hgood,if_pos h5]
  refine ⟨_,rfl,fun _=>?_⟩
  unfold cOf
  rw [(find_hit hn h5).2,qAm L h1,qAm L h2,qAm L h3,qAm L h4,qAm L (nm h5 n56),qAm L (nm h5 n57)]
  rfl
 rw [deF h5,cnF,if_neg h5] at *
 by_cases h6:qBc l p=nIat
 ·rw [deT h6,cnT,hgood,if_pos h6]
  refine ⟨_,rfl,fun _=>?_⟩
  unfold cOf
  rw [(find_hit hn h6).2,qAm L h1,qAm L h2,qAm L h3,qAm L h4,qAm L h5,qAm L (nm h6 n67)]
  rfl
 rw [deF h6,cnF,if_neg h6] at *
 by_cases h7:qBc l p=nAud
 ·rw [deT h7,cnT,hgood,if_pos h7]
  obtain ⟨f1,f2⟩:=find_hit hn h7
  obtain ⟨A,b,g1,g2,g3⟩:=p_aud hok hp hk (cOf l L) (by show audO l (qBk l nAud L)=[]; rw [f1]; rfl)
  rw [g1,obS]
  refine ⟨_,by rw [←g2],fun hb=>?_⟩
  rw [g3 (by rw [g2]; exact hb)]
  unfold cOf
  rw [f2,qAm L h1,qAm L h2,qAm L h3,qAm L h4,qAm L h5,qAm L h6]
  rfl
 rw [deF h7,cnF,if_neg h7] at *
 refine ⟨_,by rw [hgood],fun _=>?_⟩
 unfold cOf
 rw [qAm L h1,qAm L h2,qAm L h3,qAm L h4,qAm L h5,qAm L h6,qAm L h7]
theorem memI_some (p:Nat):memI (some p)=(p:Int):=rfl
def okO (f:Nat→Bool):Option Nat→Bool
 | none=>true
 | some p=>f p
section
variable {l:List Eng.Node} {L:List Nat} (hO:Obj l L)
include hO
theorem Obj.find_lt {key:ByteArray} {p:Nat} (h:qBk l key L=some p):p<l.length∧Sub l p:=by
 obtain ⟨h1,h2⟩:=findK_mem h
 obtain ⟨e,he⟩:=hO.tree p h1
 have:=sub_of hO.ok he
 exact ⟨this.lt,this⟩
theorem r_text (key:ByteArray):zbl_s l key=some (if okO (strB l) (qBk l key L)=true then (txtO l (qBk l key L),(qBk l key L).isSome,true) else (⟨#[]⟩,false,false)):=by
 unfold zbl_s
 rw [(hO.mem key).2,obS]
 cases hf:qBk l key L with
 | none=>rfl
 | some p =>
  have hlt:=(hO.find_lt hf).1
  rw [memI_some,deF (by omega),cnF,qAb (by omega),qAb (by omega),qAb (by omega)]
  show (bif !decide ((l.getD p (ET.dft .node)).kind=5) then _ else _)=_
  by_cases hk:(l.getD p (ET.dft .node)).kind=5
  ·rw [deT hk,Bool.not_true,cnF,qAb (by omega),qAb (by omega),qAb (by omega),if_pos (show okO (strB l) (some p)=true from deT hk)]
   rfl
  ·rw [deF hk,Bool.not_false,cnT,if_neg (show ¬okO (strB l) (some p)=true from by rw [show okO (strB l) (some p)=false from deF hk]; decide)]
theorem r_time (key:ByteArray):zbn_s l key=some (if okO (timB l) (qBk l key L)=true then (timO l (qBk l key L),true) else (⟨false,0⟩,false)):=by
 unfold zbn_s
 rw [(hO.mem key).2,obS]
 cases hf:qBk l key L with
 | none=>rfl
 | some p =>
  have hlt:=(hO.find_lt hf).1
  rw [memI_some,deF (by omega),cnF,qAb (by omega),qAb (by omega),qAb (by omega),qAb (fun _=>by omega),qAb (fun _=>by omega),qAb (fun _=>by omega)]
  show (bif (!decide ((l.getD p (ET.dft .node)).kind=4)) || !(l.getD p (ET.dft .node)).whole then _ else _)=_
  by_cases hk:timB l p=true
  ·have hk':=hk
   unfold timB at hk'
   rw [Bool.and_eq_true,decide_eq_true_eq] at hk'
   rw [deT hk'.1,hk'.2,Bool.not_true,Bool.or_self,cnF,qAb (by omega),qAb (by omega),qAb (by omega),if_pos (show okO (timB l) (some p)=true from hk)]
   rfl
  ·have hk':((!decide ((l.getD p (ET.dft .node)).kind=4)) || !(l.getD p (ET.dft .node)).whole)=true:=by
    rw [←Bool.not_and]
    unfold timB at hk
    rw [Bool.eq_false_iff.2 hk]
    rfl
   rw [hk',cnT,if_neg (show ¬okO (timB l) (some p)=true from hk)]
theorem r_texts (key:ByteArray):zbm_s l key=some (if okO (audB l) (qBk l key L)=true then (audO l (qBk l key L),(qBk l key L).isSome,true) else ([],false,false)):=by
 unfold zbm_s
 rw [(hO.mem key).2,obS]
 cases hf:qBk l key L with
 | none=>rfl
 | some p =>
  obtain ⟨hlt,hp⟩:=hO.find_lt hf
  rw [memI_some,deF (by omega),cnF,qAb (by omega),qAb (by omega),qAb (by omega)]
  show (bif decide ((l.getD p (ET.dft .node)).kind=5) then _ else _)=_
  by_cases hk:(l.getD p (ET.dft .node)).kind=5
  ·have h6:¬(l.getD p (ET.dft .node)).kind=6:=by omega
   have hb:audB l p=true:=by unfold audB; rw [if_neg h6]; exact deT hk
   rw [deT hk,cnT,qAb (by omega),qAb (by omega),qAb (by omega),if_pos (show okO (audB l) (some p)=true from hb),audO_else h6]
   rfl
  ·rw [deF hk,cnF,qAb (by omega),qAb (by omega),qAb (by omega)]
   show (bif !decide ((l.getD p (ET.dft .node)).kind=6) then _ else _)=_
   by_cases h6:(l.getD p (ET.dft .node)).kind=6
   ·rw [deT h6,Bool.not_true,cnF]
    show ((zbt_s l (p:Int)).bind _)=_
    rw [hp.r,obS]
    have:=texts_lp hO.ok.1 hp.len hp.inn (subP l p) [] [] rfl rfl
    rw [show ((([]:List Nat).length:Nat):Int)=0 from rfl] at this
    rw [this,obS,audO_six h6]
    show _=some (if audB l p=true then _ else _)
    unfold audB
    rw [if_pos h6]
    by_cases ha:(subP l p).all (strB l)=true
    ·rw [if_pos ha,if_pos ha]; rfl
    ·rw [if_neg ha,if_neg ha]; rfl
   ·have hb:¬okO (audB l) (some p)=true:=by
     show ¬audB l p=true
     unfold audB strB
     rw [if_neg h6,deF hk]
     decide
    rw [deF h6,Bool.not_false,cnT,if_neg hb]
end
def tupC (c:qG3):ByteArray × Bool × ByteArray × Bool × Bool × ByteArray × Bool × Bool × Int × Bool × Int × Bool × Int × (List ByteArray) :=
 (c.iss,c.hasIss,c.sub,c.hasSub,c.hasAud,c.jti,c.hasJti,c.exp_.has,c.exp_.at_,c.nbf.has,c.nbf.at_,c.iat.has,c.iat.at_,c.aud)
def noC:qG3:=⟨[],⟨#[]⟩,false,⟨#[]⟩,false,[],false,⟨#[]⟩,false,⟨false,0⟩,⟨false,0⟩,⟨false,0⟩⟩
theorem claims_loop {l:List Eng.Node} {L:List Nat} (hO:Obj l L) (hkd:∀n∈l,1≤n.kind∧n.kind≤7) (hL:L.length≤2000000) :
  ∀(post pre:List Nat),L=pre++post→zaa_p0 ((upN L).length:Int) (pre.length:Int) l (cOf l pre).iss (cOf l pre).hasIss (cOf l pre).sub (cOf l pre).hasSub (cOf l pre).hasAud (cOf l pre).jti (cOf l pre).hasJti (cOf l pre).exp_.has (cOf l pre).exp_.at_ (cOf l pre).nbf.has (cOf l pre).nbf.at_ (cOf l pre).iat.has (cOf l pre).iat.at_ (upN L) [] (cOf l pre).aud =
   some (if post.all (goodB l)=true then .inr (tupC (cOf l L)) else .inl (131,⟨#[]⟩,false,⟨#[]⟩,false,false,⟨#[]⟩,false,false,0,false,0,false,0,[],[]))
 | [],pre,h=>by
  unfold zaa_p0
  refine qAj ?_
  unfold qEa
  rw [qDp,deF (by rw [h,List.append_nil]; omega),cnF,h,List.append_nil]
  rfl
 | p::post,pre,h=>by
  have hlen:L.length=pre.length+(post.length+1):=by rw [h,List.length_append,List.length_cons]
  obtain ⟨e,he⟩:=hO.tree p (by rw [h]; exact List.mem_append_right _ List.mem_cons_self)
  have hp:=sub_of hO.ok he
  have hat:(upN L).getD pre.length (ET.dft .i64)=(p:Int):=by rw [h]; exact upN_at pre post p
  have hu:=hO.uniq
  rw [h] at hu
  have hkp:1≤(l.getD p (ET.dft .node)).kind∧(l.getD p (ET.dft .node)).kind≤7:=by
   rw [List.getD_eq_getElem?_getD,List.getElem?_eq_getElem hp.lt]
   exact hkd _ (List.getElem_mem hp.lt)
  obtain ⟨c',h1,h2⟩:=p_put hO.ok hp hkp hu.before
  have h1':zac_s (⟨[],(cOf l pre).iss,(cOf l pre).hasIss,(cOf l pre).sub,(cOf l pre).hasSub,(cOf l pre).aud,(cOf l pre).hasAud,(cOf l pre).jti,(cOf l pre).hasJti,(⟨(cOf l pre).exp_.has,(cOf l pre).exp_.at_⟩:qG7),(⟨(cOf l pre).nbf.has,(cOf l pre).nbf.at_⟩:qG7),(⟨(cOf l pre).iat.has,(cOf l pre).iat.at_⟩:qG7)⟩:qG3) l (p:Int)=some (c',goodB l p):=h1
  by_cases hg:goodB l p=true
  ·have ih:=claims_loop hO hkd hL post (pre++[p]) (by rw [h]; simp)
   rw [List.all_cons,hg,Bool.true_and,←ih]
   rw [h2 hg] at h1'
   unfold zaa_p0
   rw [qAv (y:=((((pre++[p]).length:Nat):Int),tupC (cOf l (pre++[p])))) ?_]
   ·rfl
   unfold qEa
   dsimp only
   rw [qDp,deT (by omega),cnT,qAb (by omega),Int.toNat_natCast,qAb (by omega),hat,h1',obS,hg,Bool.not_true,cnF]
   refine (qAb (by unfold qAe; omega) _).trans ?_
   rw [List.length_append]
   rfl
  ·have hg':=Bool.eq_false_iff.2 hg
   rw [List.all_cons,hg',Bool.false_and,if_neg (by decide)]
   unfold zaa_p0
   refine qAj ?_
   unfold qEa
   dsimp only
   rw [qDp,deT (by omega),cnT,qAb (by omega),Int.toNat_natCast,qAb (by omega),hat,h1',obS,hg',Bool.not_false,cnT]
noncomputable def allO (l:List Eng.Node) (L:List Nat):Bool:=okO (strB l) (qBk l nIss L) && okO (strB l) (qBk l nSub L) && okO (strB l) (qBk l nJti L) && okO (audB l) (qBk l nAud L) && okO (timB l) (qBk l nExp L) && okO (timB l) (qBk l nNbf L) && okO (timB l) (qBk l nIat L)
theorem okO_of {f:Nat→Bool} {o:Option Nat} (h:∀p,o=some p→f p=true):okO f o=true:=by
 cases o with
 | none=>rfl
 | some p=>exact h p rfl
theorem all_good {l:List Eng.Node} {L:List Nat} (hu:Uniq l L):L.all (goodB l)=allO l L:=by
 have hgood:∀p,goodB l p=if qBc l p=nIss then strB l p else if qBc l p=nSub then strB l p else if qBc l p=nJti then strB l p else if qBc l p=nExp then timB l p else if qBc l p=nNbf then timB l p else if qBc l p=nIat then timB l p else if qBc l p=nAud then audB l p else true:=fun p=>rfl
 rw [Bool.eq_iff_iff]
 unfold allO
 simp only [Bool.and_eq_true,List.all_eq_true]
 constructor
 ·intro h
  have g:∀key p,qBk l key L=some p→qBc l p=key∧goodB l p=true:=fun key p hf=>⟨(findK_mem hf).2,h p (findK_mem hf).1⟩
  refine ⟨⟨⟨⟨⟨⟨?_,?_⟩,?_⟩,?_⟩,?_⟩,?_⟩,?_⟩ <;> refine okO_of fun p hf=>?_ <;> obtain ⟨g1,g2⟩:=g _ p hf <;> rw [hgood,g1] at g2 <;> exact g2
 ·rintro ⟨⟨⟨⟨⟨⟨h1,h2⟩,h3⟩,h4⟩,h5⟩,h6⟩,h7⟩ p hp
  obtain ⟨A,B,rfl⟩:=List.append_of_mem hp
  have hf:=hu.find
  have use:∀ {key:ByteArray} {f:Nat→Bool},okO f (qBk l key (A++p::B))=true→qBc l p=key→f p=true:=fun h hk=>by
   rw [←hk,hf] at h
   exact h
  rw [hgood]
  split
  ·rename_i hk; exact use h1 hk
  split
  ·rename_i hk; exact use h2 hk
  split
  ·rename_i hk; exact use h3 hk
  split
  ·rename_i hk; exact use h5 hk
  split
  ·rename_i hk; exact use h6 hk
  split
  ·rename_i hk; exact use h7 hk
  split
  ·rename_i hk; exact use h4 hk
  ·rfl
noncomputable def fullC (l:List Eng.Node) (L:List Nat):qG3:=⟨l,(cOf l L).iss,(cOf l L).hasIss,(cOf l L).sub,(cOf l L).hasSub,(cOf l L).aud,(cOf l L).hasAud,(cOf l L).jti,(cOf l L).hasJti,(cOf l L).exp_,(cOf l L).nbf,(cOf l L).iat⟩
theorem flags {a b c d e f g:Bool}:(((((((!a) || (!b)) || (!c)) || (!d)) || (!e)) || (!f)) || (!g))=!(a && b && c && d && e && f && g):=by
 cases a <;> cases b <;> cases c <;> cases d <;> cases e <;> cases f <;> cases g <;> rfl
theorem flag3 {α β:Type} {c:Bool} {a a':α} {b b':β}:(if c=true then (a,b,true) else (a',b',false)).2.2=c:=by cases c <;> rfl
theorem flag2 {α:Type} {c:Bool} {a a':α}:(if c=true then (a,true) else (a',false)).2=c:=by cases c <;> rfl
theorem parse_both (t:ByteArray):∃c k,zaa_s t=some (c,k)∧zbk_s t=some (c,k)∧c.value.length≤2000000∧c.aud.length≤2000000:=by
 unfold zaa_s zbk_s
 rw [p_Parse,r_Parse,obS,obS]
 rcases parseR_cases t with ⟨l,h1,hs,h2,hne,hll,hT,hz⟩ | ⟨c,b,h1,hc⟩
 ·rw [h1]
  have hlt:0<l.length:=List.length_pos_iff.2 hne
  dsimp only
  rw [deT rfl,Bool.not_true,cnF,cnF,qAb (by omega),qAb (by omega),qAb (by omega),qAb (by omega),qAb (by omega),qAb (by omega)]
  rw [show Int.toNat 0=0 from rfl]
  by_cases h7:(l.getD 0 (ET.dft .node)).kind=7
  ·have hok:OkL l:=⟨by omega,fun n hn=>(hz n hn).okN (by omega)⟩
   obtain ⟨L,hO⟩:=obj_read hs h2 hok hT h7 fun d a b h=>oneS_tree hok d true a b h
   have hkd:∀n∈l,1≤n.kind∧n.kind≤7:=fun n hn=>(hz n hn).2.2.2.2
   have h0:=sub_of hok hT
   have hLl:L.length≤2000000:=by
    have e1:=hO.kids
    have e2:=h0.j
    rw [show ((0:Nat):Int)=0 from rfl] at e2
    rw [e1] at e2
    have e3:(upN L).length=(upN (subP l 0)).length:=congrArg List.length (Option.some.inj e2)
    rw [qDp,qDp] at e3
    have:=h0.len
    omega
   have hlp:=claims_loop hO hkd hLl L [] rfl
   rw [deT h7,Bool.not_true,cnF,cnF,hO.kids,obS]
   have hlp':zaa_p0 ((upN L).length:Int) 0 l ⟨#[]⟩ false ⟨#[]⟩ false false ⟨#[]⟩ false false 0 false 0 false 0 (upN L) [] []=some (if L.all (goodB l)=true then .inr (tupC (cOf l L)) else .inl (131,⟨#[]⟩,false,⟨#[]⟩,false,false,⟨#[]⟩,false,false,0,false,0,false,0,[],[])):=hlp
   rw [hlp',obS]
   have t1:=r_text hO nIss
   have t2:=r_text hO nSub
   have t3:=r_text hO nJti
   have t4:=r_texts hO nAud
   have t5:=r_time hO nExp
   have t6:=r_time hO nNbf
   have t7:=r_time hO nIat
   unfold nIss at t1
   unfold nSub at t2
   unfold nJti at t3
   unfold nAud at t4
   unfold nExp at t5
   unfold nNbf at t6
   unfold nIat at t7
   rw [t1,obS,t2,obS,t3,obS,t4,obS,t5,obS,t6,obS,t7,obS]
   rw [flag3,flag3,flag3,flag3,flag2,flag2,flag2,flags]
   have hall:=all_good hO.uniq
   show ∃c k,_∧(bif !(allO l L) then _ else _)=_∧_
   rw [hall]
   cases hA:allO l L with
   | true =>
    unfold allO at hA
    simp only [Bool.and_eq_true] at hA
    obtain ⟨⟨⟨⟨⟨⟨a1,a2⟩,a3⟩,a4⟩,a5⟩,a6⟩,a7⟩:=hA
    unfold nIss at a1
    unfold nSub at a2
    unfold nJti at a3
    unfold nAud at a4
    unfold nExp at a5
    unfold nNbf at a6
    unfold nIat at a7
    rw [if_pos rfl,if_pos a1,if_pos a2,if_pos a3,if_pos a4,if_pos a5,if_pos a6,if_pos a7]
    refine ⟨fullC l L,0,rfl,rfl,by show l.length≤_; omega,?_⟩
    show (audO l (qBk l nAud L)).length≤_
    cases hf:qBk l nAud L with
    | none=>show 0≤_; omega
    | some p =>
     have hp:=(hO.find_lt hf).2
     by_cases h6:(l.getD p (ET.dft .node)).kind=6
     ·rw [audO_six h6,List.length_map]; exact hp.len
     ·rw [audO_else h6]; show 1≤_; omega
   | false =>
    exact ⟨noC,131,rfl,rfl,Nat.zero_le _,Nat.zero_le _⟩
  ·rw [deF h7,Bool.not_false,cnT,cnT]
   exact ⟨noC,130,rfl,rfl,Nat.zero_le _,Nat.zero_le _⟩
 ·rw [h1]
  dsimp only
  rw [deF hc,Bool.not_false,cnT,cnT]
  exact ⟨noC,c,rfl,rfl,Nat.zero_le _,Nat.zero_le _⟩
theorem claimsParses_plain (t:ByteArray):zbg_s t=some true:=by
 obtain ⟨c,k,h1,h2,h3,h4⟩:=parse_both t
 unfold zbg_s
 rw [h1,obS,h2,obS,deT rfl,cnT,claims_self c h3 h4]
 rfl
end Go.Proofs.YticplgndjpljiaaDoor
namespace Go.Eng
open Go.RowKit
set_option linter.unusedVariables false
theorem reach_of {x:Nat} (h:decide (x≤reachBytes)=true):x≤140737488351232:=by
 have h2:=of_decide_eq_true h
 exact h2
theorem size_of_weights {H:Type} {P:Program} {T:TypeId} {s:ByteArray} (h:∀x∈(DataW.lit (.string s.data.toList):DataW H).weights P T,x≤140737488351232):s.size≤140737488351232:=by
 have h2:=h s.data.toList.length (by simp only [DataW.weights]; exact List.mem_singleton.2 rfl)
 rw [Array.length_toList] at h2
 exact h2
structure LowB (w w':World):Prop where
 os:w'.os=w.os
 output:w'.output=w.output
 size:w.heap.size≤w'.heap.size
 block:∀k,k<w.heap.size→w'.heap[k]?=w.heap[k]?
theorem lowB_of_stays {w w':World} (h:Stays (fun _=>False) w w'):LowB w w':=⟨h.os,h.output,h.size,fun k hk=>h.block k hk id⟩
theorem LowB.frame {W w':World} (h:LowB W w') (may:MemPlace→Prop):W.keptBut w' may:=by
 refine ⟨h.os,h.output,fun i hi=>?_⟩
 rw [h.block i hi]
 split <;> simp_all
theorem LowB.same {W w':World} (h:LowB W w') {p:MemPlace} (hp:p.block<W.heap.size):W.sameAt w' p:=by
 cases p with
 | cell b o=>exact World.cell?_of_block (w:=W) (h.block b hp)
 | map b=>exact h.block b hp
theorem LowB.trod {H:Type} {enc:TypeId × Value→H} {P:Program} {t:TypeId} (hl:laidOutB P=true) (hr:P.readableRec t=true) (hrow:t<P.types.size) {W W':World} {v:Value} {d:DataW H} {ps:List MemPlace}
  (h:DataW.Trod enc P W 0 (fun _=>true) true t v d ps) (hb:LowB W W') (hlt:∀x∈ps,x.block<W.heap.size) :
  DataW.Trod enc P W' 0 (fun b=>decide (b<W.heap.size)) true t v d ps :=
 WideElems.Trod_stays hl hr hrow h (fun x hx=>hb.same (hlt x hx)) (fun x hx=>by simpa using hlt x hx)
theorem callS {P:Program} {f:Nat} {C:CS} (h:qAl P f C) {args:List SV} {v:SV} (hc:C args [] (SV × List SB) (fun v hp'=>some (v,hp'))=some (v,[])) (hs:args.all SV.shut=true) (hv:v.shut=true) (w:World) (ht:tabOK noX w) (vs:List Value) (hvs:args.map (SV.den fun _=>undef)=vs) :
  Calls P f vs.toArray w fun e w'=>e=.returned (v.den fun _=>undef)∧LowB w w':=by
 have:=h.2 args [] v [] hc (fun v hv=>SV.shut_lt (List.all_eq_true.1 hs v hv) _) noX w (fun _=>undef) (HpSat.nil _ _ ht _)
 rw [hvs] at this
 exact this.mono fun e w' ⟨ρ',_,_,a,_,_,b⟩=>⟨by rw [a,SV.shut_den hv ρ' fun _=>undef],lowB_of_stays b⟩
end Go.Eng
namespace Go.Proofs
open Go.Shelf
shelf_lay Lays.n260 Nm 260 at Tryd as Tryd.laysSlow
end Go.Proofs
namespace Go.Proofs.YticplgndjpljiaaDoor
open Go.Eng Go.Shelf
set_option linter.unusedVariables false
theorem first_data:(Rows.laid_unicode_utf8_first:DataW Unit)=Lib.firstData:=by kernel_rfl
theorem accept_data:(Rows.laid_unicode_utf8_acceptRanges:DataW Unit)=Lib.acceptData:=by kernel_rfl
theorem utf8_tabs {W:World} (h3:Lib.VarReads Tryd.prog W "unicode/utf8.first" Rows.laid_unicode_utf8_first) (h4:Lib.VarReads Tryd.prog W "unicode/utf8.acceptRanges" Rows.laid_unicode_utf8_acceptRanges):tabOK noX W:=by
 rw [first_data] at h3
 rw [accept_data] at h4
 exact ⟨utf8Tabs_of_reads Tryd.laysSlow ⟨by kernel_rfl,by kernel_rfl,by kernel_rfl,by kernel_rfl,by kernel_rfl,by kernel_rfl,by kernel_rfl⟩ h3 h4,fun h=>h,fun h=>h⟩
end Go.Proofs.YticplgndjpljiaaDoor
namespace Go.Proofs.YticplgndjpljiaaDoor
open Go.Eng
set_option linter.unusedVariables false
set_option linter.unusedSimpArgs false
theorem claimsParses_tabs {W:World} (h:laidMetH Tryd.prog Rows.claimsParsesRow.laid W):tabOK noX W:=by
 have h':laidMet Tryd.prog Rows.claimsParsesRow.laid W:=h
 exact utf8_tabs (Lib.laidMet.reads h' (List.mem_cons_of_mem _ List.mem_cons_self)) (Lib.laidMet.reads h' List.mem_cons_self)
theorem claimsParses_walk (s0:ByteArray) (W:World) (h0:s0.size≤140737488351232) (hT:tabOK noX W):Calls Tryd.prog 8 #[.string s0] W fun e w'=>e=.returned (.bool true)∧LowB W w':=by
 refine callS zbg_val (args:=[.c (.o (.val (.string s0)))]) (v:=.c (.o (.val (.bool true)))) ?_ rfl rfl W hT [.string s0] rfl
 show ((zbg_s s0).bind fun r=>some ((.c (.o (.val (.bool r))),[]):SV × List SB))=_
 rw [claimsParses_plain s0]
 rfl
end Go.Proofs.YticplgndjpljiaaDoor
