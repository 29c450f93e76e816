/-
  Check in plain words; the program reads its own small payload. No program.
-/
import Derived.Test.YticplgndjpljiaaDoorPTreeS
import Derived.Test.YticplgndjpljiaaDoorJW
namespace Go.Proofs.YticplgndjpljiaaDoor
open Go.Eng
set_option linter.unusedVariables false
set_option linter.unusedSimpArgs false
def Uniq (l:List Eng.Node):List Nat→Prop
 | []=>True
 | p::r=>(∀q∈r,qAu l q≠qAu l p)∧Uniq l r
theorem kidsS_uniq {v:List Eng.Node} {d:Nat}:∀(k a:Nat) (names:List BA) (e:Nat) (L:List Nat),qDd v (oneS v d true) true k a names=some e→qBt v k a L e→(∀a b,oneS v d true a=some b→Tree v a b)→(∀p∈L,¬qAu v p∈names)∧Uniq v L
 | 0,a,names,e,L,h,hL,ht=>by
  obtain ⟨rfl,_⟩:=hL;exact ⟨fun p hp=>(by cases hp),tV⟩
 | k+1,a,names,e,L,h,hL,ht=>by
  obtain ⟨b,r,rfl,g1,g2⟩:=hL;unfold qDd at h;cases ho:oneS v d true a with
  | none=>rw [ho] at h; cases h
  | some b' =>
   rw [ho] at h;dsimp only at h;have:=Trees.det (ht _ _ ho) g1;subst this;split at h
   ·cases h
   ·rename_i hn;have hn:¬qAu v a∈names:=fun hm=>hn ⟨rfl,hm⟩
    obtain ⟨i1,i2⟩:=kidsS_uniq k b' (names++[qAu v a]) e r h g2 ht;refine ⟨fun p hp=>?_,fun q hq he=>?_,i2⟩
    ·rcases List.mem_cons.1 hp with rfl | hp
     ·exact hn
     ·exact fun hm=>i1 p hp (List.mem_append_left _ hm)
    ·exact i1 q hq (by rw [he]; exact List.mem_append_right _ List.mem_cons_self)
theorem findK_app {l:List Eng.Node} (key:BA):∀(L M:List Nat),qA8 l key (L++M)=match qA8 l key L with | some p=>some p | none=>qA8 l key M
 | [],M=>rfl
 | p::r,M=>by
  show (if (l.getD p (ET.dft .node)).key=key then some p else qA8 l key (r++M))=match (if (l.getD p (ET.dft .node)).key=key then some p else qA8 l key r) with | some p=>some p | none=>qA8 l key M
  by_cases h:(l.getD p (ET.dft .node)).key=key
  ·rw [if_pos h,if_pos h]
  ·rw [if_neg h,if_neg h,findK_app key r M]
theorem qCl {l:List Eng.Node} {key:BA}:∀ {L:List Nat} {p:Nat},qA8 l key L=some p→p∈L∧qAu l p=key
 | [],p,h=>by cases h
 | q::r,p,h=>by
  unfold qA8 at h;split at h
  ·rename_i hq;cases h;exact ⟨List.mem_cons_self,hq⟩
  ·obtain ⟨i1,i2⟩:=qCl h;exact ⟨List.mem_cons_of_mem _ i1,i2⟩
theorem findK_none {l:List Eng.Node} {key:BA}:∀ {L:List Nat},(∀q∈L,qAu l q≠key)→qA8 l key L=none
 | [],h=>rfl
 | q::r,h=>by
  unfold qA8;rw [if_neg (show ¬(l.getD q (ET.dft .node)).key=key from h q List.mem_cons_self)];exact findK_none fun p hp=>h p (List.mem_cons_of_mem _ hp)
theorem Uniq.before {l:List Eng.Node}:∀ {L:List Nat} {p:Nat} {M:List Nat},Uniq l (L++p::M)→∀q∈L,qAu l q≠qAu l p
 | [],p,M,h,q,hq=>by cases hq
 | x::L,p,M,h,q,hq=>by
  rcases List.mem_cons.1 hq with rfl | hq
  ·exact fun he=>h.1 p (List.mem_append_right _ List.mem_cons_self) he.symm
  ·exact Uniq.before h.2 q hq
theorem Uniq.find {l:List Eng.Node} {L M:List Nat} {p:Nat} (h:Uniq l (L++p::M)):qA8 l (qAu l p) (L++p::M)=some p:=by
 rw [findK_app,findK_none h.before];show (if qAu l p=qAu l p then some p else _)=_;rw [if_pos rfl]
structure Obj (l:List Eng.Node) (L:List Nat):Prop where
 ok:OkL l
 kids:zap_s l 0=some (upN L)
 root:∃nd e,l[0]?=some nd∧0≤nd.kids∧nd.kind=7∧Trees l nd.kids.toNat (0+1) e∧qBt l nd.kids.toNat (0+1) L e
 tree:∀p∈L,∃e,Tree l p e
 uniq:Uniq l L
 mem:∀key,zaq_s l 0 key=some (memI (qA8 l key L))
 kind:(l.getD 0 (ET.dft .node)).kind=7
 ne:0<l.length
theorem places_tree {v:List Eng.Node}:∀ {k a e:Nat} {L:List Nat},qBt v k a L e→∀p∈L,∃e',Tree v p e'
 | 0,a,e,L,h,p,hp=>by rw [h.1] at hp; cases hp
 | k+1,a,e,L,h,p,hp=>by
  obtain ⟨b,r,rfl,g1,g2⟩:=h;rcases List.mem_cons.1 hp with rfl | hp
  ·exact ⟨b,g1⟩
  ·exact places_tree g2 p hp
theorem obj_read {t:BA} {l:List Eng.Node} (hs:t.size≤262144) (hr:qGd t=.ok t.size l) (hok:OkL l) (ht:Tree l 0 l.length) (h7:(l.getD 0 (ET.dft .node)).kind=7) (hone:∀d a b,oneS l d true a=some b→Tree l a b):∃L,Obj l L:=by
 obtain ⟨nd,h1,h2,h3⟩:=ht.node;obtain ⟨L,hL⟩:=h3.places;have hlt:=(List.getElem?_eq_some_iff.1 h1).1;have hnd:l.getD 0 (ET.dft .node)=nd:=by rw [List.getD_eq_getElem?_getD,h1]; rfl
 have h7':nd.kind=7:=by rw [←hnd]; exact h7
 have hsh:=readR_shape hs hr;unfold oneS at hsh;rw [h1] at hsh;dsimp only at hsh;refine ⟨L,hok,?_,⟨nd,_,h1,h2,h7',h3,hL⟩,places_tree hL,?_,fun key=>?_,h7,hlt⟩
 ·have:=j_kids hok.1 h1 h2 h3 hL;rwa [show ((0:Nat):Int)=0 from rfl] at this
 ·split at hsh
  ·rw [deT h7'] at hsh;exact (kidsS_uniq _ _ _ _ _ hsh hL fun a b h=>hone _ a b h).2
  ·cases hsh
 ·have:=j_member hok.1 h1 h2 h3 hL key;rw [if_pos h7',show ((0:Nat):Int)=0 from rfl] at this;exact this
theorem texts_loop (l:List BA) (hl:l.length≤4000000):∀(j i:Nat),i+j=l.length→zbw_p0 (i:Int) l l=some (.inr ())
 | 0,i,h=>by
  unfold zbw_p0;refine qAr ?_;unfold qFf;rw [deF (by omega),cnF]
 | j+1,i,h=>by
  have ih:=texts_loop l hl j (i+1) (by omega);unfold zbw_p0 at ih ⊢;rw [qAy (y:=((i+1:Nat):Int)) ?_,ih];unfold qFf;rw [deT (by omega),cnT,qAb (by omega),qAb (by omega),qAb (by omega),qAb (by omega)];simp only [decide_true,Bool.not_true,cnF];exact qAb (by unfold qAf; omega) _
theorem texts_self (l:List BA) (hl:l.length≤4000000):zbw_s l l=some true:=by
 have:=texts_loop l hl l.length 0 (by omega);rw [show ((0:Nat):Int)=0 from rfl] at this;unfold zbw_s;rw [deT rfl,Bool.not_true,cnF,this];rfl
theorem nodes_loop (v:List Eng.Node) (hv:v.length≤3000000):∀(j i:Nat),i+j=v.length→zbv_p0 (i:Int) v v=some (.inr ())
 | 0,i,h=>by
  unfold zbv_p0;refine qAr ?_;unfold qE3;rw [deF (by omega),cnF]
 | j+1,i,h=>by
  have ih:=nodes_loop v hv j (i+1) (by omega);unfold zbv_p0 at ih ⊢;rw [qAy (y:=((i+1:Nat):Int)) ?_,ih];unfold qE3;rw [deT (by omega),cnT,qAb (by omega),qAb (by omega),qAb (by omega),qAb (by omega)];simp only [decide_true,beq_self_eq_true,Bool.and_self,Bool.not_true,cnF];exact qAb (by unfold qAf; omega) _
theorem nodes_self (v:List Eng.Node) (hv:v.length≤3000000):zbv_s v v=some true:=by
 have:=nodes_loop v hv v.length 0 (by omega);rw [show ((0:Nat):Int)=0 from rfl] at this;unfold zbv_s;rw [deT rfl,Bool.not_true,cnF,this];rfl
theorem claims_self (c:qHb) (h1:c.value.length≤2000000) (h2:c.aud.length≤2000000):zbu_s c c=some true:=by
 unfold zbu_s;simp only [decide_true,beq_self_eq_true,Bool.and_self,cnT,texts_self c.aud (by omega),nodes_self c.value (by omega),obS]
def nIss:BA:=⟨#[105,115,115]⟩
def nSub:BA:=⟨#[115,117,98]⟩
def nJti:BA:=⟨#[106,116,105]⟩
def nAud:BA:=⟨#[97,117,100]⟩
def nExp:BA:=⟨#[101,120,112]⟩
def nNbf:BA:=⟨#[110,98,102]⟩
def nIat:BA:=⟨#[105,97,116]⟩
def tX (l:List Eng.Node) (p:Nat):BA:=(l.getD p (ET.dft .node)).text
def txtO (l:List Eng.Node):Option Nat→BA
 | some p=>tX l p
 | none=>⟨#[]⟩
def timO (l:List Eng.Node):Option Nat→qHe
 | some p=>⟨true,(l.getD p (ET.dft .node)).int⟩
 | none=>⟨false,0⟩
noncomputable def subP (l:List Eng.Node) (p:Nat):List Nat:=((zap_s l (p:Int)).getD []).map Int.toNat
noncomputable def audO (l:List Eng.Node):Option Nat→List BA
 | some p=>if (l.getD p (ET.dft .node)).kind=6 then (subP l p).map (tX l) else [tX l p]
 | none=>[]
noncomputable def cOf (l:List Eng.Node) (L:List Nat):qHb :=
 ⟨[],txtO l (qA8 l nIss L),(qA8 l nIss L).isSome,txtO l (qA8 l nSub L),(qA8 l nSub L).isSome,audO l (qA8 l nAud L),(qA8 l nAud L).isSome,txtO l (qA8 l nJti L),(qA8 l nJti L).isSome,timO l (qA8 l nExp L),timO l (qA8 l nNbf L),timO l (qA8 l nIat L)⟩
theorem audO_six {l:List Eng.Node} {p:Nat} (h:(l.getD p (ET.dft .node)).kind=6):audO l (some p)=(subP l p).map (tX l):=if_pos h
theorem audO_else {l:List Eng.Node} {p:Nat} (h:¬(l.getD p (ET.dft .node)).kind=6):audO l (some p)=[tX l p]:=if_neg h
def strB (l:List Eng.Node) (p:Nat):Bool:=decide ((l.getD p (ET.dft .node)).kind=5)
def timB (l:List Eng.Node) (p:Nat):Bool:=decide ((l.getD p (ET.dft .node)).kind=4) && (l.getD p (ET.dft .node)).whole
noncomputable def audB (l:List Eng.Node) (p:Nat):Bool:=if (l.getD p (ET.dft .node)).kind=6 then (subP l p).all (strB l) else strB l p
noncomputable def goodB (l:List Eng.Node) (p:Nat):Bool :=
 if qAu l p=nIss then strB l p else if qAu l p=nSub then strB l p else if qAu l p=nJti then strB l p else if qAu l p=nExp then timB l p else if qAu l p=nNbf then timB l p else if qAu l p=nIat then timB l p else if qAu l p=nAud then audB l p else true
structure Sub (l:List Eng.Node) (p:Nat):Prop where
 lt:p<l.length
 j:zap_s l (p:Int)=some (upN (subP l p))
 src:∃nd e,l[p]?=some nd∧0≤nd.kids∧Trees l nd.kids.toNat (p+1) e∧qBt l nd.kids.toNat (p+1) (subP l p) e
 inn:∀q∈subP l p,q<l.length
 len:(subP l p).length≤2000000
theorem qEw (L:List Nat):(upN L).map Int.toNat=L:=by
 unfold upN;rw [List.map_map];exact (List.map_congr_left fun a _=>Int.toNat_natCast a).trans (List.map_id L)
theorem upN_at (pre post:List Nat) (p:Nat):(upN (pre++p::post)).getD pre.length (ET.dft .i64)=(p:Int):=by
 unfold upN;rw [List.getD_eq_getElem?_getD,List.getElem?_map,List.getElem?_append_right (Nat.le_refl _),Nat.sub_self];rfl
theorem sub_of {l:List Eng.Node} (hok:OkL l) {p e:Nat} (h:Tree l p e):Sub l p:=by
 obtain ⟨nd,h1,h2,h3⟩:=h.node;obtain ⟨L,hL⟩:=h3.places;have hlen:=hL.len;have hlt:=(List.getElem?_eq_some_iff.1 h1).1;have h4:=hok.1;have hj:=j_kids hok.1 h1 h2 h3 hL;have e1:subP l p=L:=by
  unfold subP;rw [hj];exact qEw L
 exact ⟨hlt,by rw [e1]; exact hj,⟨nd,_,h1,h2,h3,by rw [e1]; exact hL⟩,by rw [e1]; exact places_in hL,by rw [e1]; have:=h3.le; omega⟩
theorem aud_loop {l:List Eng.Node} (hl:l.length≤2000000) {L:List Nat} (hL:L.length≤2000000) (hin:∀q∈L,q<l.length) :
  ∀(post pre:List Nat) (A:List BA),L=pre++post→A.length=pre.length→∃r,zae_p0 ((upN L).length:Int) (pre.length:Int) l (upN L) A=some r∧(post.all (strB l)=true→r=.inr (A++post.map (tX l)))∧(post.all (strB l)=false→∃A',r=.inl (false,A'))
 | [],pre,A,h,hA=>by
  refine ⟨.inr A,?_,fun _=>by simp,fun h=>by cases h⟩;unfold zae_p0;refine qAr ?_;unfold qD7;rw [upN_len,deF (by rw [h,List.append_nil]; omega),cnF]
 | p::post,pre,A,h,hA=>by
  have hlen:L.length=pre.length+(post.length+1):=by rw [h,List.length_append,List.length_cons]
  have hp:=hin p (by rw [h]; exact List.mem_append_right _ List.mem_cons_self);have hat:(upN L).getD pre.length (ET.dft .i64)=(p:Int):=by rw [h]; exact upN_at pre post p
  by_cases hk:(l.getD p (ET.dft .node)).kind=5
  ·obtain ⟨r,h1,h2,h3⟩:=aud_loop hl hL hin post (pre++[p]) (A++[tX l p]) (by rw [h]; simp) (by simp [hA]);have hs:strB l p=true:=deT hk;refine ⟨r,?_,fun ha=>?_,fun ha=>?_⟩
   ·rw [←h1];unfold zae_p0;rw [qAy (y:=((((pre++[p]).length:Nat):Int),A++[tX l p])) ?_];unfold qD7;dsimp only;rw [upN_len,deT (by omega),cnT,qAb (by omega),Int.toNat_natCast,qAb (by omega),hat,Int.toNat_natCast,qAb (by omega),qAb (by omega),qAb (by omega),deT hk,Bool.not_true,cnF,qAb (by omega),qAb (by omega),qAb (by omega),qAb (by rw [List.length_singleton]; omega)];refine (qAb (by unfold qAf; omega) _).trans ?_;rw [List.length_append];rfl
   ·rw [List.all_cons,hs,Bool.true_and] at ha;rw [h2 ha];simp
   ·rw [List.all_cons,hs,Bool.true_and] at ha;exact h3 ha
  ·refine ⟨.inl (false,A),?_,fun ha=>?_,fun _=>⟨A,rfl⟩⟩
   ·unfold zae_p0;refine qAr ?_;unfold qD7;dsimp only;rw [upN_len,deT (by omega),cnT,qAb (by omega),Int.toNat_natCast,qAb (by omega),hat,Int.toNat_natCast,qAb (by omega),qAb (by omega),qAb (by omega),deF hk,Bool.not_false,cnT]
   ·rw [List.all_cons,show strB l p=false from deF hk,Bool.false_and] at ha;cases ha
theorem p_aud {l:List Eng.Node} (hok:OkL l) {p:Nat} (hp:Sub l p) (hk:1≤(l.getD p (ET.dft .node)).kind∧(l.getD p (ET.dft .node)).kind≤7) (c:qHb) (hc:c.aud=[]) :
  ∃A b,zae_s c l (p:Int)=some (⟨c.value,c.iss,c.hasIss,c.sub,c.hasSub,A,true,c.jti,c.hasJti,c.exp_,c.nbf,c.iat⟩,b)∧b=audB l p∧(b=true→A=audO l (some p)):=by
 have hlt:=hp.lt;have hp1:zae_p1 (p:Int) l=some (true,[tX l p]):=by
  unfold zae_p1;rw [qAb (by omega),Int.toNat_natCast,qAb hlt,qAb hlt];rfl
 unfold zae_s;rw [qAb (by omega),Int.toNat_natCast,qAb hlt,qAb hlt,hp1];by_cases h6:(l.getD p (ET.dft .node)).kind=6
 ·rw [deT h6,cnT,hp.j,obS,hc];obtain ⟨r,h1,h2,h3⟩:=aud_loop hok.1 hp.len hp.inn (subP l p) [] [] rfl rfl;rw [show ((([]:List Nat).length:Nat):Int)=0 from rfl] at h1;rw [h1,obS];cases ha:(subP l p).all (strB l) with
  | true =>
   rw [h2 ha];exact ⟨_,_,rfl,by unfold audB; rw [if_pos h6,ha],fun _=>by rw [audO_six h6]; rfl⟩
  | false =>
   obtain ⟨A',rfl⟩:=h3 ha;exact ⟨_,_,rfl,by unfold audB; rw [if_pos h6,ha],fun h=>by cases h⟩
 ·rw [audO_else h6];unfold audB strB;rw [if_neg h6];generalize (l.getD p (ET.dft .node)).kind=k at *
  have:k=1∨k=2∨k=3∨k=4∨k=5∨k=7:=by omega
  rcases this with rfl | rfl | rfl | rfl | rfl | rfl
  ·exact ⟨_,_,rfl,rfl,fun h=>by cases h⟩
  ·exact ⟨_,_,rfl,rfl,fun h=>by cases h⟩
  ·exact ⟨_,_,rfl,rfl,fun h=>by cases h⟩
  ·exact ⟨_,_,rfl,rfl,fun h=>by cases h⟩
  ·exact ⟨_,_,rfl,rfl,fun _=>rfl⟩
  ·exact ⟨_,_,rfl,rfl,fun h=>by cases h⟩
theorem find_hit {l:List Eng.Node} {key:BA} {L:List Nat} {p:Nat} (hn:∀q∈L,qAu l q≠qAu l p) (hk:qAu l p=key):qA8 l key L=none∧qA8 l key (L++[p])=some p:=by
 have h1:qA8 l key L=none:=findK_none fun q hq he=>hn q hq (by rw [he,hk])
 refine ⟨h1,?_⟩;rw [findK_app,h1];show (if qAu l p=key then some p else none)=some p;rw [if_pos hk]
theorem qAk {l:List Eng.Node} {key:BA} (L:List Nat) {p:Nat} (hk:¬qAu l p=key):qA8 l key (L++[p])=qA8 l key L:=by
 rw [findK_app];cases qA8 l key L with
 | some q=>rfl
 | none =>
  show (if qAu l p=key then some p else none)=none;rw [if_neg hk]
theorem p_put {l:List Eng.Node} (hok:OkL l) {p:Nat} (hp:Sub l p) (hk:1≤(l.getD p (ET.dft .node)).kind∧(l.getD p (ET.dft .node)).kind≤7) {L:List Nat} (hn:∀q∈L,qAu l q≠qAu l p) :
  ∃c',zag_s (cOf l L) l (p:Int)=some (c',goodB l p)∧(goodB l p=true→c'=cOf l (L++[p])):=by
 have hlt:=hp.lt;unfold zag_s;rw [qAb (by omega),Int.toNat_natCast,qAb hlt];show ∃c',(bif decide (qAu l p=nIss) then some (_,strB l p) else bif decide (qAu l p=nSub) then some (_,strB l p) else bif decide (qAu l p=nJti) then some (_,strB l p) else bif decide (qAu l p=nExp) then some (_,timB l p) else bif decide (qAu l p=nNbf) then some (_,timB l p) else bif decide (qAu l p=nIat) then some (_,timB l p) else bif decide (qAu l p=nAud) then _ else some (_,true))=_∧_;have n12:¬nIss=nSub:=by decide
 have n13:¬nIss=nJti:=by decide
 have n14:¬nIss=nExp:=by decide
 have n15:¬nIss=nNbf:=by decide
 have n16:¬nIss=nIat:=by decide
 have n17:¬nIss=nAud:=by decide
 have n23:¬nSub=nJti:=by decide
 have n24:¬nSub=nExp:=by decide
 have n25:¬nSub=nNbf:=by decide
 have n26:¬nSub=nIat:=by decide
 have n27:¬nSub=nAud:=by decide
 have n34:¬nJti=nExp:=by decide
 have n35:¬nJti=nNbf:=by decide
 have n36:¬nJti=nIat:=by decide
 have n37:¬nJti=nAud:=by decide
 have n45:¬nExp=nNbf:=by decide
 have n46:¬nExp=nIat:=by decide
 have n47:¬nExp=nAud:=by decide
 have n56:¬nNbf=nIat:=by decide
 have n57:¬nNbf=nAud:=by decide
 have n67:¬nIat=nAud:=by decide
 have nm:∀ {a b:BA},qAu l p=a→¬a=b→¬qAu l p=b:=fun h h'=>by rw [h]; exact h'
 have nm':∀ {a b:BA},qAu l p=a→¬b=a→¬qAu l p=b:=fun h h'=>by rw [h]; exact fun e=>h' e.symm
 have hgood:goodB l p=if qAu l p=nIss then strB l p else if qAu l p=nSub then strB l p else if qAu l p=nJti then strB l p else if qAu l p=nExp then timB l p else if qAu l p=nNbf then timB l p else if qAu l p=nIat then timB l p else if qAu l p=nAud then audB l p else true:=rfl
 by_cases h1:qAu l p=nIss
 ·rw [deT h1,cnT,hgood,if_pos h1];refine ⟨_,rfl,fun _=>?_⟩;unfold cOf;rw [(find_hit hn h1).2,qAk L (nm h1 n12),qAk L (nm h1 n13),qAk L (nm h1 n14),qAk L (nm h1 n15),qAk L (nm h1 n16),qAk L (nm h1 n17)];rfl
 rw [deF h1,cnF,if_neg h1] at *
 by_cases h2:qAu l p=nSub
 ·rw [deT h2,cnT,hgood,if_pos h2];refine ⟨_,rfl,fun _=>?_⟩;unfold cOf;rw [(find_hit hn h2).2,qAk L h1,qAk L (nm h2 n23),qAk L (nm h2 n24),qAk L (nm h2 n25),qAk L (nm h2 n26),qAk L (nm h2 n27)];rfl
 rw [deF h2,cnF,if_neg h2] at *
 by_cases h3:qAu l p=nJti
 ·rw [deT h3,cnT,hgood,if_pos h3];refine ⟨_,rfl,fun _=>?_⟩;unfold cOf;rw [(find_hit hn h3).2,qAk L h1,qAk L h2,qAk L (nm h3 n34),qAk L (nm h3 n35),qAk L (nm h3 n36),qAk L (nm h3 n37)];rfl
 rw [deF h3,cnF,if_neg h3] at *
 by_cases h4:qAu l p=nExp
 ·rw [deT h4,cnT,hgood,if_pos h4];refine ⟨_,rfl,fun _=>?_⟩;unfold cOf;rw [(find_hit hn h4).2,qAk L h1,qAk L h2,qAk L h3,qAk L (nm h4 n45),qAk L (nm h4 n46),qAk L (nm h4 n47)];rfl
 rw [deF h4,cnF,if_neg h4] at *
 by_cases h5:qAu l p=nNbf
 ·rw [deT h5,cnT,hgood,if_pos h5];refine ⟨_,rfl,fun _=>?_⟩;unfold cOf;rw [(find_hit hn h5).2,qAk L h1,qAk L h2,qAk L h3,qAk L h4,qAk L (nm h5 n56),qAk L (nm h5 n57)];rfl
 rw [deF h5,cnF,if_neg h5] at *
 by_cases h6:qAu l p=nIat
 ·rw [deT h6,cnT,hgood,if_pos h6];refine ⟨_,rfl,fun _=>?_⟩;unfold cOf;rw [(find_hit hn h6).2,qAk L h1,qAk L h2,qAk L h3,qAk L h4,qAk L h5,qAk L (nm h6 n67)];rfl
 rw [deF h6,cnF,if_neg h6] at *
 by_cases h7:qAu l p=nAud
 ·rw [deT h7,cnT,hgood,if_pos h7];obtain ⟨f1,f2⟩:=find_hit hn h7;obtain ⟨A,b,g1,g2,g3⟩:=p_aud hok hp hk (cOf l L) (by show audO l (qA8 l nAud L)=[]; rw [f1]; rfl);rw [g1,obS];refine ⟨_,by rw [←g2],fun hb=>?_⟩;rw [g3 (by rw [g2]; exact hb)];unfold cOf;rw [f2,qAk L h1,qAk L h2,qAk L h3,qAk L h4,qAk L h5,qAk L h6];rfl
 rw [deF h7,cnF,if_neg h7] at *
 refine ⟨_,by rw [hgood],fun _=>?_⟩;unfold cOf;rw [qAk L h1,qAk L h2,qAk L h3,qAk L h4,qAk L h5,qAk L h6,qAk L h7]
def okO (f:Nat→Bool):Option Nat→Bool
 | none=>true
 | some p=>f p
section
variable {l:List Eng.Node} {L:List Nat} (hO:Obj l L)
include hO
end
def tupC (c:qHb):BA × Bool × BA × Bool × Bool × BA × Bool × Bool × Int × Bool × Int × Bool × Int × (List BA) :=
 (c.iss,c.hasIss,c.sub,c.hasSub,c.hasAud,c.jti,c.hasJti,c.exp_.has,c.exp_.at_,c.nbf.has,c.nbf.at_,c.iat.has,c.iat.at_,c.aud)
def noC:qHb:=⟨[],⟨#[]⟩,false,⟨#[]⟩,false,[],false,⟨#[]⟩,false,⟨false,0⟩,⟨false,0⟩,⟨false,0⟩⟩
theorem claims_loop {l:List Eng.Node} {L:List Nat} (hO:Obj l L) (hkd:∀n∈l,1≤n.kind∧n.kind≤7) (hL:L.length≤2000000) :
  ∀(post pre:List Nat),L=pre++post→zad_p0 ((upN L).length:Int) (pre.length:Int) l (cOf l pre).iss (cOf l pre).hasIss (cOf l pre).sub (cOf l pre).hasSub (cOf l pre).hasAud (cOf l pre).jti (cOf l pre).hasJti (cOf l pre).exp_.has (cOf l pre).exp_.at_ (cOf l pre).nbf.has (cOf l pre).nbf.at_ (cOf l pre).iat.has (cOf l pre).iat.at_ (upN L) [] (cOf l pre).aud =
   some (if post.all (goodB l)=true then .inr (tupC (cOf l L)) else .inl (131,⟨#[]⟩,false,⟨#[]⟩,false,false,⟨#[]⟩,false,false,0,false,0,false,0,[],[]))
 | [],pre,h=>by
  unfold zad_p0;refine qAr ?_;unfold qDv;rw [upN_len,deF (by rw [h,List.append_nil]; omega),cnF,h,List.append_nil];rfl
 | p::post,pre,h=>by
  have hlen:L.length=pre.length+(post.length+1):=by rw [h,List.length_append,List.length_cons]
  obtain ⟨e,he⟩:=hO.tree p (by rw [h]; exact List.mem_append_right _ List.mem_cons_self);have hp:=sub_of hO.ok he;have hat:(upN L).getD pre.length (ET.dft .i64)=(p:Int):=by rw [h]; exact upN_at pre post p
  have hu:=hO.uniq;rw [h] at hu;have hkp:1≤(l.getD p (ET.dft .node)).kind∧(l.getD p (ET.dft .node)).kind≤7:=by
   rw [List.getD_eq_getElem?_getD,List.getElem?_eq_getElem hp.lt];exact hkd _ (List.getElem_mem hp.lt)
  obtain ⟨c',h1,h2⟩:=p_put hO.ok hp hkp hu.before;have h1':zag_s (⟨[],(cOf l pre).iss,(cOf l pre).hasIss,(cOf l pre).sub,(cOf l pre).hasSub,(cOf l pre).aud,(cOf l pre).hasAud,(cOf l pre).jti,(cOf l pre).hasJti,(⟨(cOf l pre).exp_.has,(cOf l pre).exp_.at_⟩:qHe),(⟨(cOf l pre).nbf.has,(cOf l pre).nbf.at_⟩:qHe),(⟨(cOf l pre).iat.has,(cOf l pre).iat.at_⟩:qHe)⟩:qHb) l (p:Int)=some (c',goodB l p):=h1;by_cases hg:goodB l p=true
  ·have ih:=claims_loop hO hkd hL post (pre++[p]) (by rw [h]; simp);rw [List.all_cons,hg,Bool.true_and,←ih];rw [h2 hg] at h1';unfold zad_p0;rw [qAy (y:=((((pre++[p]).length:Nat):Int),tupC (cOf l (pre++[p])))) ?_]
   ·rfl
   unfold qDv;dsimp only;rw [upN_len,deT (by omega),cnT,qAb (by omega),Int.toNat_natCast,qAb (by omega),hat,h1',obS,hg,Bool.not_true,cnF];refine (qAb (by unfold qAf; omega) _).trans ?_;rw [List.length_append];rfl
  ·have hg':=Bool.eq_false_iff.2 hg;rw [List.all_cons,hg',Bool.false_and,if_neg (by decide)];unfold zad_p0;refine qAr ?_;unfold qDv;dsimp only;rw [upN_len,deT (by omega),cnT,qAb (by omega),Int.toNat_natCast,qAb (by omega),hat,h1',obS,hg',Bool.not_false,cnT]
noncomputable def allO (l:List Eng.Node) (L:List Nat):Bool:=okO (strB l) (qA8 l nIss L) && okO (strB l) (qA8 l nSub L) && okO (strB l) (qA8 l nJti L) && okO (audB l) (qA8 l nAud L) && okO (timB l) (qA8 l nExp L) && okO (timB l) (qA8 l nNbf L) && okO (timB l) (qA8 l nIat L)
theorem okO_of {f:Nat→Bool} {o:Option Nat} (h:∀p,o=some p→f p=true):okO f o=true:=by
 cases o with
 | none=>rfl
 | some p=>exact h p rfl
theorem all_good {l:List Eng.Node} {L:List Nat} (hu:Uniq l L):L.all (goodB l)=allO l L:=by
 have hgood:∀p,goodB l p=if qAu l p=nIss then strB l p else if qAu l p=nSub then strB l p else if qAu l p=nJti then strB l p else if qAu l p=nExp then timB l p else if qAu l p=nNbf then timB l p else if qAu l p=nIat then timB l p else if qAu l p=nAud then audB l p else true:=fun p=>rfl
 rw [Bool.eq_iff_iff];unfold allO;simp only [Bool.and_eq_true,List.all_eq_true];constructor
 ·intro h;have g:∀key p,qA8 l key L=some p→qAu l p=key∧goodB l p=true:=fun key p hf=>⟨(qCl hf).2,h p (qCl hf).1⟩
  refine ⟨⟨⟨⟨⟨⟨?_,?_⟩,?_⟩,?_⟩,?_⟩,?_⟩,?_⟩ <;> refine okO_of fun p hf=>?_ <;> obtain ⟨g1,g2⟩:=g _ p hf <;> rw [hgood,g1] at g2 <;> exact g2
 ·rintro ⟨⟨⟨⟨⟨⟨h1,h2⟩,h3⟩,h4⟩,h5⟩,h6⟩,h7⟩ p hp
  obtain ⟨A,B,rfl⟩:=List.append_of_mem hp;have hf:=hu.find;have use:∀ {key:BA} {f:Nat→Bool},okO f (qA8 l key (A++p::B))=true→qAu l p=key→f p=true:=fun h hk=>by
   rw [←hk,hf] at h;exact h
  rw [hgood];split
  ·rename_i hk; exact use h1 hk
  split
  ·rename_i hk; exact use h2 hk
  split
  ·rename_i hk; exact use h3 hk
  split
  ·rename_i hk; exact use h5 hk
  split
  ·rename_i hk; exact use h6 hk
  split
  ·rename_i hk; exact use h7 hk
  split
  ·rename_i hk; exact use h4 hk
  ·rfl
noncomputable def fullC (l:List Eng.Node) (L:List Nat):qHb:=⟨l,(cOf l L).iss,(cOf l L).hasIss,(cOf l L).sub,(cOf l L).hasSub,(cOf l L).aud,(cOf l L).hasAud,(cOf l L).jti,(cOf l L).hasJti,(cOf l L).exp_,(cOf l L).nbf,(cOf l L).iat⟩
end Go.Proofs.YticplgndjpljiaaDoor
namespace Go.Proofs.YticplgndjpljiaaDoor
open Go.Eng
set_option linter.unusedVariables false
set_option linter.unusedSimpArgs false
def plP (a b:Int):Int:=if 0<b∧9223372036854775807 - b<a then 9223372036854775807 else if b<0∧a < -9223372036854775808 - b then -9223372036854775808 else a+b
theorem plus_is {a b:Int} (ha:qAf a) (hb : -601≤b∧b≤601):zaf_s a b=some (plP a b):=by
 unfold qAf at ha;unfold zaf_s plP;rw [qAb (fun h=>by rw [decide_eq_true_eq] at h; unfold qAf; omega)];by_cases h1:0<b∧9223372036854775807 - b<a
 ·rw [if_pos h1,deT h1.1,deT h1.2];rfl
 ·rw [if_neg h1];have e1:(decide (0<b) && decide (9223372036854775807 - b<a))=false:=by
   rw [Bool.eq_false_iff];intro h;rw [Bool.and_eq_true,decide_eq_true_eq,decide_eq_true_eq] at h;exact h1 h
  rw [e1,cnF,qAb (fun h=>by rw [decide_eq_true_eq] at h; unfold qAf; omega)];by_cases h2:b<0∧a < -9223372036854775808 - b
  ·rw [if_pos h2,deT h2.1,deT h2.2];rfl
  ·rw [if_neg h2];have e2:(decide (b<0) && decide (a < -9223372036854775808 - b))=false:=by
    rw [Bool.eq_false_iff];intro h;rw [Bool.and_eq_true,decide_eq_true_eq,decide_eq_true_eq] at h;exact h2 h
   rw [e2,cnF];exact qAb (by unfold qAf; omega) _
def expB (c:qHb) (L now:Int):Bool:=c.exp_.has && decide (c.exp_.at_≤now - L)
def nbfB (c:qHb) (L now:Int):Bool:=c.nbf.has && decide (now+L<c.nbf.at_)
def iatB (c:qHb) (L now:Int):Bool:=c.iat.has && decide (now+L<c.iat.at_)
def clP (c:qHb) (L now:Int):Int:=bif expB c L now then 134 else bif nbfB c L now then 135 else bif iatB c L now then 136 else 0
structure OkC (c:qHb):Prop where
 e:qAf c.exp_.at_
 n:qAf c.nbf.at_
 i:qAf c.iat.at_
theorem late_is {x:qHe} (hx:qAf x.at_) {L now:Int} (hL:0≤L∧L≤600) (hn:qAf now):(x.has && (decide (now<plP x.at_ (0 - L))))=(x.has && decide (now+L<x.at_)):=by
 congr 1
 unfold qAf at hx hn;unfold plP;apply Bool.eq_iff_iff.2;rw [decide_eq_true_eq,decide_eq_true_eq];split
 ·omega
 ·split <;> omega
theorem clock_is {c:qHb} (hc:OkC c) {L now:Int} (hL:0≤L∧L≤600) (hn:qAf now):zab_s c L now=some (clP c L now):=by
 have he:=hc.e;have hn':=hn;have l1:=late_is hc.n hL hn;have l2:=late_is hc.i hL hn;unfold qAf at he hn';unfold zab_s;rw [deF (show ¬L<0 by omega),deF (show ¬600<L by omega),Bool.or_self,cnF,qAb (fun _=>by unfold qAf; omega),plus_is hn (by omega),obS,qAb (fun _=>by unfold qAf; omega),plus_is hc.n (by omega),plus_is hc.i (by omega)];have e1:((c.exp_.has && (decide (c.exp_.at_≤plP now (0 - L)))) && (!((decide (now<((-9223372036854775808:Int)+L))) && (decide (c.exp_.at_=(-9223372036854775808:Int))))))=expB c L now:=by
  unfold expB;rw [Bool.and_assoc];congr 1
  unfold plP;apply Bool.eq_iff_iff.2;rw [Bool.and_eq_true,decide_eq_true_eq,decide_eq_true_eq,Bool.not_eq_true',Bool.and_eq_false_iff,decide_eq_false_iff_not,decide_eq_false_iff_not];split
  ·omega
  ·split <;> omega
 rw [e1];unfold clP nbfB iatB;rw [←l1,←l2];cases expB c L now with
 | true=>rfl
 | false =>
  rw [cnF,cnF,qAb (fun _=>by unfold qAf; omega),qAb (fun _=>by unfold qAf; omega)];cases c.nbf.has <;> cases c.iat.has <;> simp only [cnT,cnF,Bool.true_and,Bool.false_and,obS] <;> (try rfl)
  ·cases decide (now<plP c.iat.at_ (0 - L)) <;> rfl
  ·cases decide (now<plP c.nbf.at_ (0 - L)) <;> rfl
  ·cases decide (now<plP c.nbf.at_ (0 - L)) <;> cases decide (now<plP c.iat.at_ (0 - L)) <;> rfl
def mx (a b:Int):Int:=if b > a then b else a
def qGw (c:qHb) (L:Int):Int :=
 bif c.iat.has then mx (bif c.nbf.has then mx (-9223372036854775808) (plP c.nbf.at_ (0 - L)) else -9223372036854775808) (plP c.iat.at_ (0 - L)) else bif c.nbf.has then mx (-9223372036854775808) (plP c.nbf.at_ (0 - L)) else -9223372036854775808
theorem open_p1 {c:qHb} (hc:OkC c) {L:Int} (hL:0≤L∧L≤600):zac_p1 L (-9223372036854775808) ([(⟨c.nbf.has,c.nbf.at_⟩:Eng.Tm),(⟨c.iat.has,c.iat.at_⟩:Eng.Tm)].length:Int) 0 [(⟨c.nbf.has,c.nbf.at_⟩:Eng.Tm),(⟨c.iat.has,c.iat.at_⟩:Eng.Tm)]=some (qGw c L):=by
 rw [show ([(⟨c.nbf.has,c.nbf.at_⟩:Eng.Tm),(⟨c.iat.has,c.iat.at_⟩:Eng.Tm)].length:Int)=2 from rfl];unfold zac_p1;rw [qAy (y:=((bif c.nbf.has then mx (-9223372036854775808) (plP c.nbf.at_ (0 - L)) else -9223372036854775808),(1:Int))),qAy (y:=(qGw c L,(2:Int))),qAr (o:=qGw c L)]
 ·rfl
 ·unfold qFm;dsimp only;rw [deT (by decide),cnT];refine (qAb (show (0:Int)≤1∧(1:Int)<2 by decide) _).trans ((qAb (show (1:Nat)<2 by decide) _).trans ?_);show (bif c.iat.has then gd (qAf (0 - L)) ((zaf_s c.iat.at_ (0 - L)).bind _) else _)=_;unfold qGw;cases c.iat.has with
  | true =>
   rw [cnT,cnT,qAb (by unfold qAf; omega),plus_is hc.i (by omega),obS];exact qAb (by unfold qAf; decide) _
  | false=>exact qAb (by unfold qAf; decide) _
 ·unfold qFm;dsimp only;rw [deT (by decide),cnT];refine (qAb (show (0:Int)≤0∧(0:Int)<2 by decide) _).trans ((qAb (show (0:Nat)<2 by decide) _).trans ?_);show (bif c.nbf.has then gd (qAf (0 - L)) ((zaf_s c.nbf.at_ (0 - L)).bind _) else _)=_;cases c.nbf.has with
  | true =>
   rw [cnT,cnT,qAb (by unfold qAf; omega),plus_is hc.n (by omega),obS];exact qAb (by unfold qAf; decide) _
  | false=>exact qAb (by unfold qAf; decide) _
theorem open_is {c:qHb} (hc:OkC c) {L:Int} (hL:0≤L∧L≤600):∃w:qHv,zac_s c L=some (w,0) ∧
  ((w=⟨true,0,0⟩∧∀now,qAf now→clP c L now≠0)∨(w.empty=false∧qAf w.from_∧qAf w.to_∧w.from_≤w.to_∧(∀now,qAf now→(clP c L now=0↔w.from_≤now∧now≤w.to_))∧(w.to_<9223372036854775807→clP c L (w.to_+1)=134))):=by
 have cz:∀now,clP c L now=0↔expB c L now=false∧nbfB c L now=false∧iatB c L now=false:=fun now=>by
  unfold clP;cases expB c L now <;> cases nbfB c L now <;> cases iatB c L now <;> decide
 have hfr:qAf (qGw c L)∧∀now,qAf now→((nbfB c L now=false∧iatB c L now=false)↔qGw c L≤now):=by
  have h1:=hc.n;have h2:=hc.i;unfold qAf at h1 h2 ⊢;unfold nbfB iatB qGw mx plP;cases c.nbf.has <;> cases c.iat.has <;> simp only [cnT,cnF,Bool.true_and,Bool.false_and,decide_eq_false_iff_not,true_and,and_true]
  ·exact ⟨by omega,fun now hn=>⟨fun _=>by omega,fun _=>trivial⟩⟩
  ·refine ⟨?_,fun now hn=>?_⟩
   ·repeat' split
    all_goals omega
   ·repeat' split
    all_goals omega
  ·refine ⟨?_,fun now hn=>?_⟩
   ·repeat' split
    all_goals omega
   ·repeat' split
    all_goals omega
  ·refine ⟨?_,fun now hn=>?_⟩
   ·repeat' split
    all_goals omega
   ·repeat' split
    all_goals omega
 have p0:∀hi:Int,zac_p0 L (-9223372036854775808) hi c.nbf.has c.nbf.at_ c.iat.has c.iat.at_=some (if hi<qGw c L then (0,true,0,0) else (0,false,qGw c L,hi)):=fun hi=>by
  unfold zac_p0;rw [open_p1 hc hL,obS];by_cases h:hi<qGw c L
  ·rw [deT h,if_pos h]; rfl
  ·rw [deF h,if_neg h]; rfl
 have fin:∀hi:Int,qAf hi→(∀now,qAf now→(expB c L now=false↔now≤hi))→(hi<9223372036854775807→expB c L (hi+1)=true)→∃w:qHv,some ((⟨(if hi<qGw c L then (0,true,0,0) else (0,false,qGw c L,hi):Int × Bool × Int × Int).2.1,(if hi<qGw c L then (0,true,0,0) else (0,false,qGw c L,hi):Int × Bool × Int × Int).2.2.1,(if hi<qGw c L then (0,true,0,0) else (0,false,qGw c L,hi):Int × Bool × Int × Int).2.2.2⟩:qHv),(if hi<qGw c L then (0,true,0,0) else (0,false,qGw c L,hi):Int × Bool × Int × Int).1)=some (w,(0:Int)) ∧
   ((w=⟨true,0,0⟩∧∀now,qAf now→clP c L now≠0)∨(w.empty=false∧qAf w.from_∧qAf w.to_∧w.from_≤w.to_∧(∀now,qAf now→(clP c L now=0↔w.from_≤now∧now≤w.to_))∧(w.to_<9223372036854775807→clP c L (w.to_+1)=134))):=fun hi hto hex hnx=>by
  by_cases h:hi<qGw c L
  ·rw [if_pos h];refine ⟨_,rfl,.inl ⟨rfl,fun now hn h0=>?_⟩⟩;obtain ⟨a1,a2⟩:=(cz now).1 h0;have b1:=(hex now hn).1 a1;have b2:=(hfr.2 now hn).1 a2;omega
  ·rw [if_neg h];refine ⟨_,rfl,.inr ⟨rfl,hfr.1,hto,by show qGw c L≤hi; omega,fun now hn=>?_,fun h=>?_⟩⟩
   ·rw [cz,hex now hn,hfr.2 now hn];exact And.comm
   ·show clP c L (hi+1)=134;unfold clP;rw [hnx h];rfl
 have he:=hc.e;unfold zac_s;rw [deF (show ¬L<0 by omega),deF (show ¬600<L by omega),Bool.or_self,cnF];cases hh:c.exp_.has with
 | true =>
  rw [cnT];by_cases h0:c.exp_.at_ = -9223372036854775808∧L=0
  ·rw [deT h0.1,deT h0.2,Bool.and_self,cnT];refine ⟨_,rfl,.inl ⟨rfl,fun now hn hz=>?_⟩⟩;have:=((cz now).1 hz).1;unfold expB at this;rw [hh,Bool.true_and,decide_eq_false_iff_not] at this;unfold qAf at hn;omega
  ·have e1:(decide (c.exp_.at_ = -9223372036854775808) && decide (L=0))=false:=by
    rw [Bool.eq_false_iff];intro h;rw [Bool.and_eq_true,decide_eq_true_eq,decide_eq_true_eq] at h;exact h0 h
   rw [e1,cnF,qAb (by unfold qAf; omega),plus_is he (by omega),obS,p0,obS];unfold qAf at he;refine fin _ ?_ (fun now hn=>?_) fun h=>?_
   ·unfold plP qAf;repeat' split
    all_goals omega
   ·unfold expB plP;unfold qAf at hn;rw [hh,Bool.true_and,decide_eq_false_iff_not];repeat' split
    all_goals omega
   ·unfold expB;rw [hh,Bool.true_and,decide_eq_true_eq];unfold plP at h ⊢;revert h;repeat' split
    all_goals omega
 | false =>
  rw [cnF,p0,obS];refine fin _ (by unfold qAf; decide) (fun now hn=>?_) fun h=>by omega
  unfold expB;unfold qAf at hn;rw [hh,Bool.false_and];exact ⟨fun _=>by omega,fun _=>rfl⟩
theorem zero_of {c:qHb} {L now:Int} (h:clP c L now=0):expB c L now=false∧nbfB c L now=false∧iatB c L now=false:=by
 unfold clP at h;revert h;cases expB c L now <;> cases nbfB c L now <;> cases iatB c L now <;> decide
theorem getD_str {l:List BA} {i:Nat} (h:i<l.length):l.getD i (ET.dft .str)=l[i]:=by simp [List.getD,h]
theorem index_loop (v:BA) (l:List BA) (hl:l.length≤3000000):∀(j i:Nat),i+j=l.length →
  (∃k:Nat,zby_p0 v (l.length:Int) (i:Int) l=some (.inl (k:Int))∧v∈l.drop i)∨(zby_p0 v (l.length:Int) (i:Int) l=some (.inr ())∧¬v∈l.drop i)
 | 0,i,h=>by
  refine .inr ⟨?_,?_⟩
  ·unfold zby_p0;refine qAr ?_;unfold qC7;rw [deF (by omega),cnF]
  ·rw [List.drop_eq_nil_of_le (by omega)];exact fun h=>by cases h
 | j+1,i,h=>by
  have hi:i<l.length:=by omega
  have hd:l.drop i=l[i]::l.drop (i+1):=List.drop_eq_getElem_cons hi;by_cases he:v=l[i]
  ·refine .inl ⟨i,?_,?_⟩
   ·unfold zby_p0;refine qAr ?_;unfold qC7;rw [deT (by omega),cnT,qAb (by omega),qAb (by omega),Int.toNat_natCast,getD_str hi,deT he,cnT]
   ·rw [hd,he]; exact List.mem_cons_self
  ·have hst:qC7 v (l.length:Int) (i:Int) l=some (.inl ((i+1:Nat):Int)):=by
    unfold qC7;rw [deT (by omega),cnT,qAb (by omega),qAb (by omega),Int.toNat_natCast,getD_str hi,deF he,cnF];exact qAb (by unfold qAf; omega) _
   have hm:v∈l.drop i↔v∈l.drop (i+1):=by rw [hd,List.mem_cons]; simp [he]
   have ih:=index_loop v l hl j (i+1) (by omega);rw [hm];unfold zby_p0 at ih ⊢;rw [qAy hst];exact ih
noncomputable def inB (l:List BA) (v:BA):Bool:=(zbx_s l v).getD false
theorem contains_is (l:List BA) (hl:l.length≤3000000) (v:BA):zbx_s l v=some (inB l v)∧(inB l v=true↔v∈l):=by
 have h:=index_loop v l hl l.length 0 (by omega);rw [List.drop_zero,show ((0:Nat):Int)=0 from rfl] at h;have key:∃b,zbx_s l v=some b∧(b=true↔v∈l):=by
  unfold zbx_s zby_s;rcases h with ⟨k,h,hm⟩ | ⟨h,hm⟩
  ·refine ⟨true,?_,fun _=>hm,fun _=>rfl⟩;rw [h,obS,Sum.elim_inl,obS,deT (by omega)]
  ·refine ⟨false,?_,fun h=>(by cases h),fun h=>(hm h).elim⟩;rw [h,obS,Sum.elim_inr,obS,deF (by omega)]
 obtain ⟨b,h1,h2⟩:=key;have:inB l v=b:=by unfold inB; rw [h1]; rfl
 rw [this];exact ⟨h1,h2⟩
theorem need_is {v:List Eng.Node} {m:BA→Int} (hm:∀n,zaq_s v 0 n=some (m n)) (l:List BA) (hl:l.length≤3000000):∀(j i:Nat),i+j=l.length →
  zaa_p0 (l.length:Int) (i:Int) v l=some (if (l.drop i).all (fun n=>decide (0≤m n))=true then .inr () else .inl 137)
 | 0,i,h=>by
  rw [List.drop_eq_nil_of_le (by omega)];unfold zaa_p0;refine qAr ?_;unfold qD6;rw [deF (by omega),cnF];rfl
 | j+1,i,h=>by
  have hi:i<l.length:=by omega
  have hd:l.drop i=l[i]::l.drop (i+1):=List.drop_eq_getElem_cons hi;rw [hd,List.all_cons];by_cases hr:m l[i]<0
  ·rw [deF (show ¬0≤m l[i] by omega),Bool.false_and,if_neg (by decide)];unfold zaa_p0;refine qAr ?_;unfold qD6;rw [deT (by omega),cnT,qAb (by omega),qAb (by omega),Int.toNat_natCast,getD_str hi,hm,obS,deT hr,cnT]
  ·rw [deT (show 0≤m l[i] by omega),Bool.true_and,←need_is hm l hl j (i+1) (by omega)];unfold zaa_p0;rw [qAy (y:=((i+1:Nat):Int))];unfold qD6;rw [deT (by omega),cnT,qAb (by omega),qAb (by omega),Int.toNat_natCast,getD_str hi,hm,obS,deF hr,cnF];exact qAb (by unfold qAf; omega) _
noncomputable def chP (m:BA→Int) (c:qHb) (p:qHw):Int :=
 bif !(p.need.all fun n=>decide (0≤m n)) then 137 else bif p.hasIss && !(c.hasIss && decide (c.iss=p.iss)) then 132 else bif p.hasAud then (bif c.hasAud && inB c.aud p.aud then 0 else 133) else bif c.hasAud then 133 else 0
theorem check_is {c:qHb} {p:qHw} {m:BA→Int} (hm:∀n,zaq_s c.value 0 n=some (m n)) (h2:c.aud.length≤3000000) (h3:p.need.length≤3000000):zaa_s c p=some (chP m c p):=by
 have h:=need_is hm p.need h3 p.need.length 0 (by omega);rw [List.drop_zero,show ((0:Nat):Int)=0 from rfl] at h;unfold zaa_s chP;rw [h,obS,(contains_is c.aud h2 p.aud).1];cases (p.need.all fun n=>decide (0≤m n)) with
 | false=>rfl
 | true =>
  rw [if_pos rfl,Sum.elim_inr,Bool.not_true,cnF];cases (p.hasIss && !(c.hasIss && decide (c.iss=p.iss))) with
  | true=>rfl
  | false =>
   rw [cnF,cnF];cases p.hasAud <;> cases c.hasAud <;> try rfl
   cases inB c.aud p.aud <;> rfl
theorem p_parse_ok {t:BA} {l:List Eng.Node} {L:List Nat} (hs:t.size≤262144) (hr:qGd t=.ok t.size l) (h7:(l.getD 0 (ET.dft .node)).kind=7) (hO:Obj l L) (hkd:∀n∈l,1≤n.kind∧n.kind≤7) (hL:L.length≤2000000) (hall:L.all (goodB l)=true):qGu t=some (fullC l L,0):=by
 have hp:qFk t=(l,0,0):=by
  unfold qFk;rw [if_neg (by omega),hr];rfl
 have hlt:=hO.ne;have hlp:=claims_loop hO hkd hL L [] rfl;have hlp':zad_p0 ((upN L).length:Int) 0 l ⟨#[]⟩ false ⟨#[]⟩ false false ⟨#[]⟩ false false 0 false 0 false 0 (upN L) [] []=some (if L.all (goodB l)=true then .inr (tupC (cOf l L)) else .inl (131,⟨#[]⟩,false,⟨#[]⟩,false,false,⟨#[]⟩,false,false,0,false,0,false,0,[],[])):=hlp;unfold qGu;rw [p_Parse,obS,hp];dsimp only;rw [deT rfl,Bool.not_true,cnF,qAb (by omega),qAb (by omega),qAb (by omega)];rw [show Int.toNat 0=0 from rfl,deT h7,Bool.not_true,cnF,hO.kids,obS,hlp',obS,if_pos hall];rfl
def awT:BA:=⟨#[123,34,105,115,115,34,58,34,97,34,44,34,97,117,100,34,58,91,34,120,34,44,34,121,34,93,44,34,101,120,112,34,58,49,48,44,34,110,34,58,49,125]⟩
def awV:List Eng.Node:=[⟨7,⟨#[]⟩,⟨#[]⟩,false,0,4⟩,⟨5,nIss,⟨#[97]⟩,false,0,0⟩,⟨6,nAud,⟨#[]⟩,false,0,2⟩,⟨5,⟨#[]⟩,⟨#[120]⟩,false,0,0⟩,⟨5,⟨#[]⟩,⟨#[121]⟩,false,0,0⟩,⟨4,nExp,⟨#[49,48]⟩,true,10,0⟩,⟨4,⟨#[110]⟩,⟨#[49]⟩,true,1,0⟩]
def awC:qHb:=⟨awV,⟨#[97]⟩,true,⟨#[]⟩,false,[⟨#[120]⟩,⟨#[121]⟩],true,⟨#[]⟩,false,⟨true,10⟩,⟨false,0⟩,⟨false,0⟩⟩
theorem aw_read:qGd awT=.ok awT.size awV:=by kernel_rfl
theorem aw_size:awT.size=42:=by decide
theorem aw_all {p:Eng.Node→Prop} (h:∀n,n=awV.getD 0 (ET.dft .node)∨n=awV.getD 1 (ET.dft .node)∨n=awV.getD 2 (ET.dft .node)∨n=awV.getD 3 (ET.dft .node)∨n=awV.getD 4 (ET.dft .node)∨n=awV.getD 5 (ET.dft .node)∨n=awV.getD 6 (ET.dft .node)→p n):∀n∈awV,p n:=fun n hn=>by
 refine h n ?_;simp only [awV,List.mem_cons,List.not_mem_nil,or_false] at hn;exact hn
theorem aw_kind:∀n∈awV,1≤n.kind∧n.kind≤7:=aw_all fun n hn=>by
 rcases hn with rfl | rfl | rfl | rfl | rfl | rfl | rfl <;> decide
theorem aw_ok:OkL awV:=⟨by decide,aw_all fun n hn=>by
 rcases hn with rfl | rfl | rfl | rfl | rfl | rfl | rfl <;> exact ⟨by decide,by decide,by unfold qAf; decide⟩⟩
theorem aw_tree:Tree awV 0 7:=readR_tree aw_read
theorem aw_leaf {a:Nat} {n:Eng.Node} (h:awV[a]?=some n) (h0:n.kids=0):Tree awV a (a+1):=Tree.mk h (by omega) (by
 rw [h0];exact Trees.nil _ (by have:=(List.getElem?_eq_some_iff.1 h).1; omega))
theorem aw_two:Trees awV 2 3 5:=Trees.app (aw_leaf (a:=3) rfl rfl) (aw_leaf (a:=4) rfl rfl)
theorem aw_aud:Tree awV 2 5:=Tree.mk (n:=⟨6,nAud,⟨#[]⟩,false,0,2⟩) rfl (by decide) aw_two
theorem aw_pl:qBt awV 4 1 [1,2,5,6] 7:=⟨2,[2,5,6],rfl,aw_leaf (a:=1) rfl rfl,5,[5,6],rfl,aw_aud,6,[6],rfl,aw_leaf (a:=5) rfl rfl,7,[],rfl,aw_leaf (a:=6) rfl rfl,rfl,rfl⟩
theorem aw_pl2:qBt awV 2 3 [3,4] 5:=⟨4,[4],rfl,aw_leaf (a:=3) rfl rfl,5,[],rfl,aw_leaf (a:=4) rfl rfl,rfl,rfl⟩
theorem aw_sub:subP awV 2=[3,4]:=by
 unfold subP;rw [j_kids (a:=2) (nd:=⟨6,nAud,⟨#[]⟩,false,0,2⟩) aw_ok.1 rfl (by decide) aw_two aw_pl2];exact qEw _
theorem aw_obj:Obj awV [1,2,5,6]:=by
 obtain ⟨L,hO⟩:=obj_read (by rw [aw_size]; decide) aw_read aw_ok aw_tree rfl fun d a b h=>oneS_tree aw_ok d true a b h
 obtain ⟨nd,h1,h2,h3⟩:=aw_tree.node;obtain rfl:nd=⟨7,⟨#[]⟩,⟨#[]⟩,false,0,4⟩:=by cases h1; rfl
 have hk:=j_kids aw_ok.1 h1 h2 h3 aw_pl;have hk':=hO.kids;rw [show ((0:Nat):Int)=0 from rfl] at hk;rw [hk] at hk';have e:=congrArg (List.map Int.toNat) (Option.some.inj hk');rw [qEw,qEw] at e;rw [e];exact hO
theorem aw_good:[1,2,5,6].all (goodB awV)=true:=by
 have g2:goodB awV 2=true:=by
  show audB awV 2=true;unfold audB;rw [if_pos (show (awV.getD 2 (ET.dft .node)).kind=6 from rfl),aw_sub];rfl
 simp only [List.all_cons,List.all_nil,Bool.and_true,Bool.and_eq_true];exact ⟨rfl,g2,rfl,rfl⟩
theorem aw_full:fullC awV [1,2,5,6]=awC:=by
 have ha:audO awV (qA8 awV nAud [1,2,5,6])=[⟨#[120]⟩,⟨#[121]⟩]:=by
  show audO awV (some 2)=_;rw [audO_six (show (awV.getD 2 (ET.dft .node)).kind=6 from rfl),aw_sub];rfl
 unfold fullC cOf;dsimp only;rw [ha];rfl
theorem aw_parse:qGu awT=some (awC,0):=by
 rw [p_parse_ok (by rw [aw_size]; decide) aw_read rfl aw_obj aw_kind (by decide) aw_good,aw_full]
theorem aw_okC:OkC awC:=⟨by unfold qAf; decide,by unfold qAf; decide,by unfold qAf; decide⟩
theorem awake_is:zbt_s=some true:=by
 have hm:∀n,zaq_s awC.value 0 n=some (memI (qA8 awV n [1,2,5,6])):=fun n=>aw_obj.mem n
 have c1:=check_is (c:=awC) (p:=⟨[],⟨#[97]⟩,true,⟨#[121]⟩,true,⟨#[]⟩,false,0,[⟨#[110]⟩]⟩) hm (by decide) (by decide);have c2:=check_is (c:=awC) (p:=⟨[],⟨#[]⟩,false,⟨#[]⟩,false,⟨#[]⟩,false,0,[]⟩) hm (by decide) (by decide);have hin:inB awC.aud ⟨#[121]⟩=true:=(contains_is awC.aud (by decide) ⟨#[121]⟩).2.2 (List.mem_cons_of_mem _ List.mem_cons_self);have e1:chP (fun n=>memI (qA8 awV n [1,2,5,6])) awC ⟨[],⟨#[97]⟩,true,⟨#[121]⟩,true,⟨#[]⟩,false,0,[⟨#[110]⟩]⟩=0:=by
  unfold chP;rw [show inB awC.aud (⟨[],⟨#[97]⟩,true,⟨#[121]⟩,true,⟨#[]⟩,false,0,[⟨#[110]⟩]⟩:qHw).aud=true from hin];rfl
 have e2:chP (fun n=>memI (qA8 awV n [1,2,5,6])) awC ⟨[],⟨#[]⟩,false,⟨#[]⟩,false,⟨#[]⟩,false,0,[]⟩=133:=rfl;rw [e1] at c1;rw [e2] at c2;have k1:=clock_is aw_okC (L:=5) (now:=14) (by decide) (by unfold qAf; decide);have k2:=clock_is aw_okC (L:=5) (now:=15) (by decide) (by unfold qAf; decide);have z1:clP awC 5 14=0:=rfl;have z2:clP awC 5 15=134:=rfl;obtain ⟨w,o1,o2⟩:=open_is aw_okC (L:=5) (by decide);have hw:w.empty=false∧w.to_=14:=by
  rcases o2 with ⟨_,h⟩ | ⟨h1,h2,h3,h4,h5,_⟩
  ·exact (h 14 (by unfold qAf; decide) z1).elim
  ·have q1:=(h5 14 (by unfold qAf; decide)).1 z1;have q2:¬(w.from_≤15∧15≤w.to_):=fun h=>by
    have:=(h5 15 (by unfold qAf; decide)).2 h;rw [z2] at this;cases this
   exact ⟨h1,by omega⟩
 unfold zbt_s;rw [show (⟨#[123,34,105,115,115,34,58,34,97,34,44,34,97,117,100,34,58,91,34,120,34,44,34,121,34,93,44,34,101,120,112,34,58,49,48,44,34,110,34,58,49,125]⟩:BA)=awT from rfl,aw_parse,obS];dsimp only;rw [o1,obS];dsimp only;rw [hw.1,hw.2,c1,c2,k1,k2,z1,z2];rfl
end Go.Proofs.YticplgndjpljiaaDoor
