/-
  ClaimsWritten: its call returns true.
-/
import Derived.Below
import Derived.Carry
import Derived.Lib.LaidU8
import Derived.Shelf.Lay
import Derived.Ground.NamesProg
import Derived.Test.YticplgndjpljiaaDoorPAwake
import Derived.Test.YticplgndjpljiaaDoorPShort
import Derived.Test.YticplgndjpljiaaDoorEngN
import Derived.Test.YticplgndjpljiaaDoorEngO
import Derived.Test.YticplgndjpljiaaDoorProg
import Derived.Test.YticplgndjpljiaaDoorRows
namespace Go.Proofs.YticplgndjpljiaaDoor
open Go.Eng
set_option linter.unusedVariables false
set_option linter.unusedSimpArgs false
theorem w_parse_obj {t:BA} {l:List Eng.Node} {L:List Nat} (hp:qFk t=(l,0,0)) (h7:(l.getD 0 (ET.dft .node)).kind=7) (hO:Obj l L) (hkd:∀n∈l,1≤n.kind∧n.kind≤7) (hL:L.length≤2000000):qGu t=some (if allO l L=true then (fullC l L,0) else (noC,131)):=by
 have hlt:=hO.ne;have hlp:=claims_loop hO hkd hL L [] rfl;have hlp':zad_p0 ((upN L).length:Int) 0 l ⟨#[]⟩ false ⟨#[]⟩ false false ⟨#[]⟩ false false 0 false 0 false 0 (upN L) [] []=some (if L.all (goodB l)=true then .inr (tupC (cOf l L)) else .inl (131,⟨#[]⟩,false,⟨#[]⟩,false,false,⟨#[]⟩,false,false,0,false,0,false,0,[],[])):=hlp;unfold qGu;rw [p_Parse,obS,hp];dsimp only;rw [deT rfl,Bool.not_true,cnF,qAb (by omega),qAb (by omega),qAb (by omega)];rw [show Int.toNat 0=0 from rfl,deT h7,Bool.not_true,cnF,hO.kids,obS,hlp',obS,all_good hO.uniq];cases allO l L <;> rfl
theorem w_parse_no {t:BA} {l:List Eng.Node} (hp:qFk t=(l,0,0)) (hl:0<l.length) (h7:¬(l.getD 0 (ET.dft .node)).kind=7):∃k,qGu t=some (noC,k)∧k≠0:=by
 unfold qGu;rw [p_Parse,obS,hp];dsimp only;rw [deT rfl,Bool.not_true,cnF,qAb (by omega),qAb (by omega),qAb (by omega)];rw [show Int.toNat 0=0 from rfl,deF h7,Bool.not_false,cnT];exact ⟨_,rfl,by decide⟩
theorem parse_det {t t':BA} (h:qFk t'=qFk t):qGu t'=qGu t:=by
 unfold qGu;rw [p_Parse,p_Parse,h]
def Ext (v x:List Eng.Node):Prop:=v.length≤x.length∧∀j,1≤j→j<v.length→x[j]?=v[j]?
theorem Ext.getD {v x:List Eng.Node} (h:Ext v x) {j:Nat} (h1:1≤j) (h2:j<v.length):x.getD j (ET.dft .node)=v.getD j (ET.dft .node):=by
 rw [List.getD_eq_getElem?_getD,List.getD_eq_getElem?_getD,h.2 j h1 h2]
theorem ext_trees {v x:List Eng.Node} (h:Ext v x) {k a e:Nat} (ht:Trees v k a e):1≤a→Trees x k a e:=by
 induction ht with
 | nil a ha=>exact fun _=>Trees.nil a (Nat.le_trans ha h.1)
 | @cons k a b e n hn h0 h1 h2 i1 i2 =>
  intro h1a;have ha:=(List.getElem?_eq_some_iff.1 hn).1;have l1:=h1.le;exact Trees.cons n (by rw [h.2 a h1a ha]; exact hn) h0 (i1 (by omega)) (i2 (by omega))
theorem ext_places {v x:List Eng.Node} (h:Ext v x):∀ {k a e:Nat} {L:List Nat},1≤a→qBt v k a L e→qBt x k a L e
 | 0,a,e,L,_,hp=>hp
 | k+1,a,e,L,h1,hp=>by
  obtain ⟨b,r,rfl,g1,g2⟩:=hp;have:=Trees.le g1;exact ⟨b,r,rfl,ext_trees h g1 h1,ext_places h (by omega) g2⟩
theorem ext_kids {v x:List Eng.Node} (h:Ext v x) (hx:x.length≤2000000) {p e:Nat} (h1:1≤p) (ht:Tree v p e):zap_s x (p:Int)=zap_s v (p:Int)∧∀q∈subP v p,p<q:=by
 obtain ⟨nd,g1,g2,g3⟩:=Tree.node ht;obtain ⟨L,hL⟩:=g3.places;have hp:=(List.getElem?_eq_some_iff.1 g1).1;have e1:=j_kids (Nat.le_trans h.1 hx) g1 g2 g3 hL;have e2:=j_kids hx (by rw [h.2 p h1 hp]; exact g1) g2 (ext_trees h g3 (by omega)) (ext_places h (by omega) hL);refine ⟨by rw [e1,e2],fun q hq=>?_⟩;unfold subP at hq;rw [e1,Option.getD_some,qEw] at hq;have key:∀ {k a e:Nat} {L:List Nat},qBt v k a L e→∀q∈L,a≤q:=by
  intro k;induction k with
  | zero=>intro a e L hl q hq; rw [hl.1] at hq; cases hq
  | succ k ih =>
   intro a e L hl q hq;obtain ⟨b,r,rfl,g1,g2⟩:=hl;rcases List.mem_cons.1 hq with rfl | hq
   ·exact Nat.le_refl _
   ·have:=ih g2 q hq;have:=Trees.le g1;omega
 have:=key hL q hq;omega
def xOf (v:List Eng.Node) (name more:BA):List Eng.Node :=
 v.set 0 ⟨(v.getD 0 (ET.dft .node)).kind,(v.getD 0 (ET.dft .node)).key,(v.getD 0 (ET.dft .node)).text,(v.getD 0 (ET.dft .node)).whole,(v.getD 0 (ET.dft .node)).int,(v.getD 0 (ET.dft .node)).kids+1⟩++[⟨5,name,more,false,0,0⟩]
theorem xOf_len (v:List Eng.Node) (name more:BA):(xOf v name more).length=v.length+1:=by
 unfold xOf;rw [List.length_append,List.length_set,List.length_singleton]
theorem xOf_ext (v:List Eng.Node) (name more:BA):Ext v (xOf v name more):=by
 refine ⟨by rw [xOf_len]; omega,fun j h1 h2=>?_⟩;unfold xOf;rw [List.getElem?_append_left (by rw [List.length_set]; exact h2),List.getElem?_set_ne (by omega)]
theorem xOf_last (v:List Eng.Node) (name more:BA):(xOf v name more)[v.length]?=some ⟨5,name,more,false,0,0⟩:=by
 unfold xOf;rw [List.getElem?_append_right (by rw [List.length_set]; omega),List.length_set,Nat.sub_self];rfl
theorem xOf_root {v:List Eng.Node} (name more:BA) {nd:Eng.Node} (h:v[0]?=some nd):(xOf v name more)[0]?=some ⟨nd.kind,nd.key,nd.text,nd.whole,nd.int,nd.kids+1⟩:=by
 have hl:=(List.getElem?_eq_some_iff.1 h).1;unfold xOf;rw [List.getElem?_append_left (by rw [List.length_set]; exact hl),List.getElem?_set_self hl,nd_get h]
theorem places_snoc {x:List Eng.Node}:∀ {k a e:Nat} {L:List Nat},qBt x k a L e→Tree x e (e+1)→qBt x (k+1) a (L++[e]) (e+1)
 | 0,a,e,L,h,ht=>by
  obtain ⟨rfl,rfl⟩:=h;exact ⟨e+1,[],rfl,ht,rfl,rfl⟩
 | k+1,a,e,L,h,ht=>by
  obtain ⟨b,r,rfl,g1,g2⟩:=h;exact ⟨b,r++[e],rfl,g1,places_snoc g2 ht⟩
section
variable {v:List Eng.Node} {L:List Nat} {name more:BA} (hO:Obj v L) (hT:Tree v 0 v.length) (hv:v.length≤1000000)
include hO hT hv
theorem qE9:∃nd,v[0]?=some nd∧0≤nd.kids∧qBt v nd.kids.toNat 1 L v.length:=by
 have _:=hv;obtain ⟨nd,g1,g2,g3⟩:=hT.node;obtain ⟨L',hL⟩:=g3.places;have hk:=j_kids hO.ok.1 g1 g2 g3 hL;have hk':=hO.kids;rw [show ((0:Nat):Int)=0 from rfl] at hk;rw [hk] at hk';have e:=congrArg (List.map Int.toNat) (Option.some.inj hk');rw [qEw,qEw] at e;subst e;exact ⟨nd,g1,g2,hL⟩
theorem L_ge:∀p∈L,1≤p∧p<v.length:=by
 obtain ⟨nd,g1,g2,g3⟩:=qE9 hO hT hv;have key:∀ {k a e:Nat} {L:List Nat},qBt v k a L e→∀q∈L,a≤q∧q<v.length:=by
  intro k;induction k with
  | zero=>intro a e L hl q hq; rw [hl.1] at hq; cases hq
  | succ k ih =>
   intro a e L hl q hq;obtain ⟨b,r,rfl,g1,g2⟩:=hl;have h1:=Trees.le g1;rcases List.mem_cons.1 hq with rfl | hq
   ·omega
   ·have:=ih g2 q hq;omega
 exact key g3
theorem x_kids:zap_s (xOf v name more) 0=some (upN (L++[v.length])):=by
 obtain ⟨nd,g1,g2,g3⟩:=qE9 hO hT hv;have hx:=xOf_ext v name more;have ht:Tree (xOf v name more) v.length (v.length+1):=Tree.mk (xOf_last v name more) (show (0:Int)≤0 by omega) (Trees.nil _ (by rw [xOf_len]; omega));have hp:=places_snoc (ext_places hx (by decide) g3) ht;have hk:((nd.kids+1).toNat)=nd.kids.toNat+1:=by omega
 have hpt:qBt (xOf v name more) (nd.kids+1).toNat (0+1) (L++[v.length]) (v.length+1):=by rw [hk]; exact hp
 have htr:∀ {k a e:Nat} {L:List Nat},a≤e→e≤(xOf v name more).length→qBt (xOf v name more) k a L e→Trees (xOf v name more) k a e:=by
  intro k;induction k with
  | zero=>intro a e L h1 h2 hl; rw [hl.2]; exact Trees.nil _ (by omega)
  | succ k ih =>
   intro a e L h1 h2 hl;obtain ⟨b,r,_,g1,g2⟩:=hl;obtain ⟨n,q1,q2,q3⟩:=Tree.node g1;have hbe:b≤e:=by
    have:∀ {k a e:Nat} {L:List Nat},qBt (xOf v name more) k a L e→a≤e:=by
     intro k;induction k with
     | zero=>intro a e L hl; rw [hl.2]; exact Nat.le_refl _
     | succ k ih =>
      intro a e L hl;obtain ⟨b,r,_,g1,g2⟩:=hl;have:=ih g2;have:=Trees.le g1;omega
    exact this g2
   exact Trees.cons n q1 q2 q3 (ih hbe h2 g2)
 have h0:=j_kids (v:=xOf v name more) (a:=0) (e:=v.length+1) (by rw [xOf_len]; omega) (xOf_root name more g1) (show (0:Int)≤nd.kids+1 by omega) (htr (by omega) (by rw [xOf_len]; omega) hpt) hpt;rwa [show ((0:Nat):Int)=0 from rfl] at h0
theorem key_same {p:Nat} (hp:p∈L):qAu (xOf v name more) p=qAu v p:=by
 obtain ⟨h1,h2⟩:=L_ge hO hT hv p hp;unfold qAu;rw [(xOf_ext v name more).getD h1 h2]
theorem qB7 {key:BA} (hk:¬name=key):qA8 (xOf v name more) key (L++[v.length])=qA8 v key L:=by
 have h1:∀M:List Nat,(∀p∈M,p∈L)→qA8 (xOf v name more) key M=qA8 v key M:=by
  intro M;induction M with
  | nil=>intro _; rfl
  | cons p M ih =>
   intro hM;have hp:=key_same (name:=name) (more:=more) hO hT hv (hM p List.mem_cons_self);unfold qAu at hp;unfold qA8;rw [hp,ih fun q hq=>hM q (List.mem_cons_of_mem _ hq)]
 rw [findK_app,h1 L fun _ h=>h];cases qA8 v key L with
 | some p=>rfl
 | none =>
  show (if ((xOf v name more).getD v.length (ET.dft .node)).key=key then _ else _)=_;rw [nd_get (xOf_last v name more),if_neg hk];rfl
theorem tx_same {p:Nat} (h1:1≤p) (h2:p<v.length):tX (xOf v name more) p=tX v p:=by
 have _:=hO;have _:=hT;have _:=hv;unfold tX;rw [(xOf_ext v name more).getD h1 h2]
theorem sub_same {p:Nat} (hp:p∈L):subP (xOf v name more) p=subP v p∧∀q∈subP v p,1≤q∧q<v.length:=by
 obtain ⟨h1,h2⟩:=L_ge hO hT hv p hp;obtain ⟨e,ht⟩:=hO.tree p hp;obtain ⟨k1,k2⟩:=ext_kids (xOf_ext v name more) (by rw [xOf_len]; omega) h1 ht;have hs:=sub_of hO.ok ht;exact ⟨by unfold subP; rw [k1],fun q hq=>⟨by have:=k2 q hq; omega,hs.inn q hq⟩⟩
theorem claims_same (hn:¬name=nIss∧¬name=nSub∧¬name=nAud∧¬name=nJti∧¬name=nExp∧¬name=nNbf∧¬name=nIat) :
  cOf (xOf v name more) (L++[v.length])=cOf v L∧allO (xOf v name more) (L++[v.length])=allO v L:=by
 obtain ⟨n1,n2,n3,n4,n5,n6,n7⟩:=hn;have hge:=L_ge hO hT hv;have gd:∀ {p:Nat},p∈L→(xOf v name more).getD p (ET.dft .node)=v.getD p (ET.dft .node):=fun hp=>(xOf_ext v name more).getD (hge _ hp).1 (hge _ hp).2
 have txt:∀key,txtO (xOf v name more) (qA8 v key L)=txtO v (qA8 v key L):=fun key=>by
  cases h:qA8 v key L with
  | none=>rfl
  | some p=>exact tx_same hO hT hv (hge _ (qCl h).1).1 (hge _ (qCl h).1).2
 have tim:∀key,timO (xOf v name more) (qA8 v key L)=timO v (qA8 v key L):=fun key=>by
  cases h:qA8 v key L with
  | none=>rfl
  | some p =>
   show (⟨true,_⟩:qHe)=⟨true,_⟩;rw [gd (qCl h).1]
 have sB:∀ {p:Nat},1≤p→p<v.length→strB (xOf v name more) p=strB v p:=fun h1 h2=>by
  unfold strB;rw [(xOf_ext v name more).getD h1 h2]
 have aud:audO (xOf v name more) (qA8 v nAud L)=audO v (qA8 v nAud L):=by
  cases h:qA8 v nAud L with
  | none=>rfl
  | some p =>
   have hp:=(qCl h).1;obtain ⟨s1,s2⟩:=sub_same (name:=name) (more:=more) hO hT hv hp;by_cases h6:(v.getD p (ET.dft .node)).kind=6
   ·rw [audO_six h6,audO_six (by rw [gd hp]; exact h6),s1];exact List.map_congr_left fun q hq=>tx_same hO hT hv (s2 q hq).1 (s2 q hq).2
   ·rw [audO_else h6,audO_else (by rw [gd hp]; exact h6),tx_same hO hT hv (hge _ hp).1 (hge _ hp).2]
 have oS:∀key,okO (strB (xOf v name more)) (qA8 v key L)=okO (strB v) (qA8 v key L):=fun key=>by
  cases h:qA8 v key L with
  | none=>rfl
  | some p=>exact sB (hge _ (qCl h).1).1 (hge _ (qCl h).1).2
 have oT:∀key,okO (timB (xOf v name more)) (qA8 v key L)=okO (timB v) (qA8 v key L):=fun key=>by
  cases h:qA8 v key L with
  | none=>rfl
  | some p =>
   show timB _ p=timB _ p;unfold timB;rw [gd (qCl h).1]
 have oA:okO (audB (xOf v name more)) (qA8 v nAud L)=okO (audB v) (qA8 v nAud L):=by
  cases h:qA8 v nAud L with
  | none=>rfl
  | some p =>
   have hp:=(qCl h).1;obtain ⟨s1,s2⟩:=sub_same (name:=name) (more:=more) hO hT hv hp;show audB _ p=audB _ p;unfold audB;rw [gd hp,s1,sB (hge _ hp).1 (hge _ hp).2];have:(subP v p).all (strB (xOf v name more))=(subP v p).all (strB v):=by
    rw [Bool.eq_iff_iff,List.all_eq_true,List.all_eq_true];exact ⟨fun h q hq=>by rw [←sB (s2 q hq).1 (s2 q hq).2]; exact h q hq,fun h q hq=>by rw [sB (s2 q hq).1 (s2 q hq).2]; exact h q hq⟩
   rw [this]
 constructor
 ·unfold cOf;rw [qB7 hO hT hv n1,qB7 hO hT hv n2,qB7 hO hT hv n3,qB7 hO hT hv n4,qB7 hO hT hv n5,qB7 hO hT hv n6,qB7 hO hT hv n7,txt,txt,txt,tim,tim,tim,aud]
 ·unfold allO;rw [qB7 hO hT hv n1,qB7 hO hT hv n2,qB7 hO hT hv n3,qB7 hO hT hv n4,qB7 hO hT hv n5,qB7 hO hT hv n6,qB7 hO hT hv n7,oS,oS,oS,oA,oT,oT,oT]
end
theorem w_parse_bad {t:BA} {c b:Int} (hp:qFk t=([],c,b)) (hc:c≠0):∃x,qGu t=some (x,c):=by
 unfold qGu;rw [p_Parse,obS,hp];dsimp only;rw [deF hc,Bool.not_false,cnT];exact ⟨_,rfl⟩
theorem places_le {v:List Eng.Node}:∀ {k a e:Nat} {L:List Nat},qBt v k a L e→L.length+a≤e
 | 0,a,e,L,h=>by rw [h.1,h.2]; simp
 | k+1,a,e,L,h=>by
  obtain ⟨b,r,rfl,g1,g2⟩:=h;have:=places_le g2;have:=Trees.le g1;rw [List.length_cons];omega
theorem written_p2 (c:qHb) (h1:c.value.length≤2000000) (h2:c.aud.length≤2000000):zbs_p2 c.iss c.hasIss c.sub c.hasSub c.hasAud c.jti c.hasJti c.exp_.has c.exp_.at_ c.nbf.has c.nbf.at_ c.iat.has c.iat.at_ c.iss c.hasIss c.sub c.hasSub c.hasAud c.jti c.hasJti c.exp_.has c.exp_.at_ c.nbf.has c.nbf.at_ c.iat.has c.iat.at_ c.value c.aud c.value.length c.aud=some true:=by
 unfold zbs_p2;rw [qAb (by omega),List.drop_zero,List.take_length];exact (congrArg (fun o=>Option.bind o fun r12=>some r12) (claims_self c h1 h2)).trans rfl
theorem xOf_def (v:List Eng.Node) (name more:BA):xOf v name more=v.set 0 ⟨(v.getD 0 (ET.dft .node)).kind,(v.getD 0 (ET.dft .node)).key,(v.getD 0 (ET.dft .node)).text,(v.getD 0 (ET.dft .node)).whole,(v.getD 0 (ET.dft .node)).int,(v.getD 0 (ET.dft .node)).kids+1⟩++[⟨5,name,more,false,0,0⟩]:=rfl
theorem pw1_is {v:List Eng.Node} {L:List Nat} {name more:BA} (hO:Obj v L) (hT:Tree v 0 v.length) (hv:v.length≤1000000) (hz:∀n∈v,qFp 1048576 n) (hsn:name.size≤1048576) (hsm:more.size≤1048576)
  (hn:¬name=nIss∧¬name=nSub∧¬name=nAud∧¬name=nJti∧¬name=nExp∧¬name=nNbf∧¬name=nIat) (hall:allO v L=true) (c:qHb) (hc:c=fullC v L) (h1:c.value.length≤2000000) (h2:c.aud.length≤2000000) :
  qFw name more 0 c.iss c.hasIss c.sub c.hasSub c.hasAud c.jti c.hasJti c.exp_.has c.exp_.at_ c.nbf.has c.nbf.at_ c.iat.has c.iat.at_ v c.value c.aud=some true:=by
 have hne:=hO.ne;obtain ⟨nd,g1,g2,g3⟩:=qE9 hO hT hv;have hLl:=places_le g3;have hz0:=hz nd (List.mem_of_getElem? g1);have hnd:v.getD 0 (ET.dft .node)=nd:=nd_get g1;have hkid:0≤nd.kids∧nd.kids≤1048576:=⟨hz0.2.2.1,hz0.2.2.2.1⟩;have hokx:OkL (xOf v name more):=by
  refine ⟨by rw [xOf_len]; omega,fun n hm=>?_⟩;rw [xOf_def] at hm;rcases List.mem_append.1 hm with hm | hm
  ·rcases List.mem_or_eq_of_mem_set hm with hm | rfl
   ·exact (hz n hm).okN (by omega)
   ·rw [hnd];exact ⟨by have:=hz0.1; show nd.key.size≤_; omega,by have:=hz0.2.1; show nd.text.size≤_; omega,by show qAf (nd.kids+1); unfold qAf; omega⟩
  ·rw [List.mem_singleton] at hm;subst hm;exact ⟨by show name.size≤_; omega,by show more.size≤_; omega,by show qAf 0; unfold qAf; omega⟩
 unfold qFw;rw [deT rfl,Bool.not_true,cnF,hO.mem name,obS];by_cases hm:(0:Int)≤memI (qA8 v name L)
 ·rw [deT hm,cnT]
 rw [deF hm,cnF];simp only [List.nil_append];rw [show Int.toNat 0=0 from rfl];refine (qAb (by simp only [List.length_nil]; omega) _).trans ((qAb (by omega) _).trans ((qAb (by omega) _).trans ((qAb (by omega) _).trans ((qAb (by rw [hnd]; unfold qAf; omega) _).trans ((qAb (by omega) _).trans ((qAb (by omega) _).trans ((qAb (by omega) _).trans ((qAb (by simp only [List.length_set,List.length_singleton]; omega) _).trans ?_))))))));rw [←xOf_def v name more,p_Print hokx];by_cases hsh:¬oneS (xOf v name more) 32 false 0=some (xOf v name more).length
 ·rw [if_neg hsh];rfl
 replace hsh:=Classical.not_not.1 hsh;rw [if_pos hsh];by_cases hbig:262144<(qAt (xOf v name more) 32 0).length
 ·rw [if_pos hbig];rfl
 rw [if_neg hbig];have hr:=prOne_range (xOf v name more) 32 0;have hb:qAi (qA2 (qAt (xOf v name more) 32 0))=qAt (xOf v name more) 32 0:=bytesL_of hr;have hsz:(qA2 (qAt (xOf v name more) 32 0)).size=(qAt (xOf v name more) 32 0).length:=qFb;have hpr:=print_back hokx hsh hb (by omega);have hcp:qGu (qA2 (qAt (xOf v name more) 32 0))=some (fullC (xOf v name more) (L++[v.length]),0):=by
  rcases parseR_cases (qA2 (qAt (xOf v name more) 32 0)) with ⟨l,e1,q1,q2,hne',hll,hT',hz'⟩ | ⟨c',b,e1,hc'⟩
  ·rw [hpr] at e1;cases e1;have h7:((xOf v name more).getD 0 (ET.dft .node)).kind=7:=by
    rw [nd_get (xOf_root name more g1)];have:=hO.kind;rw [hnd] at this;exact this
   obtain ⟨L',hO'⟩:=obj_read q1 q2 hokx hT' h7 fun d a b h=>oneS_tree hokx d true a b h
   have hk:=x_kids (name:=name) (more:=more) hO hT hv;have hk':=hO'.kids;rw [hk] at hk';have e:=congrArg (List.map Int.toNat) (Option.some.inj hk');rw [qEw,qEw] at e;subst e;rw [w_parse_obj hpr h7 hO' (fun n hn=>(hz' n hn).2.2.2.2) (by rw [List.length_append,List.length_singleton]; omega),(claims_same hO hT hv hn).2,hall,if_pos rfl]
  ·rw [hpr] at e1;have:=(Prod.mk.inj (Prod.mk.inj e1).2).1;exact (hc' this.symm).elim
 have hcc:fullC (xOf v name more) (L++[v.length])={ c with value:=xOf v name more }:=by
  rw [hc];unfold fullC;rw [(claims_same hO hT hv hn).1]
 have hns:=nodes_self (xOf v name more) (by rw [xOf_len]; omega);have hval:c.value=v:=by rw [hc]; rfl
 rw [obS];dsimp only;rw [deT rfl,Bool.not_true,cnF,hcp,obS];dsimp only;rw [deT rfl,Bool.not_true,cnF,hcc];dsimp only;rw [hns,obS,Bool.not_true,cnF];exact (congrArg (fun o=>Option.bind o fun o13=>some o13) (written_p2 c h1 h2)).trans rfl
theorem aud_len {l:List Eng.Node} {L:List Nat} (hO:Obj l L):(audO l (qA8 l nAud L)).length≤2000000:=by
 cases h:qA8 l nAud L with
 | none=>exact Nat.zero_le _
 | some p =>
  obtain ⟨e,ht⟩:=hO.tree p (qCl h).1;have hs:=(sub_of hO.ok ht).len;by_cases h6:(l.getD p (ET.dft .node)).kind=6
  ·rw [audO_six h6,List.length_map]; exact hs
  ·rw [audO_else h6,List.length_singleton]; omega
theorem w_parse {t:BA} {l:List Eng.Node} (e1:qFk t=(l,0,0)) (hs:t.size≤262144) (h2:qGd t=.ok t.size l) (hok:OkL l) (hlt:0<l.length) (hT:Tree l 0 l.length) (hz:∀n∈l,qFp 1048576 n) (hl:l.length≤1000000):∃c k,qGu t=some (c,k)∧c.value.length≤2000000∧c.aud.length≤2000000:=by
 by_cases h7:(l.getD 0 (ET.dft .node)).kind=7
 ·obtain ⟨L,hO⟩:=obj_read hs h2 hok hT h7 fun d a b h=>oneS_tree hok d true a b h
  obtain ⟨nd,g1,g2,g3⟩:=qE9 hO hT hl;have hLl:=places_le g3;have hw:=w_parse_obj e1 h7 hO (fun n hn=>(hz n hn).2.2.2.2) (by omega);cases hall:allO l L with
  | false =>
   rw [hall,if_neg (by decide)] at hw;exact ⟨_,_,hw,Nat.zero_le _,Nat.zero_le _⟩
  | true =>
   rw [hall,if_pos rfl] at hw;exact ⟨_,_,hw,by show l.length≤_; omega,aud_len hO⟩
 ·obtain ⟨k,e2,_⟩:=w_parse_no e1 hlt h7;exact ⟨_,_,e2,Nat.zero_le _,Nat.zero_le _⟩
theorem claimsWritten_plain (t name more:BA) (hsn:name.size≤1048576) (hsm:more.size≤1048576):zbs_s t name more=some true:=by
 unfold zbs_s;rw [awake_is,obS,Bool.not_true,cnF];rcases parseR_cases t with ⟨l,e1,hs,h2,hne,hll,hT,hz⟩ | ⟨c',b,e1,hc⟩
 ·have hok:OkL l:=⟨by omega,fun n hn=>(hz n hn).okN (by decide)⟩;have hlt:0<l.length:=List.length_pos_iff.2 hne;obtain ⟨c,k,h1,h3,h4⟩:=w_parse e1 hs h2 hok hlt hT hz (by omega);rw [h1,obS,p_Parse,obS];have hsh:=readR_shape hs h2;have hshort:=readR_short hs h2;have hr:=prOne_range l 32 0;have hb:qAi (qA2 (qAt l 32 0))=qAt l 32 0:=bytesL_of hr;have hsz:(qA2 (qAt l 32 0)).size=(qAt l 32 0).length:=qFb;have hback:=print_back hok hsh hb (by omega);have hdet:=parse_det (t:=t) (t':=qA2 (qAt l 32 0)) (by rw [hback,e1]);rw [e1];dsimp only;rw [deT rfl,Bool.not_true,cnF,p_Print hok,hsh,if_pos rfl,if_neg (by omega),obS];dsimp only;rw [deT rfl,Bool.not_true,cnF,hdet,h1,obS];dsimp only;rw [deT rfl,Bool.not_true,cnF,claims_self c h3 h4,obS,Bool.not_true,cnF];by_cases n1:name=nIss
  ·rw [show decide (name=(⟨#[105,115,115]⟩:BA))=true from deT n1];rfl
  rw [show decide (name=(⟨#[105,115,115]⟩:BA))=false from deF n1,cnF];by_cases n2:name=nSub
  ·rw [show decide (name=(⟨#[115,117,98]⟩:BA))=true from deT n2];rfl
  rw [show decide (name=(⟨#[115,117,98]⟩:BA))=false from deF n2,cnF];by_cases n3:name=nAud
  ·rw [show decide (name=(⟨#[97,117,100]⟩:BA))=true from deT n3];rfl
  rw [show decide (name=(⟨#[97,117,100]⟩:BA))=false from deF n3,cnF];by_cases n4:name=nJti
  ·rw [show decide (name=(⟨#[106,116,105]⟩:BA))=true from deT n4];rfl
  rw [show decide (name=(⟨#[106,116,105]⟩:BA))=false from deF n4,cnF];by_cases n5:name=nExp
  ·rw [show decide (name=(⟨#[101,120,112]⟩:BA))=true from deT n5];rfl
  rw [show decide (name=(⟨#[101,120,112]⟩:BA))=false from deF n5,cnF];by_cases n6:name=nNbf
  ·rw [show decide (name=(⟨#[110,98,102]⟩:BA))=true from deT n6];rfl
  rw [show decide (name=(⟨#[110,98,102]⟩:BA))=false from deF n6,cnF];by_cases n7:name=nIat
  ·rw [show decide (name=(⟨#[105,97,116]⟩:BA))=true from deT n7];rfl
  rw [show decide (name=(⟨#[105,97,116]⟩:BA))=false from deF n7];have key:qFw name more k c.iss c.hasIss c.sub c.hasSub c.hasAud c.jti c.hasJti c.exp_.has c.exp_.at_ c.nbf.has c.nbf.at_ c.iat.has c.iat.at_ l c.value c.aud=some true:=by
   by_cases hk:k=0
   ·subst hk;by_cases h7:(l.getD 0 (ET.dft .node)).kind=7
    ·obtain ⟨L,hO⟩:=obj_read hs h2 hok hT h7 fun d a b h=>oneS_tree hok d true a b h
     obtain ⟨nd,g1,g2,g3⟩:=qE9 hO hT (by omega);have hLl:=places_le g3;have hw:=w_parse_obj e1 h7 hO (fun n hn=>(hz n hn).2.2.2.2) (by omega);rw [h1] at hw;cases hall:allO l L with
     | false =>
      rw [hall,if_neg (by decide)] at hw;cases hw
     | true =>
      rw [hall,if_pos rfl] at hw;cases hw;exact pw1_is hO hT (by omega) hz hsn hsm ⟨n1,n2,n3,n4,n5,n6,n7⟩ hall _ rfl h3 h4
    ·obtain ⟨k',e2,e3⟩:=w_parse_no e1 hlt h7;rw [h1] at e2;cases e2;exact (e3 rfl).elim
   ·unfold qFw;rw [deF hk,Bool.not_false,cnT]
  show ((qFw name more k c.iss c.hasIss c.sub c.hasSub c.hasAud c.jti c.hasJti c.exp_.has c.exp_.at_ c.nbf.has c.nbf.at_ c.iat.has c.iat.at_ l c.value c.aud).bind fun o26=>some o26)=some true;rw [key];rfl
 ·obtain ⟨x,hx⟩:=w_parse_bad e1 hc;rw [hx,obS,p_Parse,obS,e1];dsimp only;rw [deF hc,Bool.not_false,cnT,deT rfl]
end Go.Proofs.YticplgndjpljiaaDoor
namespace Go.Eng
open Go.RowKit
set_option linter.unusedVariables false
structure LowB (w w':World):Prop where
 os:w'.os=w.os
 output:w'.output=w.output
 size:w.heap.size≤w'.heap.size
 block:∀k,k<w.heap.size→w'.heap[k]?=w.heap[k]?
theorem lowB_of_stays {w w':World} (h:Stays (fun _=>False) w w'):LowB w w':=⟨h.os,h.output,h.size,fun k hk=>h.block k hk id⟩
theorem LowB.frame {W w':World} (h:LowB W w') (may:MemPlace→Prop):W.keptBut w' may:=by
 refine ⟨h.os,h.output,fun i hi=>?_⟩;rw [h.block i hi];split <;> simp_all
theorem LowB.same {W w':World} (h:LowB W w') {p:MemPlace} (hp:p.block<W.heap.size):W.sameAt w' p:=by
 cases p with
 | cell b o=>exact World.cell?_of_block (w:=W) (h.block b hp)
 | map b=>exact h.block b hp
theorem LowB.trod {H:Type} {enc:TypeId × Value→H} {P:Program} {t:TypeId} (hl:laidOutB P=true) (hr:P.readableRec t=true) (hrow:t<P.types.size) {W W':World} {v:Value} {d:DataW H} {ps:List MemPlace}
  (h:DataW.Trod enc P W 0 (fun _=>true) true t v d ps) (hb:LowB W W') (hlt:∀x∈ps,x.block<W.heap.size) :
  DataW.Trod enc P W' 0 (fun b=>decide (b<W.heap.size)) true t v d ps :=
 WideElems.Trod_stays hl hr hrow h (fun x hx=>hb.same (hlt x hx)) (fun x hx=>by simpa using hlt x hx)
theorem callS {P:Program} {f:Nat} {C:CS} (h:qAn P f C) {args:List SV} {v:SV} (hc:C args [] (SV × List SB) (fun v hp'=>some (v,hp'))=some (v,[])) (hs:args.all SV.shut=true) (hv:v.shut=true) (w:World) (ht:tabOK noX w) (vs:List Value) (hvs:args.map (SV.den fun _=>undef)=vs) :
  Calls P f vs.toArray w fun e w'=>e=.returned (v.den fun _=>undef)∧LowB w w':=by
 have:=h.2 args [] v [] hc (fun v hv=>SV.shut_lt (List.all_eq_true.1 hs v hv) _) noX w (fun _=>undef) (HpSat.nil _ _ ht _);rw [hvs] at this;exact this.mono fun e w' ⟨ρ',_,_,a,_,_,b⟩=>⟨by rw [a,SV.shut_den hv ρ' fun _=>undef],lowB_of_stays b⟩
end Go.Eng
namespace Go.Proofs
open Go.Shelf
shelf_lay Lays.n260 Nm 260 at Tryd as Tryd.laysSlow
end Go.Proofs
namespace Go.Proofs.YticplgndjpljiaaDoor
open Go.Eng Go.Shelf
set_option linter.unusedVariables false
theorem first_data:(Rows.laid_unicode_utf8_first:DataW Unit)=Lib.firstData:=by kernel_rfl
theorem accept_data:(Rows.laid_unicode_utf8_acceptRanges:DataW Unit)=Lib.acceptData:=by kernel_rfl
theorem utf8_tabs {W:World} (h3:Lib.VarReads Tryd.prog W "unicode/utf8.first" Rows.laid_unicode_utf8_first) (h4:Lib.VarReads Tryd.prog W "unicode/utf8.acceptRanges" Rows.laid_unicode_utf8_acceptRanges):tabOK noX W:=by
 rw [first_data] at h3;rw [accept_data] at h4;exact ⟨utf8Tabs_of_reads Tryd.laysSlow ⟨by kernel_rfl,by kernel_rfl,by kernel_rfl,by kernel_rfl,by kernel_rfl,by kernel_rfl,by kernel_rfl⟩ h3 h4,fun h=>h,fun h=>h⟩
end Go.Proofs.YticplgndjpljiaaDoor
namespace Go.Proofs.YticplgndjpljiaaDoor
open Go.Eng
set_option linter.unusedVariables false
set_option linter.unusedSimpArgs false
theorem claimsWritten_tabs {W:World} (h:laidMetH Tryd.prog Rows.claimsWrittenUptoRow.laid W):tabOK noX W:=by
 have h':laidMet Tryd.prog Rows.claimsWrittenUptoRow.laid W:=h;exact utf8_tabs (Lib.laidMet.reads h' (List.mem_cons_of_mem _ List.mem_cons_self)) (Lib.laidMet.reads h' List.mem_cons_self)
theorem claimsWritten_walk (s0 s1 s2:BA) (W:World) (h0:s0.size≤1048576) (h1:s1.size≤1048576) (h2:s2.size≤1048576) (hT:tabOK noX W):Calls Tryd.prog 12 #[.string s0,.string s1,.string s2] W fun e w'=>e=.returned (.bool true)∧LowB W w':=by
 refine callS zbs_val (args:=[.c (.o (.val (.string s0))),.c (.o (.val (.string s1))),.c (.o (.val (.string s2)))]) (v:=.c (.o (.val (.bool true)))) ?_ rfl rfl W hT [.string s0,.string s1,.string s2] rfl;show ((zbs_s s0 s1 s2).bind fun r=>some ((.c (.o (.val (.bool r))),[]):SV × List SB))=_;rw [claimsWritten_plain s0 s1 s2 h1 h2];rfl
end Go.Proofs.YticplgndjpljiaaDoor
