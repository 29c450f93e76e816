/-
  signet/keyset.Of: its word (the names lie in a package variable).
-/
import Derived.WalkKit
import Derived.BigQuiet
import Derived.Test.YticplgndjpljiaaDoorPTreeS
import Derived.Test.YticplgndjpljiaaDoorEngO
import Derived.Test.YticplgndjpljiaaDoorJS
import Derived.Test.YticplgndjpljiaaDoorProg
namespace Go.Proofs.YticplgndjpljiaaDoor
open Go.Eng
set_option linter.unusedVariables false
set_option linter.unusedSimpArgs false
def Uniq (l:List Eng.Node):List Nat→Prop
 | []=>True
 | p::r=>(∀q∈r,qCe l q≠qCe l p)∧Uniq l r
theorem kidsS_uniq {v:List Eng.Node} {d:Nat}:∀(k a:Nat) (names:List BA) (e:Nat) (L:List Nat),qFv v (oneS v d true) true k a names=some e→qC5 v k a L e→(∀a b,oneS v d true a=some b→Tree v a b)→(∀p∈L,¬qCe v p∈names)∧Uniq v L
 | 0,a,names,e,L,h,hL,ht=>by
  obtain ⟨rfl,_⟩:=hL;exact ⟨fun p hp=>(by cases hp),tV⟩
 | k+1,a,names,e,L,h,hL,ht=>by
  obtain ⟨b,r,rfl,g1,g2⟩:=hL;unfold qFv at h;cases ho:oneS v d true a with
  | none=>rw [ho] at h; cases h
  | some b' =>
   rw [ho] at h;dsimp only at h;have:=Trees.det (ht _ _ ho) g1;subst this;split at h
   ·cases h
   ·rename_i hn;have hn:¬qCe v a∈names:=fun hm=>hn ⟨rfl,hm⟩
    obtain ⟨i1,i2⟩:=kidsS_uniq k b' (names++[qCe v a]) e r h g2 ht;refine ⟨fun p hp=>?_,fun q hq he=>?_,i2⟩
    ·rcases List.mem_cons.1 hp with rfl | hp
     ·exact hn
     ·exact fun hm=>i1 p hp (List.mem_append_left _ hm)
    ·exact i1 q hq (by rw [he]; exact List.mem_append_right _ List.mem_cons_self)
theorem findK_app {l:List Eng.Node} (key:BA):∀(L M:List Nat),qA7 l key (L++M)=match qA7 l key L with | some p=>some p | none=>qA7 l key M
 | [],M=>rfl
 | p::r,M=>by
  show (if (l.getD p (ET.dft .node)).key=key then some p else qA7 l key (r++M))=match (if (l.getD p (ET.dft .node)).key=key then some p else qA7 l key r) with | some p=>some p | none=>qA7 l key M
  by_cases h:(l.getD p (ET.dft .node)).key=key
  ·rw [if_pos h,if_pos h]
  ·rw [if_neg h,if_neg h,findK_app key r M]
theorem findK_none {l:List Eng.Node} {key:BA}:∀ {L:List Nat},(∀q∈L,qCe l q≠key)→qA7 l key L=none
 | [],h=>rfl
 | q::r,h=>by
  unfold qA7;rw [if_neg (show ¬(l.getD q (ET.dft .node)).key=key from h q List.mem_cons_self)];exact findK_none fun p hp=>h p (List.mem_cons_of_mem _ hp)
theorem Uniq.before {l:List Eng.Node}:∀ {L:List Nat} {p:Nat} {M:List Nat},Uniq l (L++p::M)→∀q∈L,qCe l q≠qCe l p
 | [],p,M,h,q,hq=>by cases hq
 | x::L,p,M,h,q,hq=>by
  rcases List.mem_cons.1 hq with rfl | hq
  ·exact fun he=>h.1 p (List.mem_append_right _ List.mem_cons_self) he.symm
  ·exact Uniq.before h.2 q hq
structure Obj (l:List Eng.Node) (L:List Nat):Prop where
 ok:OkL l
 kids:zao_s l 0=some (upN L)
 rkids:qDf l 0=some (upN L)
 tree:∀p∈L,∃e,Tree l p e
 uniq:Uniq l L
 mem:∀key,json_Member_s l 0 key=some (memI (qA7 l key L))∧qDt l 0 key=some (memI (qA7 l key L))
 kind:(l.getD 0 (ET.dft .node)).kind=7
 ne:0<l.length
 len:L.length≤l.length
 cnt:(l.getD 0 (ET.dft .node)).kids=(L.length:Int)
theorem places_tree {v:List Eng.Node}:∀ {k a e:Nat} {L:List Nat},qC5 v k a L e→∀p∈L,∃e',Tree v p e'
 | 0,a,e,L,h,p,hp=>by rw [h.1] at hp; cases hp
 | k+1,a,e,L,h,p,hp=>by
  obtain ⟨b,r,rfl,g1,g2⟩:=h;rcases List.mem_cons.1 hp with rfl | hp
  ·exact ⟨b,g1⟩
  ·exact places_tree g2 p hp
theorem obj_read {t:BA} {l:List Eng.Node} (hs:t.size≤262144) (hr:readR t=.ok t.size l) (hok:OkL l) (ht:Tree l 0 l.length) (h7:(l.getD 0 (ET.dft .node)).kind=7) (hone:∀d a b,oneS l d true a=some b→Tree l a b):∃L,Obj l L:=by
 obtain ⟨nd,h1,h2,h3⟩:=ht.node;obtain ⟨L,hL⟩:=h3.places;have hlt:=(List.getElem?_eq_some_iff.1 h1).1;have hnd:l.getD 0 (ET.dft .node)=nd:=by rw [List.getD_eq_getElem?_getD,h1]; rfl
 have h7':nd.kind=7:=by rw [←hnd]; exact h7
 have hsh:=readR_shape hs hr;unfold oneS at hsh;rw [h1] at hsh;dsimp only at hsh;have hLn:=hL.len;have hle:=h3.le;refine ⟨L,hok,?_,?_,places_tree hL,?_,fun key=>?_,h7,hlt,by omega,by rw [hnd]; omega⟩
 ·have:=j_kids hok.1 h1 h2 h3 hL;rwa [show ((0:Nat):Int)=0 from rfl] at this
 ·have:=r_kids hok.1 h1 h2 h3 hL;rwa [show ((0:Nat):Int)=0 from rfl] at this
 ·split at hsh
  ·rw [deT h7'] at hsh;exact (kidsS_uniq _ _ _ _ _ hsh hL fun a b h=>hone _ a b h).2
  ·cases hsh
 ·have:=member_find hok.1 h1 h2 h3 hL key;rw [if_pos h7',show ((0:Nat):Int)=0 from rfl] at this;exact this
theorem upN_at (pre post:List Nat) (p:Nat):(upN (pre++p::post)).getD pre.length (ET.dft .i64)=(p:Int):=by
 unfold upN;rw [List.getD_eq_getElem?_getD,List.getElem?_map,List.getElem?_append_right (Nat.le_refl _),Nat.sub_self];rfl
theorem find_hit {l:List Eng.Node} {key:BA} {L:List Nat} {p:Nat} (hn:∀q∈L,qCe l q≠qCe l p) (hk:qCe l p=key):qA7 l key L=none∧qA7 l key (L++[p])=some p:=by
 have h1:qA7 l key L=none:=findK_none fun q hq he=>hn q hq (by rw [he,hk])
 refine ⟨h1,?_⟩;rw [findK_app,h1];show (if qCe l p=key then some p else none)=some p;rw [if_pos hk]
theorem qHk {l:List Eng.Node} {key:BA} (L:List Nat) {p:Nat} (hk:¬qCe l p=key):qA7 l key (L++[p])=qA7 l key L:=by
 rw [findK_app];cases qA7 l key L with
 | some q=>rfl
 | none =>
  show (if qCe l p=key then some p else none)=none;rw [if_neg hk]
theorem Obj.lt {l:List Eng.Node} {L:List Nat} (h:Obj l L) {p:Nat} (hp:p∈L):p<l.length:=by
 obtain ⟨e,he⟩:=h.tree p hp;have:=he.le;omega
open Go.RowKit Go.Eng
theorem keyName_run (a:Int) (w:World) (ha:a≤9223372036854775807) (ht:∀k,k<13→w.cell? ⟨0,k,none⟩=some (.string (qE1 k))) :
  Calls Tryd.prog 18 #[.int .i64 a] w fun e w'=>e=.returned (.string (algS a))∧w=w':=by
 by_cases h0:a<0
 ·have Hn:HidF (algS a=⟨#[]⟩):=⟨by unfold algS; rw [if_pos (.inl h0)]⟩;clear ht;go_enter Tryd.func18,Tryd.ntmps18
  go_wp2
  go_ret
  exact ⟨by rw [Hn.out]; rfl,rfl⟩
 ·by_cases h1:13≤a
  ·have Hn:HidF (algS a=⟨#[]⟩):=⟨by unfold algS; rw [if_pos (.inr h1)]⟩;clear ht;go_enter Tryd.func18,Tryd.ntmps18
   go_wp2
   go_ret
   exact ⟨by rw [Hn.out]; rfl,rfl⟩
  ·obtain ⟨k,rfl⟩:=Int.eq_ofNat_of_zero_le (Int.not_lt.1 h0);have Hn:HidF (algS k=qE1 k):=⟨by unfold algS; rw [if_neg (by omega)]; rfl⟩;have hc:=ht k (by omega);clear ht;go_enter Tryd.func18,Tryd.ntmps18
   go_wp2
   go_ret
   exact ⟨by rw [Hn.out]; rfl,rfl⟩
def keyName_da:=(qAb (dVC (dCO (dI .i64))) dNil)
def keyName_db:=(dNil:Dec Unit (List SB))
noncomputable def qA4 (a:Int):Option BA:=gd (a≤9223372036854775807) (some (algS a))
noncomputable def keyset_Name_c:CS:=fun args hp R k=>(Dec.d keyName_da args).bind fun x=>(Dec.d keyName_db hp).bind fun y=>(qA4 x.1).bind fun r=>k (.c (.o (.val (.string r)))) []
theorem keyset_Name_val:qAm Tryd.prog 18 keyset_Name_c:=by
 refine ⟨fun args hp R k=>qHi (A:=keyName_da) (B:=keyName_db) (fun x=>qA4 x.1) (fun r=>.c (.o (.val (.string r)))) args hp R k,fun args hp v hp' hC hlt X w ρ hhp=>?_⟩;obtain ⟨x,h1,h2⟩:=Option.bind_eq_some_iff.1 hC;obtain ⟨y,h3,h4⟩:=Option.bind_eq_some_iff.1 h2;obtain ⟨r,h5,h6⟩:=Option.bind_eq_some_iff.1 h4;obtain ⟨hi,h7⟩:=gd_some.1 h5;rw [Dec.ok _ _ _ h1];have hhp':=Dec.ok _ _ _ h3;obtain ⟨s,u⟩:=x;simp only [snJ,Prod.mk.injEq] at h6 h7;obtain ⟨rfl,rfl⟩:=h6;simp only at hi;subst h7;rw [hhp'] at hhp ⊢;refine (keyName_run s w hi hhp.tab.2.1).mono ?_;rintro e w' ⟨rfl,rfl⟩
 obtain ⟨g1,g2⟩:=hhp.past ⟨rfl,rfl,Nat.le_refl _,fun k _ _=>rfl⟩ ⟨rfl,rfl,Nat.le_refl _,fun k _ _=>rfl⟩;exact ⟨ρ,fun _ _=>rfl,Nat.le_refl _,rfl,trivial,g1,g2⟩
noncomputable def qFu:CQ:=qDz [] keyset_Name_c
theorem qHa:qAf Tryd.prog 18 qFu:=qAt keyset_Name_val
theorem run_index_alg {P:Program} {T E:TypeId} {len:Nat} {cs:Array Value} {v:Value} {k:Nat} (hT:P.underlying T=some (.array len E)) (hE:(P.info? E).map (fun i=>i.size)=some 1)
  (hagg:∀w,(isAgg E).run P w=.ok false w) (hk:k<len) (hv:cs[k]?=some v) (w:World) :
  (Instr.index T (.agg cs) (.int .i64 (k:Int))).run P w=.ok v w:=by
 obtain ⟨i,hi,hs⟩:=Option.map_eq_some_iff.1 hE;simp [Instr.index,asIntOf,run_underlying hT,sizeOf,typeInfo,hi,hs,part,hagg,hk,hv]
def kEq (a b:BA):Bool:=decide (a=b)
theorem kEq_iff {a b:BA}:kEq a b=true↔a=b:=by simp [kEq]
theorem kEq_not {a b:BA}:kEq a b=false↔a≠b:=by simp [kEq]
theorem toList_kEq (a b:BA):(a.toList == b.toList)=kEq a b:=by
 rw [Bool.eq_iff_iff,beq_iff_eq,kEq_iff];refine ⟨fun h=>?_,fun h=>by rw [h]⟩;rw [ByteArray.toList_eq,ByteArray.toList_eq] at h;exact ByteArray.ext (Array.toList_inj.1 h)
def algArr:Array Value := #[.string (qE1 0),.string (qE1 1),.string (qE1 2),.string (qE1 3),.string (qE1 4),.string (qE1 5),.string (qE1 6),.string (qE1 7),.string (qE1 8),.string (qE1 9),.string (qE1 10),.string (qE1 11),.string (qE1 12)]
theorem algArr_at (k:Nat) (h:k<13):algArr[k]?=some (.string (qE1 k)):=by
 match k,h with
 | 0,_ | 1,_ | 2,_ | 3,_ | 4,_ | 5,_ | 6,_ | 7,_ | 8,_ | 9,_ | 10,_ | 11,_ | 12,_=>rfl
theorem algOf_at {s:BA} {k:Nat} (h:qFi s=qC6 s (13 - k) k) (hk:k<13) (hs:kEq (qE1 k) s=true):qFi s=k:=by
 rw [h,show 13 - k=(12 - k)+1 by omega,qC6,if_pos (kEq_iff.1 hs)]
theorem algOf_next {s:BA} {k:Nat} (h:qFi s=qC6 s (13 - k) k) (hk:k<13) (hs:kEq (qE1 k) s=false):qFi s=qC6 s (13 - (k+1)) (k+1):=by
 rw [h,show 13 - k=(13 - (k+1))+1 by omega,qC6,if_neg (kEq_not.1 hs)]
theorem algOf_none {s:BA} {k:Nat} (h:qFi s=qC6 s (13 - k) k) (hk:13≤k):qFi s=0:=by
 rw [h,show 13 - k=0 by omega,qC6]
theorem returned_num {k:IntKind} {a b:Int} (h:a=b):Ending.returned (.int k a)=.returned (.int k b):=by rw [h]
theorem wpList_load_cells {P:Program} {ops:Array Oper} {rest:List Oper} {o:Oper} {a:Act} {w:World} {Q:Exit→Act→World→Prop} (hgd:o.guard=none) (ty:TypeId) (x:Operand) (ho:o.op=.load ty x)
  (ad:Addr) (hx:a.eval x=.pointer (some ad)) {n:Nat} (hc:qD3 P ty=some (some n)) {cs:List Value} (hn:cs.length=n) (hcs:∀j v,cs[j]?=some v→w.cell? (ad.add j)=some v)
  (h:wpList P ops Q rest (a.put o.dst (.agg cs.toArray)) w):wpList P ops Q (o::rest) a w :=
 wpList_plain hgd fun _ hK=>by
  have:(execOp a.eval o).run P w=.ok (.value (.agg cs.toArray)) w:=by
   unfold execOp;simp [ho,Instr.loadAt,hx,Instr.sureAddr,qFh hc hn hcs]
  unfold Oper.wp;rw [this];exact hK _ _ h
theorem alg_cells {w:World} (ht:∀k,k<13→w.cell? ⟨0,k,none⟩=some (.string (qE1 k))):∀j v,algArr.toList[j]?=some v→w.cell? ((⟨0,0,none⟩:Addr).add j)=some v:=by
 intro j v hj;rw [qDi];have hlt:j<13:=by
  have:=(List.getElem?_eq_some_iff.1 hj).1;simpa [algArr] using this
 rw [Array.getElem?_toList,algArr_at j hlt] at hj;cases hj;exact ht j hlt
attribute [local go_sem] toList_kEq
set_option maxRecDepth 100000 in
set_option maxHeartbeats 400000 in
theorem keyOf_run (s:BA) (w:World) (ht:∀k,k<13→w.cell? ⟨0,k,none⟩=some (.string (qE1 k))) :
  Calls Tryd.prog 22 #[.string s] w fun e w'=>e=.returned (.int .i64 (qFi s))∧w=w':=by
 have hix:=fun (k:Nat) (hk:k<13)=>run_index_alg (P:=Tryd.prog) (cs:=algArr) Tryd.underlying91 (by kernel_rfl) (fun w=>by kernel_rfl) hk (algArr_at k hk)
 have hcc:=alg_cells ht;clear ht;go_enter Tryd.func22,Tryd.ntmps22
 go_wp2_with (refine wpList_load_cells rfl 91 _ rfl ⟨0,0,none⟩ rfl (n:=13) (by kernel_rfl) (cs:=algArr.toList) rfl hcc ?_)
 go_loop [3,4,6] (fun _ _ i=>∃k:Nat,k≤13∧i=.int .i64 k∧HidF (0<k→qFi s=qC6 s (13 - k) k)) (fun _ _ i=>13 - (intOf i).toNat)
 case atStart=>exact ⟨0,by omega,rfl,⟨fun h=>absurd h (by omega)⟩⟩
 case round =>
  obtain ⟨k,hk,rfl,hh⟩:=hrel;by_cases hk3:k<13
  ·have hik:=hix k hk3;clear hix hcc;by_cases hk0:0<k
   ·cases hs:kEq (qE1 k) s
    ·have Hn:HidF (qFi s=qC6 s (13 - (k+1)) (k+1)):=⟨algOf_next (hh.out hk0) hk3 hs⟩;go_wp2
     go_round
     case rel=>exact ⟨k+1,by omega,by go_num,⟨fun _=>Hn.out⟩⟩
     case measure=>simp [intOf]; omega
    ·have Hn:HidF (qFi s=k):=⟨algOf_at (hh.out hk0) hk3 hs⟩;go_wp2
     go_ret
     exact ⟨returned_num (by rw [Hn.out]),rfl⟩
   ·go_wp2
    go_round
    case rel=>exact ⟨k+1,by omega,by go_num,⟨fun _=>by rw [show k=0 by omega]; rfl⟩⟩
    case measure=>simp [intOf]; omega
  ·have Hn:HidF (qFi s=0):=⟨algOf_none (hh.out (by omega)) (by omega)⟩;clear hix hcc;go_wp2
   go_ret
   exact ⟨returned_num (by rw [Hn.out]; rfl),rfl⟩
def keyOf_da:=(qAb (dVC (dCO dS)) dNil)
noncomputable def keyset_Of_s (s:BA):Option Int:=some (qFi s)
noncomputable def keyset_Of_c:CS:=fun args hp R k=>(Dec.d keyOf_da args).bind fun x=>(Dec.d keyName_db hp).bind fun y=>(keyset_Of_s x.1).bind fun r=>k (.c (.o (.val (.int .i64 r)))) []
theorem keyset_Of_val:qAm Tryd.prog 22 keyset_Of_c:=by
 refine ⟨fun args hp R k=>qHi (A:=keyOf_da) (B:=keyName_db) (fun x=>keyset_Of_s x.1) (fun r=>.c (.o (.val (.int .i64 r)))) args hp R k,fun args hp v hp' hC hlt X w ρ hhp=>?_⟩;obtain ⟨x,h1,h2⟩:=Option.bind_eq_some_iff.1 hC;obtain ⟨y,h3,h4⟩:=Option.bind_eq_some_iff.1 h2;obtain ⟨r,h5,h6⟩:=Option.bind_eq_some_iff.1 h4;rw [Dec.ok _ _ _ h1];have hhp':=Dec.ok _ _ _ h3;obtain ⟨s,u⟩:=x;simp only [keyset_Of_s,snJ,Prod.mk.injEq] at h6 h5;obtain ⟨rfl,rfl⟩:=h6;subst h5;rw [hhp'] at hhp ⊢;refine (keyOf_run s w hhp.tab.2.1).mono ?_;rintro e w' ⟨rfl,rfl⟩
 obtain ⟨g1,g2⟩:=hhp.past ⟨rfl,rfl,Nat.le_refl _,fun k _ _=>rfl⟩ ⟨rfl,rfl,Nat.le_refl _,fun k _ _=>rfl⟩;exact ⟨ρ,fun _ _=>rfl,Nat.le_refl _,rfl,trivial,g1,g2⟩
noncomputable def keyset_Of_w:CQ:=qDz [] keyset_Of_c
theorem keyset_Of_ok:qAf Tryd.prog 22 keyset_Of_w:=qAt keyset_Of_val
end Go.Proofs.YticplgndjpljiaaDoor
