/-
  HeaderBack: its call returns true.
-/
import Derived.Below
import Derived.Carry
import Derived.ProofKit
import Derived.Deep.Slices
import Derived.Deep.Fields
import Derived.ChangeSame
import Derived.SliceStrings
import Derived.SizedLaws
import Derived.Lib.LaidU8
import Derived.Shelf.Lay
import Derived.Ground.NamesProg
import Derived.Test.YticplgndjpljiaaDoorPHeadC
import Derived.Test.YticplgndjpljiaaDoorEngN
import Derived.Test.YticplgndjpljiaaDoorRows
import Derived.Test.YticplgndjpljiaaDoorEngO
import Derived.Test.YticplgndjpljiaaDoorProg
namespace Go.Proofs.YticplgndjpljiaaDoor
open Go.Eng
set_option linter.unusedVariables false
set_option linter.unusedSimpArgs false
def strN (k v:BA):Eng.Node:=⟨5,k,v,false,0,0⟩
def itemF (v:List Eng.Node) (p:Nat):Nat:=(quoL (qA0 v p)).length+(quoL (v.getD p (ET.dft .node)).text).length+2
theorem prOne_leaf {v:List Eng.Node} {a:Nat} (d:Nat) (h:(v.getD a (ET.dft .node)).kind=5):qAp v (d+1) a=quoL (v.getD a (ET.dft .node)).text:=by
 unfold qAp;rw [if_pos (by omega)];unfold qF1;rw [if_neg (by omega),if_neg (by omega),if_neg (by omega),if_neg (by omega)]
theorem kids_items {v:List Eng.Node} (hv:OkL v) (d:Nat):∀(k a:Nat) (first:Bool) (names:List BA) (e e':Nat) (L:List Nat),qCu v (oneS v (d+1) true) true k a names=some e→qCp v k a L e'→(∀p∈L,(v.getD p (ET.dft .node)).kind=5) →
  (qBa v (oneS v (d+1) true) (qAp v (d+1)) true k a first).length+(if first=true∧0<k then 1 else 0)=(L.map (itemF v)).sum∧∀p∈L,okB true (v.getD p (ET.dft .node))=true
 | 0,a,first,names,e,e',L,h,hL,h5=>by
  obtain ⟨rfl,_⟩:=hL;rw [if_neg (fun h=>by omega)];exact ⟨rfl,fun p hp=>by cases hp⟩
 | k+1,a,first,names,e,e',L,h,hL,h5=>by
  obtain ⟨b,r,rfl,g1,g2⟩:=hL;unfold qCu at h;cases ho:oneS v (d+1) true a with
  | none=>rw [ho] at h; cases h
  | some b' =>
   rw [ho] at h;dsimp only at h;have:=Trees.det (oneS_tree hv _ _ _ _ ho) g1;subst this;split at h
   ·cases h
   ·obtain ⟨n,h1,h2,h3,h4,hok,_⟩:=qF3 hv ho;have ka:=h5 a List.mem_cons_self;obtain ⟨i1,i2⟩:=kids_items hv d k b' false _ e e' r h g2 fun p hp=>h5 p (List.mem_cons_of_mem _ hp)
    rw [if_neg (fun h=>by cases h.1)] at i1;refine ⟨?_,fun p hp=>?_⟩
    ·unfold qBa;rw [ho,prOne_leaf d ka];simp only [List.length_append,Option.getD_some,List.map_cons,List.sum_cons];unfold qF6 keyL;rw [if_pos rfl];unfold itemF at i1 ⊢;cases first
     ·rw [if_neg (by decide),if_neg (fun h=>by cases h.1)];simp only [List.length_append,List.length_singleton];omega
     ·rw [if_pos rfl,if_pos ⟨rfl,by omega⟩];simp only [List.length_append,List.length_singleton,List.length_nil];omega
    ·rcases List.mem_cons.1 hp with rfl | hp
     ·rw [h4]; exact hok
     ·exact i2 p hp
theorem obj_items {v:List Eng.Node} (hv:OkL v) (hs:oneS v 32 false 0=some v.length) {nd:Eng.Node} (h0:v[0]?=some nd) (h7:nd.kind=7) {L:List Nat} {e:Nat} (hpl:qCp v nd.kids.toNat 1 L e) (h5:∀p∈L,(v.getD p (ET.dft .node)).kind=5) (hL:0<nd.kids.toNat) :
  (qAp v 32 0).length=1+(L.map (itemF v)).sum∧∀p∈L,okB true (v.getD p (ET.dft .node))=true:=by
 have hnd:v.getD 0 (ET.dft .node)=nd:=nd_get h0;have hsh:=hs;unfold oneS at hsh;rw [h0] at hsh;dsimp only at hsh;rw [deT h7] at hsh;split at hsh
 ·obtain ⟨i1,i2⟩:=kids_items hv 30 nd.kids.toNat 1 true [] v.length e L hsh hpl h5;refine ⟨?_,i2⟩;rw [if_pos ⟨rfl,hL⟩] at i1;have hp:qAp v 32 0=(if (v.getD 0 (ET.dft .node)).kind<6 then qF1 (v.getD 0 (ET.dft .node)) else (if (v.getD 0 (ET.dft .node)).kind=7 then 123 else 91)::(qBa v (oneS v 31 (decide ((v.getD 0 (ET.dft .node)).kind=7))) (qAp v 31) (decide ((v.getD 0 (ET.dft .node)).kind=7)) (v.getD 0 (ET.dft .node)).kids.toNat (0+1) true++[if (v.getD 0 (ET.dft .node)).kind=7 then 125 else 93])):=rfl;have i3:(qBa v (oneS v 31 true) (qAp v 31) true nd.kids.toNat (0+1) true).length+1=(L.map (itemF v)).sum:=i1;rw [hp,hnd,if_neg (by omega),deT h7];simp only [List.length_cons,List.length_append,List.length_nil];omega
 ·cases hsh
theorem pB_text (k:BA) {s:BA} (hs:s.size≤3000000):pB (strN k s)=Lib.validD s.data.toList:=by
 rw [pB_C (n:=strN k s) hs];unfold pC strN;simp
theorem leaf_ok {v:List Eng.Node} {d a:Nat} {k s:BA} (h:v[a]?=some (strN k s)) (hs:s.size≤3000000) (hk:Lib.validD k.data.toList=true) (ht:Lib.validD s.data.toList=true):oneS v (d+1) true a=some (a+1):=by
 unfold oneS;rw [h];dsimp only;rw [if_pos (by unfold okB; rw [pB_text k hs,ht,show (strN k s).key=k from rfl,hk]; rfl)];rfl
def ndsH (al kid typ:BA) (has:Bool):List Eng.Node:=bif has then [⟨7,⟨#[]⟩,⟨#[]⟩,false,0,3⟩,strN hAlg al,strN hKid kid,strN hTyp typ] else [⟨7,⟨#[]⟩,⟨#[]⟩,false,0,2⟩,strN hAlg al,strN hKid kid]
theorem okN_root {k:Int} (hk:qAe k):OkN (⟨7,⟨#[]⟩,⟨#[]⟩,false,0,k⟩:Eng.Node):=⟨Nat.zero_le _,Nat.zero_le _,hk⟩
theorem okN_str {k s:BA} (hk:k.size≤3000000) (hs:s.size≤3000000):OkN (strN k s):=⟨hk,hs,(show qAe 0 by unfold qAe; omega)⟩
theorem nds_ok {al kid typ:BA} {has:Bool} (ha:al.size≤3000000) (hk:kid.size≤3000000) (ht:typ.size≤3000000):OkL (ndsH al kid typ has):=by
 have z1:hAlg.size≤3000000:=by decide
 have z2:hKid.size≤3000000:=by decide
 have z3:hTyp.size≤3000000:=by decide
 cases has with
 | false =>
  refine ⟨by show 3≤_; omega,fun n hn=>?_⟩;simp only [ndsH,cnF,List.mem_cons,List.not_mem_nil,or_false] at hn;rcases hn with rfl | rfl | rfl
  ·exact okN_root (by unfold qAe; omega)
  ·exact okN_str z1 ha
  ·exact okN_str z2 hk
 | true =>
  refine ⟨by show 4≤_; omega,fun n hn=>?_⟩;simp only [ndsH,cnT,List.mem_cons,List.not_mem_nil,or_false] at hn;rcases hn with rfl | rfl | rfl | rfl
  ·exact okN_root (by unfold qAe; omega)
  ·exact okN_str z1 ha
  ·exact okN_str z2 hk
  ·exact okN_str z3 ht
theorem pB_root {k:Int} (hk:0≤k):pB (⟨7,⟨#[]⟩,⟨#[]⟩,false,0,k⟩:Eng.Node)=true:=by
 rw [pB_C (by show 0≤_; omega)];unfold pC;simp [hk]
theorem nds_shape {al kid typ:BA} {has:Bool} (ha:al.size≤3000000) (hk:kid.size≤3000000) (ht:typ.size≤3000000) (va:Lib.validD al.data.toList=true) (vk:Lib.validD kid.data.toList=true) (vt:has=true→Lib.validD typ.data.toList=true) :
  oneS (ndsH al kid typ has) 32 false 0=some (ndsH al kid typ has).length:=by
 have q1:Lib.validD hAlg.data.toList=true:=by decide +kernel
 have q2:Lib.validD hKid.data.toList=true:=by decide +kernel
 have q3:Lib.validD hTyp.data.toList=true:=by decide +kernel
 have n1:¬hKid=hAlg:=fun h=>ne_AK h.symm
 have n2:¬hTyp=hAlg:=fun h=>ne_AT h.symm
 have n3:¬hTyp=hKid:=fun h=>ne_KT h.symm
 have e0:Lib.validD (ByteArray.mk #[]).data.toList=true:=Lib.validD_nil;cases has with
 | false =>
  generalize hv:ndsH al kid typ false=v
  have g0:v[0]?=some ⟨7,⟨#[]⟩,⟨#[]⟩,false,0,2⟩:=by rw [←hv]; rfl
  have g1:v[1]?=some (strN hAlg al):=by rw [←hv]; rfl
  have g2:v[2]?=some (strN hKid kid):=by rw [←hv]; rfl
  have k1:qA0 v 1=hAlg:=by rw [←hv]; rfl
  have k2:qA0 v 2=hKid:=by rw [←hv]; rfl
  have o1:oneS v 31 true 1=some 2:=leaf_ok (d:=30) g1 ha q1 va;have o2:oneS v 31 true 2=some 3:=leaf_ok (d:=30) g2 hk q2 vk;have hl:v.length=3:=by rw [←hv]; rfl
  unfold oneS;rw [g0,hl];dsimp only;rw [if_pos (by unfold okB; rw [pB_root (by omega),e0]; rfl)];show qCu v (oneS v 31 true) true 2 1 []=some 3;unfold qCu;rw [o1];dsimp only;rw [if_neg (fun h=>by cases h.2),k1];unfold qCu;rw [o2];dsimp only;rw [if_neg (fun h=>by rw [k2] at h; simp [n1] at h)];rfl
 | true =>
  generalize hv:ndsH al kid typ true=v
  have g0:v[0]?=some ⟨7,⟨#[]⟩,⟨#[]⟩,false,0,3⟩:=by rw [←hv]; rfl
  have g1:v[1]?=some (strN hAlg al):=by rw [←hv]; rfl
  have g2:v[2]?=some (strN hKid kid):=by rw [←hv]; rfl
  have g3:v[3]?=some (strN hTyp typ):=by rw [←hv]; rfl
  have k1:qA0 v 1=hAlg:=by rw [←hv]; rfl
  have k2:qA0 v 2=hKid:=by rw [←hv]; rfl
  have k3:qA0 v 3=hTyp:=by rw [←hv]; rfl
  have o1:oneS v 31 true 1=some 2:=leaf_ok (d:=30) g1 ha q1 va;have o2:oneS v 31 true 2=some 3:=leaf_ok (d:=30) g2 hk q2 vk;have o3:oneS v 31 true 3=some 4:=leaf_ok (d:=30) g3 ht q3 (vt rfl);have hl:v.length=4:=by rw [←hv]; rfl
  unfold oneS;rw [g0,hl];dsimp only;rw [if_pos (by unfold okB; rw [pB_root (by omega),e0]; rfl)];show qCu v (oneS v 31 true) true 3 1 []=some 4;unfold qCu;rw [o1];dsimp only;rw [if_neg (fun h=>by cases h.2),k1];unfold qCu;rw [o2];dsimp only;rw [if_neg (fun h=>by rw [k2] at h; simp [n1] at h),k2];unfold qCu;rw [o3];dsimp only;rw [if_neg (fun h=>by rw [k3] at h; simp [n2,n3] at h)];rfl
theorem algOf_S {a:Int} (h:algS a≠⟨#[]⟩):(qE3 (algS a):Int)=a∧qE3 (algS a)≠0∧Lib.validD (algS a).data.toList=true∧(algS a).size≤5:=by
 unfold algS at h ⊢;split at h
 ·exact (h rfl).elim
 ·rename_i hr;rw [if_neg hr];obtain ⟨n,rfl⟩:=Int.eq_ofNat_of_zero_le (show 0≤a by omega);have hn:n<13:=by omega
  rw [Int.toNat_natCast] at *
  match n,hn with
  | 0,_=>exact (h rfl).elim
  | 1,_ | 2,_ | 3,_ | 4,_ | 5,_ | 6,_ | 7,_ | 8,_ | 9,_ | 10,_ | 11,_ | 12,_=>exact ⟨by decide +kernel,by decide +kernel,by decide +kernel,by decide +kernel⟩
def backH (h:qIp):qIp:=⟨h.alg,h.kid,bif h.hasTyp then h.typ else ⟨#[]⟩,h.hasTyp⟩
theorem nds_places {al kid typ:BA} {has:Bool}:∃nd L,(ndsH al kid typ has)[0]?=some nd∧nd.kind=7∧qCp (ndsH al kid typ has) nd.kids.toNat 1 L (ndsH al kid typ has).length∧L=(bif has then [1,2,3] else [1,2])∧0<nd.kids.toNat∧∀p∈L,((ndsH al kid typ has).getD p (ET.dft .node)).kind=5:=by
 cases has with
 | false =>
  refine ⟨_,[1,2],rfl,rfl,⟨2,[2],rfl,qHo (a:=1) rfl rfl,3,[],rfl,qHo (a:=2) rfl rfl,rfl,rfl⟩,rfl,by decide,fun p hp=>?_⟩;simp only [List.mem_cons,List.not_mem_nil,or_false] at hp;rcases hp with rfl | rfl <;> rfl
 | true =>
  refine ⟨_,[1,2,3],rfl,rfl,⟨2,[2,3],rfl,qHo (a:=1) rfl rfl,3,[3],rfl,qHo (a:=2) rfl rfl,4,[],rfl,qHo (a:=3) rfl rfl,rfl,rfl⟩,rfl,by decide,fun p hp=>?_⟩;simp only [List.mem_cons,List.not_mem_nil,or_false] at hp;rcases hp with rfl | rfl | rfl <;> rfl
theorem nds_hdr {a:Int} {kid typ:BA} {has:Bool} (h:algS a≠⟨#[]⟩):hdrV (ndsH (algS a) kid typ has) (bif has then [1,2,3] else [1,2])=(⟨a,kid,bif has then typ else ⟨#[]⟩,has⟩,0):=by
 obtain ⟨h1,h2,_⟩:=algOf_S h;generalize algS a=s at *
 cases has with
 | false =>
  have ht:txtF (ndsH s kid typ false) (qAx (ndsH s kid typ false) hAlg [1,2])=s:=rfl;unfold hdrV;rw [show (bif false then [1,2,3] else [1,2])=[1,2] from rfl,if_pos ⟨rfl,rfl,rfl⟩,ht,if_neg h2,h1];rfl
 | true =>
  have ht:txtF (ndsH s kid typ true) (qAx (ndsH s kid typ true) hAlg [1,2,3])=s:=rfl;unfold hdrV;rw [show (bif true then [1,2,3] else [1,2])=[1,2,3] from rfl,if_pos ⟨rfl,rfl,rfl⟩,ht,if_neg h2,h1];rfl
noncomputable def qEf (h:qIp):BA × Int :=
 if algS h.alg=⟨#[]⟩ then (⟨#[]⟩,111) else if Lib.validD h.kid.data.toList=true∧(h.hasTyp=true→Lib.validD h.typ.data.toList=true) then
  (if 262144<(qAp (ndsH (algS h.alg) h.kid h.typ h.hasTyp) 32 0).length then (⟨#[]⟩,10) else (qA3 (qAp (ndsH (algS h.alg) h.kid h.typ h.hasTyp) 32 0),0)) else (⟨#[]⟩,110)
theorem print_is (h:qIp) (ha:qAe h.alg) (hk:h.kid.size≤3000000) (ht:h.typ.size≤3000000):zag_s h=some (qEf h):=by
 have n1:qC5 h.alg=some (algS h.alg):=qAa (by unfold qAe at ha; omega) _;have v1:qAs h.kid=some (Lib.validD h.kid.data.toList):=qAa (by omega) _;have v3:qAs h.typ=some (Lib.validD h.typ.data.toList):=qAa (by omega) _;have f1:∀r:BA × Int,((some r:Option (BA × Int)).bind fun r4=>some (r4.1,r4.2))=some r:=fun r=>rfl
 unfold zag_s qEf;rw [n1];simp only [obS];by_cases hne:algS h.alg=(⟨#[]⟩:BA)
 ·rw [deT hne,cnT,if_pos hne]
 obtain ⟨_,_,va,hz⟩:=algOf_S hne;rw [deF hne,cnF,v1,if_neg hne];simp only [obS];cases vk:Lib.validD h.kid.data.toList with
 | false=>rw [if_neg (fun h=>by cases h.1)]; rfl
 | true =>
  simp only [Bool.not_true,cnF];cases hT:h.hasTyp with
  | false =>
   have hok:=nds_ok (al:=algS h.alg) (kid:=h.kid) (typ:=h.typ) (has:=false) (by omega) hk ht;have hp:=p_Print hok;rw [nds_shape (by omega) hk ht va vk (fun h=>by cases h),if_pos rfl] at hp;simp only [cnF];rw [if_pos ⟨trivial,fun h=>by cases h⟩];exact (congrArg (fun o=>Option.bind o fun r4:BA × Int=>some (r4.1,r4.2)) hp).trans (f1 _)
  | true =>
   simp only [cnT];rw [v3];simp only [obS];cases vt:Lib.validD h.typ.data.toList with
   | false=>rw [if_neg (fun h=>by have:=h.2 trivial; cases this)]; rfl
   | true =>
    have hok:=nds_ok (al:=algS h.alg) (kid:=h.kid) (typ:=h.typ) (has:=true) (by omega) hk ht;have hp:=p_Print hok;rw [nds_shape (by omega) hk ht va vk (fun _=>vt),if_pos rfl] at hp;simp only [Bool.not_true,cnF];rw [if_pos ⟨trivial,fun _=>trivial⟩];refine (qAa (by simp) _).trans ((qAa (by simp) _).trans ((qAa (by simp) _).trans ((qAa (show qAe 3 by unfold qAe; omega) _).trans ((qAa (by simp) _).trans ((qAa (by simp) _).trans ((qAa (by simp) _).trans ((qAa (by simp) _).trans ?_)))))));exact (congrArg (fun o=>Option.bind o fun r4:BA × Int=>some (r4.1,r4.2)) hp).trans (f1 _)
theorem back_is (h:qIp) (hk:h.kid.size≤3000000) (ht:h.typ.size≤3000000) (h0:(qEf h).2=0):zaf_s (qEf h).1=some (backH h,0)∧(qEf h).1.size≤262144:=by
 unfold qEf at h0 ⊢;by_cases hne:algS h.alg=(⟨#[]⟩:BA)
 ·rw [if_pos hne] at h0; cases h0
 obtain ⟨_,_,va,hz⟩:=algOf_S hne;rw [if_neg hne] at h0 ⊢;by_cases hv:Lib.validD h.kid.data.toList=true∧(h.hasTyp=true→Lib.validD h.typ.data.toList=true)
 ·rw [if_pos hv] at h0 ⊢;by_cases hbig:262144<(qAp (ndsH (algS h.alg) h.kid h.typ h.hasTyp) 32 0).length
  ·rw [if_pos hbig] at h0; cases h0
  ·rw [if_neg hbig];dsimp only;have hok:=nds_ok (al:=algS h.alg) (kid:=h.kid) (typ:=h.typ) (has:=h.hasTyp) (by omega) hk ht;have hsh:=nds_shape (has:=h.hasTyp) (by omega) hk ht va hv.1 hv.2;have hr:=prOne_range (ndsH (algS h.alg) h.kid h.typ h.hasTyp) 32 0;have hb:qAi (qA3 (qAp (ndsH (algS h.alg) h.kid h.typ h.hasTyp) 32 0))=qAp (ndsH (algS h.alg) h.kid h.typ h.hasTyp) 32 0:=bytesL_of hr;have hsz:(qA3 (qAp (ndsH (algS h.alg) h.kid h.typ h.hasTyp) 32 0)).size=(qAp (ndsH (algS h.alg) h.kid h.typ h.hasTyp) 32 0).length:=qGy;obtain ⟨nd,L,g0,g7,gp,gl,_⟩:=nds_places (al:=algS h.alg) (kid:=h.kid) (typ:=h.typ) (has:=h.hasTyp);refine ⟨?_,by omega⟩;rw [header_of (print_back hok hsh hb (by omega)) g0 g7 gp,gl,nds_hdr hne];rfl
 ·rw [if_neg hv] at h0; cases h0
theorem back_p0 (h:qIp) (hk:h.kid.size≤3000000) (ht:h.typ.size≤3000000) (h0:(qEf h).2=0):zbq_p0 (qEf h).1 h.alg h.kid (bif h.hasTyp then h.typ else ⟨#[]⟩) h.hasTyp=some (.inr ()):=by
 obtain ⟨h1,h2⟩:=back_is h hk ht h0;unfold zbq_p0;rw [h1,obS,deF (show ¬(262144:Int)<((qEf h).1.size:Int) by omega)];unfold backH;simp
theorem two_sum (f:Nat→Nat) {L:List Nat} {a b:Nat} (hl:L.length=2) (ha:a∈L) (hb:b∈L) (hab:a≠b):(L.map f).sum=f a+f b:=by
 match L,hl with
 | [x,y],_ =>
  simp only [List.mem_cons,List.not_mem_nil,or_false] at ha hb;simp only [List.map_cons,List.map_nil,List.sum_cons,List.sum_nil];rcases ha with rfl | rfl <;> rcases hb with rfl | rfl <;> first | exact (hab rfl).elim | omega
theorem three_sum (f:Nat→Nat) {L:List Nat} {a b c:Nat} (hl:L.length=3) (ha:a∈L) (hb:b∈L) (hc:c∈L) (hab:a≠b) (hac:a≠c) (hbc:b≠c):(L.map f).sum=f a+f b+f c:=by
 match L,hl with
 | [x,y,z],_ =>
  simp only [List.mem_cons,List.not_mem_nil,or_false] at ha hb hc;simp only [List.map_cons,List.map_nil,List.sum_cons,List.sum_nil];rcases ha with rfl | rfl | rfl <;> rcases hb with rfl | rfl | rfl <;> rcases hc with rfl | rfl | rfl <;> first | exact (hab rfl).elim | exact (hac rfl).elim | exact (hbc rfl).elim | omega
theorem obj_places {l:List Eng.Node} {L:List Nat} (hO:Obj l L) (hT:Tree l 0 l.length):∃nd,l[0]?=some nd∧nd.kind=7∧qCp l nd.kids.toNat 1 L l.length∧nd.kids=(L.length:Int):=by
 obtain ⟨nd,g1,g2,g3⟩:=hT.node;obtain ⟨L',hL⟩:=g3.places;have hk:=j_kids hO.ok.1 g1 g2 g3 hL;have hk':=hO.kids;rw [show ((0:Nat):Int)=0 from rfl] at hk;rw [hk] at hk';have e:=congrArg (List.map Int.toNat) (Option.some.inj hk');rw [upN_toNat,upN_toNat] at e;subst e;have h1:=hO.kind;have h2:=hO.cnt;rw [nd_get g1] at h1 h2;exact ⟨nd,g1,h1,hL,h2⟩
theorem txt_size {l:List Eng.Node} (hz:∀n∈l,qF8 1048576 n) (o:Option Nat):(txtF l o).size≤1048576:=by
 cases o with
 | none=>exact Nat.zero_le _
 | some p =>
  show (l.getD p (ET.dft .node)).text.size≤1048576;rw [List.getD_eq_getElem?_getD];cases h:l[p]? with
  | none=>exact Nat.zero_le _
  | some n=>exact (hz n (List.mem_of_getElem? h)).2.1
theorem hdr_zero {l:List Eng.Node} {L:List Nat} (h0:(hdrV l L).2=0):L.all (qGc l)=true∧(∃a k,qAx l hAlg L=some a∧qAx l hKid L=some k∧qE3 (txtF l (some a))≠0∧(hdrV l L).1=⟨qE3 (txtF l (some a)),txtF l (some k),txtF l (qAx l hTyp L),(qAx l hTyp L).isSome⟩):=by
 unfold hdrV at h0 ⊢;by_cases hg:L.all (qGc l)=true∧(qAx l hAlg L).isSome=true∧(qAx l hKid L).isSome=true
 ·rw [if_pos hg] at h0 ⊢;by_cases hz:qE3 (txtF l (qAx l hAlg L))=0
  ·rw [if_pos hz] at h0; cases h0
  ·rw [if_neg hz];obtain ⟨g1,g2,g3⟩:=hg;refine ⟨g1,?_⟩;cases hA:qAx l hAlg L with
   | none=>rw [hA] at g2; cases g2
   | some a =>
    cases hK:qAx l hKid L with
    | none=>rw [hK] at g3; cases g3
    | some k =>
     rw [hA] at hz;exact ⟨a,k,rfl,rfl,hz,rfl⟩
 ·rw [if_neg hg] at h0; cases h0
theorem text_back {t:BA} {l:List Eng.Node} {L:List Nat} (hs:t.size≤262144) (hr:qGn t=.ok t.size l) (hO:Obj l L) (hz:∀n∈l,qF8 1048576 n) (h0:(hdrV l L).2=0) :
  (qEf (hdrV l L).1).2=0∧(qEf (hdrV l L).1).1.size≤t.size∧backH (hdrV l L).1=(hdrV l L).1∧qAe (hdrV l L).1.alg∧(hdrV l L).1.kid.size≤1048576∧(hdrV l L).1.typ.size≤1048576:=by
 obtain ⟨hall,a,k,hA,hK,hne,hv⟩:=hdr_zero h0;obtain ⟨q1,q2,q3⟩:=algS_of hne;rw [good_all,Bool.and_eq_true] at hall;have hsh:=readR_shape hs hr;have hshort:=readR_short hs hr;obtain ⟨nd,g0,g7,gp,gk⟩:=obj_places hO (readR_tree hr);have h5:∀p∈L,(l.getD p (ET.dft .node)).kind=5:=fun p hp=>by
  have:=List.all_eq_true.1 hall.2 p hp;unfold strH at this;simpa using this
 have mA:=findK_mem hA;have mK:=findK_mem hK;have hLp:0<L.length:=List.length_pos_of_mem mA.1;obtain ⟨w1,w2⟩:=obj_items hO.ok hsh g0 g7 gp h5 (by omega);have c0:=cnt_all l L;have c1:=cnt_find (key:=hAlg) hO.uniq;have c2:=cnt_find (key:=hKid) hO.uniq;have c3:=cnt_find (key:=hTyp) hO.uniq;have ho:=others_none.2 hall.1;rw [hA,if_pos (show (some a).isSome=true from rfl)] at c1;rw [hK,if_pos (show (some k).isSome=true from rfl)] at c2;have valid:∀p∈L,Lib.validD (txtF l (some p)).data.toList=true:=fun p hp=>by
  have h1:=w2 p hp;have h2:=h5 p hp;have hsz:=txt_size hz (some p);show Lib.validD (l.getD p (ET.dft .node)).text.data.toList=true;have hsz':(l.getD p (ET.dft .node)).text.size≤3000000:=by
   have:(l.getD p (ET.dft .node)).text.size≤1048576:=hsz;omega
  generalize l.getD p (ET.dft .node)=n at *
  unfold okB at h1;simp only [Bool.and_eq_true] at h1;have h3:=h1.1.1;rw [pB_C hsz'] at h3;unfold pC at h3;simp [h2] at h3;exact h3.2
 have hAK:a≠k:=fun e=>ne_AK (by rw [←mA.2,←mK.2,e])
 have hsA:txtF l (some a)≠⟨#[]⟩:=fun e=>hne (by rw [e]; decide)
 have zA:=txt_size hz (some a);have zK:=txt_size hz (some k);have zT:=txt_size hz (qAx l hTyp L);have iA:itemF l a=(quoL hAlg).length+(quoL (txtF l (some a))).length+2:=by unfold itemF; rw [mA.2]; rfl
 have iK:itemF l k=(quoL hKid).length+(quoL (txtF l (some k))).length+2:=by unfold itemF; rw [mK.2]; rfl
 have vT:(qAx l hTyp L).isSome=true→Lib.validD (txtF l (qAx l hTyp L)).data.toList=true:=fun h=>by
  cases hT:qAx l hTyp L with
  | none=>rw [hT] at h; cases h
  | some p=>exact valid p (findK_mem hT).1
 have okn:=nds_ok (al:=txtF l (some a)) (kid:=txtF l (some k)) (typ:=txtF l (qAx l hTyp L)) (has:=(qAx l hTyp L).isSome) (by omega) (by omega) (by omega);have shn:=nds_shape (al:=txtF l (some a)) (kid:=txtF l (some k)) (typ:=txtF l (qAx l hTyp L)) (has:=(qAx l hTyp L).isSome) (by omega) (by omega) (by omega) (valid a mA.1) (valid k mK.1) vT;obtain ⟨nd',L',n0,n7,np,nl,nk,n5⟩:=nds_places (al:=txtF l (some a)) (kid:=txtF l (some k)) (typ:=txtF l (qAx l hTyp L)) (has:=(qAx l hTyp L).isSome);obtain ⟨x1,_⟩:=obj_items okn shn n0 n7 np n5 nk;have hlen:(qAp (ndsH (txtF l (some a)) (txtF l (some k)) (txtF l (qAx l hTyp L)) (qAx l hTyp L).isSome) 32 0).length=(qAp l 32 0).length:=by
  rw [x1,w1];congr 1
  cases hT:qAx l hTyp L with
  | none =>
   rw [hT] at nl c3;rw [if_neg (by decide)] at c3;rw [two_sum (itemF l) (by omega) mA.1 mK.1 hAK,nl,iA,iK];show itemF _ 1+(itemF _ 2+0)=_;show ((quoL hAlg).length+(quoL (txtF l (some a))).length+2)+(((quoL hKid).length+(quoL (txtF l (some k))).length+2)+0)=_;omega
  | some p =>
   rw [hT] at nl c3;rw [if_pos (show (some p).isSome=true from rfl)] at c3;have mT:=findK_mem hT;have iT:itemF l p=(quoL hTyp).length+(quoL (txtF l (some p))).length+2:=by unfold itemF; rw [mT.2]; rfl
   rw [three_sum (itemF l) (by omega) mA.1 mK.1 mT.1 hAK (fun e=>ne_AT (by rw [←mA.2,←mT.2,e])) (fun e=>ne_KT (by rw [←mK.2,←mT.2,e])),nl,iA,iK,iT];show itemF _ 1+(itemF _ 2+(itemF _ 3+0))=_;show ((quoL hAlg).length+(quoL (txtF l (some a))).length+2)+(((quoL hKid).length+(quoL (txtF l (some k))).length+2)+(((quoL hTyp).length+(quoL (txtF l (some p))).length+2)+0))=_;omega
 have hsz:(qA3 (qAp (ndsH (txtF l (some a)) (txtF l (some k)) (txtF l (qAx l hTyp L)) (qAx l hTyp L).isSome) 32 0)).size=_:=qGy;have hpv:qEf (hdrV l L).1=(qA3 (qAp (ndsH (txtF l (some a)) (txtF l (some k)) (txtF l (qAx l hTyp L)) (qAx l hTyp L).isSome) 32 0),0):=by
  rw [hv];unfold qEf;dsimp only;rw [q1,if_neg hsA,if_pos ⟨valid k mK.1,vT⟩,if_neg (by omega)]
 rw [hpv];refine ⟨rfl,by dsimp only; omega,?_,?_,?_,?_⟩
 ·rw [hv];unfold backH;dsimp only;cases qAx l hTyp L <;> rfl
 ·rw [hv];show qAe ((qE3 (txtF l (some a)):Nat):Int);unfold qAe;omega
 ·rw [hv]; exact zK
 ·rw [hv]; exact zT
theorem back_p1 (t:BA):zbq_p1 t=some true:=by
 obtain ⟨x,hx⟩:=hread t;unfold zbq_p1;rw [p_header hx,obS];cases hx with
 | bad c b h1 hc =>
  dsimp only;rw [deF hc,Bool.not_false,cnT]
 | no l h1 hok hT hz hlt h7=>rfl
 | obj l L h1 hs h2 hO hL hz =>
  by_cases h0:(hdrV l L).2=0
  ·obtain ⟨r1,r2,r3,r4,r5,r6⟩:=text_back hs h2 hO hz h0;obtain ⟨b1,b2⟩:=back_is (hdrV l L).1 (by omega) (by omega) r1;rw [deT h0,Bool.not_true,cnF,print_is _ r4 (by omega) (by omega),obS,b1,obS,r1,r3,deT (show ((qEf (hdrV l L).1).1.size:Int)≤(t.size:Int) by omega)];simp
  ·rw [deF h0,Bool.not_false,cnT]
theorem headerBack_plain (h:qIp) (t:BA) (ha:qAe h.alg) (hk:h.kid.size≤3000000) (ht:h.typ.size≤3000000):zbq_s h t=some true:=by
 unfold zbq_s;rw [started_is,obS,Bool.not_true,cnF,print_is h ha hk ht,obS,back_p1];by_cases h0:(qEf h).2=0
 ·rw [deT h0,cnT];have hb:=back_p0 h hk ht h0;cases hT:h.hasTyp with
  | false =>
   rw [hT] at hb;rw [Bool.not_false,cnT];rw [show (bif false then h.typ else (⟨#[]⟩:BA))=⟨#[]⟩ from rfl] at hb;rw [hb];rfl
  | true =>
   rw [hT] at hb;rw [Bool.not_true,cnF];rw [show (bif true then h.typ else (⟨#[]⟩:BA))=h.typ from rfl] at hb;rw [hb];rfl
 ·rw [deF h0,cnF];have key:qEf h=(⟨#[]⟩,111)∨qEf h=(⟨#[]⟩,110)∨qEf h=(⟨#[]⟩,10):=by
   unfold qEf at h0 ⊢;split
   ·exact .inl rfl
   ·split
    ·split
     ·exact .inr (.inr rfl)
     ·rename_i g1 g2 g3;rw [if_neg g1,if_pos g2,if_neg g3] at h0;exact (h0 rfl).elim
    ·exact .inr (.inl rfl)
  rcases key with e | e | e <;> rw [e] <;> rfl
end Go.Proofs.YticplgndjpljiaaDoor
namespace Go.Eng
open Go.RowKit
set_option linter.unusedVariables false
theorem i64_of_wf {a:Int} (h:(Lit.int .i64 a).wf=true) : -9223372036854775808≤a∧a≤9223372036854775807:=by
 simp [Lit.wf,IntKind.min,IntKind.max,IntKind.signed,IntKind.bits] at h;exact h
structure LowB (w w':World):Prop where
 os:w'.os=w.os
 output:w'.output=w.output
 size:w.heap.size≤w'.heap.size
 block:∀k,k<w.heap.size→w'.heap[k]?=w.heap[k]?
theorem lowB_of_stays {w w':World} (h:Stays (fun _=>False) w w'):LowB w w':=⟨h.os,h.output,h.size,fun k hk=>h.block k hk id⟩
theorem LowB.frame {W w':World} (h:LowB W w') (may:MemPlace→Prop):W.keptBut w' may:=by
 refine ⟨h.os,h.output,fun i hi=>?_⟩;rw [h.block i hi];split <;> simp_all
theorem LowB.same {W w':World} (h:LowB W w') {p:MemPlace} (hp:p.block<W.heap.size):W.sameAt w' p:=by
 cases p with
 | cell b o=>exact World.cell?_of_block (w:=W) (h.block b hp)
 | map b=>exact h.block b hp
theorem LowB.trod {H:Type} {enc:TypeId × Value→H} {P:Program} {t:TypeId} (hl:laidOutB P=true) (hr:P.readableRec t=true) (hrow:t<P.types.size) {W W':World} {v:Value} {d:DataW H} {ps:List MemPlace}
  (h:DataW.Trod enc P W 0 (fun _=>true) true t v d ps) (hb:LowB W W') (hlt:∀x∈ps,x.block<W.heap.size) :
  DataW.Trod enc P W' 0 (fun b=>decide (b<W.heap.size)) true t v d ps :=
 WideElems.Trod_stays hl hr hrow h (fun x hx=>hb.same (hlt x hx)) (fun x hx=>by simpa using hlt x hx)
end Go.Eng
namespace Go.Proofs.YticplgndjpljiaaDoor
open Go.RowKit Go.ChangeShapes Go.WideShapes Go.Deep Go.Eng
set_option linter.unusedVariables false
set_option maxRecDepth 100000
theorem callV {P:Program} {f:Nat} {C:CS} (h:qAn P f C) {args:List SV} {hp hp':List SB} {v:SV} (hc:C args hp (SV × List SB) (fun v hp'=>some (v,hp'))=some (v,hp')) (ha:∀x∈args,x.lt hp.length) (hv:v.shut=true) (w:World) {ρ:Nat→Value} (hs:HpSat noX w w ρ hp) (vs:List Value) (hvs:args.map (SV.den ρ)=vs) :
  Calls P f vs.toArray w fun e w'=>e=.returned (v.den fun _=>undef)∧LowB w w':=by
 have:=h.2 args hp v hp' hc ha noX w ρ hs;rw [hvs] at this;exact this.mono fun e w' ⟨ρ',_,_,a,_,_,b⟩=>⟨by rw [a,SV.shut_den hv ρ' fun _=>undef],lowB_of_stays b⟩
def ViewsOK (w:World):List Value→List SB→Prop
 | [],[]=>True
 | v::vs,.view t l::hp=>ViewAt noX w w t v l∧ViewsOK w vs hp
 | _,_=>False
theorem viewsOK_at {w:World}:∀ {vs:List Value} {hp:List SB},ViewsOK w vs hp→∀(i:Nat) (sb:SB),hp[i]?=some sb→∃t l,sb=.view t l∧ViewAt noX w w t (vs.getD i undef) l
 | [],[],_,i,sb,h=>by simp at h
 | v::vs,.view t l::hp,h,i,sb,hi=>by
  cases i with
  | zero =>
   simp at hi;exact ⟨t,l,hi.symm,h.1⟩
  | succ i =>
   obtain ⟨t',l',h1,h2⟩:=viewsOK_at h.2 i sb (by simpa using hi);exact ⟨t',l',h1,by simpa using h2⟩
 | [],_::_,h,_,_,_=>h.elim
 | _::_,[],h,_,_,_=>h.elim
 | _::_,.cells ..::_,h,_,_,_=>h.elim
 | _::_,.row ..::_,h,_,_,_=>h.elim
 | _::_,.part ..::_,h,_,_,_=>h.elim
 | _::_,.dead::_,h,_,_,_=>h.elim
theorem views_sat {w:World} {vs:List Value} {hp:List SB} (h:ViewsOK w vs hp) (ht:tabOK noX w):HpSat noX w w (fun i=>vs.getD i undef) hp:=by
 have key:=viewsOK_at h;refine ⟨fun i hi=>?_,fun i sb hi=>?_,fun i sb hi=>?_,fun i j sb sb' b _ hi hj e1 _ _ _=>?_,ht⟩
 ·obtain ⟨t,l,_,a,cap,hv,_⟩:=key i hp[i] (by simp [hi]);show qE1 (vs.getD i undef);rw [hv];trivial
 ·obtain ⟨t,l,rfl,hv⟩:=key i sb hi;exact hv
 ·obtain ⟨t,l,rfl,hv⟩:=key i sb hi;trivial
 ·obtain ⟨t,l,rfl,hv⟩:=key i sb hi;cases e1
section
variable {H:Type} {enc:TypeId × Value→H} {W:World} {sp:Nat→Bool} {held:Bool} {r:Reach} {b0:Nat}
structure NodeB (B:Nat) (n:Eng.Node):Prop where
 kind:qAe n.kind
 key:n.key.size≤B
 text:n.text.size≤B
 int:qAe n.int
 kids:qAe n.kids
instance:Inhabited Eng.Node:=⟨⟨0,.empty,.empty,false,0,0⟩⟩
end
end Go.Proofs.YticplgndjpljiaaDoor
namespace Go.Proofs.YticplgndjpljiaaDoor
open Go.RowKit Go.ChangeShapes Go.WideShapes Go.Deep Go.Eng
set_option linter.unusedVariables false
set_option maxRecDepth 100000
section
variable {H:Type} {enc:TypeId × Value→H} {W:World} {sp:Nat→Bool} {held:Bool} {r:Reach} {b0:Nat}
theorem bulk_str {B:Nat} {s:BA} (h:Rows.uptoBulk (H:=H) (.lit (.string s.data.toList))≤B):s.size≤B:=by
 simp only [Rows.uptoBulk,Array.length_toList] at h;have:s.size=s.data.size:=rfl;omega
theorem openVS_header {B:Nat} {v:Value} {d:DataW H} {p:List MemPlace} (hv:Value.okWide Tryd.prog W r b0 24 v) (h:DataW.Trod enc Tryd.prog W 0 sp held 24 v d p) (hz:Rows.uptoBulk d≤B) :
  ∃(alg:Int) (kid:BA) (typ:BA) (hasTyp:Bool),v=.agg #[.int .i64 alg,.string kid,.string typ,.bool hasTyp] ∧
   (-9223372036854775808≤alg∧alg≤9223372036854775807)∧kid.size≤B∧typ.size≤B:=by
 obtain ⟨cs,rfl,hsz⟩:=okWide_struct Tryd.underlying24 hv;obtain ⟨l⟩:=cs;have hC:Tryd.prog.cellsOf 24=4:=by kernel_rfl
 match l,hsz.trans hC with
 | [c0,c1,c2,c3],_ =>
  obtain ⟨fuel,hf⟩:=h;obtain ⟨xs,n,_,hx,_,hlen,hg⟩:=DataW.trod_struct Tryd.underlying24 hf;match xs,hlen with
  | [y0,y1,y2,y3],_ =>
   simp only [Prod.mk.injEq,List.map_cons,List.map_nil] at hx;obtain ⟨rfl,_⟩:=hx;simp only [Rows.uptoBulk,Rows.uptoBulkAll] at hz;have g0:DataW.trod enc Tryd.prog W 0 sp held n 22 [c0]=some y0:=by simpa [show Tryd.prog.cellsOf 22=1 by kernel_rfl,Value.cells] using hg 0 _ rfl
   have z0:Rows.uptoBulk y0.1≤B:=by omega
   have g1:DataW.trod enc Tryd.prog W 0 sp held n 9 [c1]=some y1:=by simpa [show Tryd.prog.cellsOf 9=1 by kernel_rfl,Value.cells] using hg 1 _ rfl
   have z1:Rows.uptoBulk y1.1≤B:=by omega
   have g2:DataW.trod enc Tryd.prog W 0 sp held n 9 [c2]=some y2:=by simpa [show Tryd.prog.cellsOf 9=1 by kernel_rfl,Value.cells] using hg 2 _ rfl
   have z2:Rows.uptoBulk y2.1≤B:=by omega
   have g3:DataW.trod enc Tryd.prog W 0 sp held n 4 [c3]=some y3:=by simpa [show Tryd.prog.cellsOf 4=1 by kernel_rfl,Value.cells] using hg 3 _ rfl
   have z3:Rows.uptoBulk y3.1≤B:=by omega
   clear hz hg;obtain ⟨alg,e0,rfl,i0⟩:=DataW.trod_int Tryd.underlying22 g0;simp only [List.cons.injEq,and_true] at e0;subst e0;obtain ⟨kid,e1,rfl,i1⟩:=DataW.trod_string Tryd.underlying9 g1;simp only [List.cons.injEq,and_true] at e1;subst e1;obtain ⟨typ,e2,rfl,i2⟩:=DataW.trod_string Tryd.underlying9 g2;simp only [List.cons.injEq,and_true] at e2;subst e2;obtain ⟨hasTyp,e3,rfl⟩:=DataW.trod_bool Tryd.underlying4 g3;simp only [List.cons.injEq,and_true] at e3;subst e3;exact ⟨alg,kid,typ,hasTyp,rfl,Go.Eng.i64_of_wf i0,bulk_str z1,bulk_str z2⟩
end
end Go.Proofs.YticplgndjpljiaaDoor
namespace Go.Proofs
open Go.Shelf
shelf_lay Lays.n260 Nm 260 at Tryd as Tryd.laysSlow
end Go.Proofs
namespace Go.Proofs.YticplgndjpljiaaDoor
open Go.Eng Go.Shelf
set_option linter.unusedVariables false
theorem first_data:(Rows.laid_unicode_utf8_first:DataW Unit)=Lib.firstData:=by kernel_rfl
theorem accept_data:(Rows.laid_unicode_utf8_acceptRanges:DataW Unit)=Lib.acceptData:=by kernel_rfl
theorem cells_strs {H:Type} {enc:TypeId × Value→H} {P:Program} {w:World} {base:Nat} {sp:Nat→Bool} {held:Bool} {fuel:Nat} {t e:TypeId} {n:Nat} {cs:List Value} {zs:List (List UInt8)} {p:List MemPlace}
  (ht:P.underlying t=some (.array n e)) (he:P.underlying e=some .string) (hce:P.cellsOf e=1) (hct:P.cellsOf t=n)
  (h:DataW.trod enc P w base sp held fuel t cs=some (.agg (zs.map fun z=>.lit (.string z)),p)):cs=zs.map fun z=>Value.string ⟨z.toArray⟩:=by
 cases fuel with
 | zero=>simp [DataW.trod] at h
 | succ fuel =>
  simp only [DataW.trod,ht,hce,hct,Nat.mul_one] at h;split at h
  ·rename_i hl;obtain ⟨xs,hm,hx⟩:=Option.map_eq_some_iff.1 h;have hxs:xs.map (·.1)=zs.map fun z=>(DataW.lit (.string z):DataW H):=by
    have:=congrArg Prod.fst hx;simpa using this
   have hxl:xs.length=n:=by simpa using Lib.mapM_length hm
   have hzl:zs.length=n:=by
    have:=congrArg List.length hxs;simp at this;omega
   apply List.ext_getElem?;intro i;by_cases hi:i<n
   ·obtain ⟨b,hb,hf⟩:=Lib.mapM_at hm i i (by simp [hi]);obtain ⟨z,hc,rfl,_⟩:=DataW.trod_string he hf;have h1:cs[i]?=some (.string z):=by
     have:=congrArg (·[0]?) hc;simpa [List.getElem?_take,List.getElem?_drop] using this
    have h2:(xs.map (·.1))[i]?=some (DataW.lit (.string z.data.toList):DataW H):=by simp [hb]
    rw [hxs] at h2;simp only [List.getElem?_map,Option.map_eq_some_iff,DataW.lit.injEq,Lit.string.injEq] at h2;obtain ⟨z',hz',rfl⟩:=h2;simp only [h1,List.getElem?_map,hz',Option.map_some]
   ·rw [List.getElem?_eq_none (by omega),List.getElem?_eq_none (by simp; omega)]
  ·cases h
def namesZ:List (List UInt8):=[[],[72,83,50,53,54],[72,83,51,56,52],[72,83,53,49,50],[82,83,50,53,54],[82,83,51,56,52],[82,83,53,49,50],[80,83,50,53,54],[80,83,51,56,52],[80,83,53,49,50],[69,83,50,53,54],[69,83,51,56,52],[69,100,68,83,65]]
theorem names_cells {W:World} (h:Lib.VarReads Tryd.prog W "signet/keyset.names" Rows.laid_signet_keyset_names):∀k,k<13→W.cell? ⟨0,k,none⟩=some (.string (qFd k)):=by
 intro k hk;obtain ⟨g,t,cs,fuel,p,hg,hty,hvar,hd⟩:=h;have hg':Tryd.prog.globalNamed "signet/keyset.names" = some 0:=by kernel_rfl
 obtain rfl:=Option.some.inj (hg'.symm.trans hg);have hty':(Tryd.prog.globals[0]?).map (·.type)=some 91:=by kernel_rfl
 obtain rfl:=Option.some.inj (hty'.symm.trans hty);have hcs:=cells_strs (n:=13) (e:=9) (zs:=namesZ) (by kernel_rfl) (by kernel_rfl) (by kernel_rfl) (by kernel_rfl) hd;rw [World.var?_cell hg hvar k,←Array.getElem?_toList,hcs];match k,hk with
 | 0,_ | 1,_ | 2,_ | 3,_ | 4,_ | 5,_ | 6,_ | 7,_ | 8,_ | 9,_ | 10,_ | 11,_ | 12,_=>rfl
theorem utf8N_tabs {W:World} (h3:Lib.VarReads Tryd.prog W "unicode/utf8.first" Rows.laid_unicode_utf8_first) (h4:Lib.VarReads Tryd.prog W "unicode/utf8.acceptRanges" Rows.laid_unicode_utf8_acceptRanges) (h5:Lib.VarReads Tryd.prog W "signet/keyset.names" Rows.laid_signet_keyset_names):tabOK noX W:=by
 rw [first_data] at h3;rw [accept_data] at h4;exact ⟨utf8Tabs_of_reads Tryd.laysSlow ⟨by kernel_rfl,by kernel_rfl,by kernel_rfl,by kernel_rfl,by kernel_rfl,by kernel_rfl,by kernel_rfl⟩ h3 h4,names_cells h5,fun h=>h,fun h=>h,fun h=>h⟩
end Go.Proofs.YticplgndjpljiaaDoor
namespace Go.Proofs.YticplgndjpljiaaDoor
open Go.Eng
set_option linter.unusedVariables false
set_option linter.unusedSimpArgs false
theorem headerBack_tabs {W:World} (h:laidMetH Tryd.prog Rows.headerBackUptoRow.laid W):tabOK noX W:=by
 have h':laidMet Tryd.prog Rows.headerBackUptoRow.laid W:=h;exact utf8N_tabs (Lib.laidMet.reads h' (List.mem_cons_of_mem _ (List.mem_cons_of_mem _ List.mem_cons_self))) (Lib.laidMet.reads h' List.mem_cons_self) (Lib.laidMet.reads h' (List.mem_cons_of_mem _ List.mem_cons_self))
theorem headerBack_walk (alg:Int) (kid:BA) (typ:BA) (hasTyp:Bool) (s1:BA) (W:World) (h0 : -9223372036854775808≤alg∧alg≤9223372036854775807) (h1:kid.size≤1048576) (h2:typ.size≤1048576) (h3:s1.size≤1048576) (hT:tabOK noX W) :
  Calls Tryd.prog 6 #[.agg #[.int .i64 alg,.string kid,.string typ,.bool hasTyp],.string s1] W fun e w'=>e=.returned (.bool true)∧LowB W w':=by
 refine callV zbq_val (args:=[.c (.agg [.val (.int .i64 alg),.val (.string kid),.val (.string typ),.val (.bool hasTyp)]),.c (.o (.val (.string s1)))]) (hp:=[]) (hp':=[]) (v:=.c (.o (.val (.bool true)))) ?_ ?_ rfl W (views_sat (vs:=[]) trivial hT) _ rfl
 ·show ((zbq_s ⟨alg,kid,typ,hasTyp⟩ s1).bind fun r=>some ((.c (.o (.val (.bool r))),[]):SV × List SB))=_;rw [headerBack_plain ⟨alg,kid,typ,hasTyp⟩ s1 h0 (by show kid.size≤_; omega) (by show typ.size≤_; omega)];rfl
 ·intro x hx;simp only [List.mem_cons,List.not_mem_nil,or_false] at hx;rcases hx with rfl | rfl
  ·intro y hy;simp only [List.mem_cons,List.not_mem_nil,or_false] at hy;rcases hy with rfl | rfl | rfl | rfl <;> exact True.intro
  ·exact True.intro
end Go.Proofs.YticplgndjpljiaaDoor
