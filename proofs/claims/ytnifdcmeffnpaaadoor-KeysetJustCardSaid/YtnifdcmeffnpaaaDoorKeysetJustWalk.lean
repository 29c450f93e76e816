/-
  Texts of a claim.
-/
import Derived.Below
import Derived.Carry
import Derived.Lib.LaidU8
import Derived.Shelf.Lay
import Derived.Ground.NamesProg
import Derived.Test.YtnifdcmeffnpaaaDoorPKeyW
import Derived.Test.YtnifdcmeffnpaaaDoorEngN
import Derived.Test.YtnifdcmeffnpaaaDoorEngO
import Derived.Test.YtnifdcmeffnpaaaDoorProg
import Derived.Test.YtnifdcmeffnpaaaDoorRows
namespace Go.Proofs.YtnifdcmeffnpaaaDoor
open Go.Eng
set_option linter.unusedVariables false
set_option linter.unusedSimpArgs false
theorem trees_shift {v w:List Eng.Node} {a m:Nat} (hw:w.length=m) (hwv:∀i,1≤i→i<m→w[i]?=v[a+i]?) {k p q:Nat} (h:Trees v k p q):∀(i j:Nat),p=a+i→q=a+j→1≤i→j≤m→Trees w k i j:=by
 induction h with
 | nil p hp =>
  intro i j h1 h2 h3 h4;obtain rfl:i=j:=by omega
  exact Trees.nil i (by omega)
 | @cons k p b q nd hn h0 h1 h2 i1 i2 =>
  intro i j g1 g2 g3 g4;have l1:=h1.le;have l2:=h2.le;subst g1;exact Trees.cons nd ((hwv i g3 (by omega)).trans hn) h0 (i1 (i+1) (b - a) (by omega) (by omega) (by omega) (by omega)) (i2 (b - a) j (by omega) g2 (by omega) g4)
theorem places_shift {v w:List Eng.Node} {a m:Nat} (hw:w.length=m) (hwv:∀i,1≤i→i<m→w[i]?=v[a+i]?):∀ {k p q:Nat} {L:List Nat},Trees v k p q→qC6 v k p L q→∀(i j:Nat),p=a+i→q=a+j→1≤i→j≤m→∃L',L=L'.map (a + ·)∧qC6 w k i L' j∧∀x∈L',1≤x∧x<m
 | 0,p,q,L,ht,h,i,j,h1,h2,h3,h4=>⟨[],h.1,⟨rfl,by have:=h.2; omega⟩,fun x hx=>by cases hx⟩
 | k+1,p,q,L,ht,h,i,j,h1,h2,h3,h4=>by
  obtain ⟨b,r,rfl,g1,g2⟩:=h;obtain ⟨b',g3,g4⟩:=ht.one;obtain rfl:=Trees.det g1 g3;have l1:=Trees.le g1;have l2:=g4.le;obtain ⟨L',e1,e2,e3⟩:=places_shift hw hwv g4 g2 (b - a) j (by omega) h2 (by omega) h4;refine ⟨i::L',by rw [List.map_cons,←e1,h1],⟨b - a,L',rfl,trees_shift hw hwv g1 i (b - a) h1 (by omega) h3 (by omega),e2⟩,fun x hx=>?_⟩;rcases List.mem_cons.1 hx with rfl | hx
  ·exact ⟨h3,by omega⟩
  ·exact e3 x hx
theorem getD_shift {v w:List Eng.Node} {a m:Nat} (hwv:∀i,1≤i→i<m→w[i]?=v[a+i]?) {x:Nat} (h1:1≤x) (h2:x<m):w.getD x (ET.dft .node)=v.getD (a+x) (ET.dft .node):=by
 rw [List.getD_eq_getElem?_getD,List.getD_eq_getElem?_getD,hwv x h1 h2]
theorem findK_shift {v w:List Eng.Node} {a m:Nat} (hwv:∀i,1≤i→i<m→w[i]?=v[a+i]?) (key:BA):∀ {L:List Nat},(∀x∈L,1≤x∧x<m)→findK v key (L.map (a + ·))=(findK w key L).map (a + ·)∧∀x,findK w key L=some x→1≤x∧x<m
 | [],h=>⟨rfl,fun x hx=>by cases hx⟩
 | p::r,h=>by
  obtain ⟨i1,i2⟩:=findK_shift hwv key (fun x hx=>h x (List.mem_cons_of_mem _ hx)) (L:=r);obtain ⟨q1,q2⟩:=h p List.mem_cons_self;rw [List.map_cons];unfold findK;rw [getD_shift hwv q1 q2];by_cases hk:(v.getD (a+p) (ET.dft .node)).key=key
  ·rw [if_pos hk,if_pos hk];exact ⟨rfl,fun x hx=>by cases hx; exact ⟨q1,q2⟩⟩
  ·rw [if_neg hk,if_neg hk];exact ⟨i1,i2⟩
theorem val_text {v:List Eng.Node} (hv:v.length≤262144) {a e:Nat} (h:Tree v a e):(∃e',Tree (valC v a) 0 e')∧∀key,txtC (valC v a) (memC (valC v a) key 0)=txtC v (memC v key a):=by
 have hle:=Trees.le h;obtain ⟨nd,h1,h2,h3,h4,h5⟩:=tree_places (by omega) h;have hbe:=bhC_tree (by omega) h;have hlen:((v.take e).drop a).length=e - a:=by rw [List.length_drop,List.length_take]; omega
 have hw:(valC v a).length=e - a:=by unfold valC; rw [List.length_set,hbe,hlen]
 have hg:∀i,i<e - a→((v.take e).drop a)[i]?=v[a+i]?:=fun i hi=>by
  rw [List.getElem?_drop,List.getElem?_take,if_pos (by omega)]
 have hwv:∀i,1≤i→i<e - a→(valC v a)[i]?=v[a+i]?:=fun i hi hi2=>by
  unfold valC;rw [hbe,List.getElem?_set_ne (by omega),hg i hi2]
 have h0:(valC v a)[0]?=some (clrN nd):=by
  unfold valC;rw [hbe,List.getElem?_set_self (by omega),List.getD_eq_getElem?_getD,hg 0 (by omega),Nat.add_zero,h1];rfl
 have hd0:(valC v a).getD 0 (ET.dft .node)=clrN nd:=nd_get h0;have ht:=trees_shift hw hwv h4 1 (e - a) (by omega) (by omega) (by omega) (by omega);obtain ⟨L',e1,e2,e3⟩:=places_shift hw hwv h4 h5 1 (e - a) (by omega) (by omega) (by omega) (by omega);refine ⟨⟨e - a,Tree.mk h0 h3 ht⟩,fun key=>?_⟩;have hs:qBo (valC v a) 0=L':=by
  unfold qBo;rw [hd0];exact kidsN_places (by rw [hw]; omega) e2
 unfold memC;rw [hs,hd0,h2];show txtC (valC v a) (if nd.kind=7 then _ else _)=_;by_cases h7:nd.kind=7
 ·rw [if_pos h7,if_pos h7,e1];obtain ⟨f1,f2⟩:=findK_shift hwv key e3;rw [f1];cases hf:findK (valC v a) key L' with
  | none=>rfl
  | some x =>
   obtain ⟨q1,q2⟩:=f2 x hf;show (if ((valC v a).getD x (ET.dft .node)).kind=5 then _ else _)=(if (v.getD (a+x) (ET.dft .node)).kind=5 then _ else _);rw [getD_shift hwv q1 q2]
 ·rw [if_neg h7,if_neg h7];rfl
def qDt (v:List Eng.Node) (key:BA) (a:Nat) (s:BA):Bool:=((txtC v (memC v key a)).2.1 && (txtC v (memC v key a)).2.2) && decide ((txtC v (memC v key a)).1=s)
theorem said_j {v:List Eng.Node} (hv:v.length≤262144) {a e:Nat} (h:Tree v a e) (key s:BA):zbq_s v (a:Int) key s=some (qDt v key a s):=by
 obtain ⟨m1,m2⟩:=mem_j (by omega) h key;unfold zbq_s qDt;rw [m1,obS];cases hm:memC v key a with
 | none =>
  rw [show memI none=(-1:Int) from rfl,deF (show ¬(0:Int) ≤ -1 by omega),Bool.false_and,qAa (fun h=>by cases h),qAa (fun h=>by cases h),qAa (fun h=>by cases h),qAa (fun h=>by cases h),qAa (fun h=>by cases h),qAa (fun h=>by cases h)];rfl
 | some p =>
  obtain ⟨e',he'⟩:=m2 p hm;have hl:=he'.lt;rw [show memI (some p)=(p:Int) from rfl,qAa (fun _=>by omega),qAa (fun _=>by omega),qAa (fun _=>by omega),qAa (fun _=>by omega),qAa (fun _=>by omega),qAa (fun _=>by omega),Int.toNat_natCast,deT (show (0:Int)≤p by omega),Bool.true_and,show txtC v (some p)=(if (v.getD p (ET.dft .node)).kind=5 then ((v.getD p (ET.dft .node)).text,true,true) else (⟨#[]⟩,true,false)) from rfl];by_cases h5:(v.getD p (ET.dft .node)).kind=5
  ·rw [if_pos h5,deT h5];rfl
  ·rw [if_neg h5,deF h5];rfl
def tyT (k:Int):BA:=if k=1 then ⟨#[111,99,116]⟩ else if k=2 then ⟨#[82,83,65]⟩ else if k=3 then ⟨#[69,67]⟩ else ⟨#[79,75,80]⟩
def fitB (v:List Eng.Node) (p:Nat) (a:Int):Bool :=
 bif decide ((bndC a).1=0) then false else bif decide ((bndC a).2=⟨#[]⟩) then qDt v kKty p (tyT (bndC a).1) else qDt v kKty p (tyT (bndC a).1) && qDt v kCrv p (bndC a).2
theorem and_form (x y:Bool):((bif x then some (Sum.inl y:Bool ⊕ Unit) else some (.inl false)):Option (Bool ⊕ Unit))=some (.inl (x && y)):=by cases x <;> rfl
theorem fits_j {v:List Eng.Node} (hv:v.length≤262144) {p e:Nat} (h:Tree v p e) (a:Int):zbp_s v (p:Int) a=some (fitB v p a):=by
 have hs:=said_j hv h;unfold zbp_s zbp_p0 zbp_p1;simp only [hs,obS,and_form];by_cases h1:a=1
 ·subst h1; rfl
 by_cases h2:a=2
 ·subst h2; rfl
 by_cases h3:a=3
 ·subst h3; rfl
 by_cases h4:a=4
 ·subst h4; rfl
 by_cases h5:a=5
 ·subst h5; rfl
 by_cases h6:a=6
 ·subst h6; rfl
 by_cases h7:a=7
 ·subst h7; rfl
 by_cases h8:a=8
 ·subst h8; rfl
 by_cases h9:a=9
 ·subst h9; rfl
 by_cases h10:a=10
 ·subst h10; rfl
 by_cases h11:a=11
 ·subst h11; rfl
 by_cases h12:a=12
 ·subst h12; rfl
 unfold fitB bndC;simp only [deF h1,deF h2,deF h3,deF h4,deF h5,deF h6,deF h7,deF h8,deF h9,deF h10,deF h11,deF h12,if_neg h1,if_neg h2,if_neg h3,if_neg h4,if_neg h5,if_neg h6,if_neg h7,if_neg h8,if_neg h9,if_neg h10,if_neg h11,if_neg h12,cnF,obS,Sum.elim_inr];rfl
def verB (v:List Eng.Node) (p:Nat):Bool:=decide ((v.getD p (ET.dft .node)).kind=5) && decide ((v.getD p (ET.dft .node)).text=kVerify)
theorem ver_loop {v:List Eng.Node} {L:List Nat} (hL:L.length≤262144) (hp:∀p∈L,p<v.length):∀(j i:Nat),i+j=L.length →
  zbn_p0 (i:Int) v (upN L)=some (if (L.drop i).any (verB v)=true then .inl true else .inr ())
 | 0,i,h=>by
  rw [List.drop_eq_nil_of_le (by omega)];unfold zbn_p0;refine qAn ?_;unfold qDo;rw [qB1,deF (by omega),cnF];rfl
 | j+1,i,h=>by
  have hi:i<L.length:=by omega
  have hd:L.drop i=L[i]::L.drop (i+1):=List.drop_eq_getElem_cons hi;have hlt:=hp L[i] (List.getElem_mem hi);rw [hd,List.any_cons];cases hb:verB v L[i] with
  | true =>
   rw [Bool.true_or,if_pos rfl];unfold verB at hb;unfold zbn_p0;refine qAn ?_;unfold qDo;rw [qB1,deT (by omega),cnT];simp only [Int.toNat_natCast,qD7 hi];rw [qAa (by omega),qAa (by omega),qAa (by omega),qAa (by omega),qAa (by omega),qAa (fun _=>by omega),qAa (fun _=>by omega),qAa (fun _=>by omega),qAa (fun _=>by omega),qAa (fun _=>by omega),hb,cnT]
  | false =>
   rw [Bool.false_or,←ver_loop hL hp j (i+1) (by omega)];unfold verB at hb;unfold zbn_p0;refine qAv ?_;unfold qDo;rw [qB1,deT (by omega),cnT];simp only [Int.toNat_natCast,qD7 hi];rw [qAa (by omega),qAa (by omega),qAa (by omega),qAa (by omega),qAa (by omega),qAa (fun _=>by omega),qAa (fun _=>by omega),qAa (fun _=>by omega),qAa (fun _=>by omega),qAa (fun _=>by omega),hb,cnF];exact qAa (by unfold qAj; omega) _
def opsA (v:List Eng.Node) (p:Nat):Bool:=match memC v kOps p with
 | none=>true
 | some k=>(qBo v k).any (verB v)
def useA (v:List Eng.Node) (p:Nat):Bool:=(memC v kUse p).isNone || qDt v kUse p kSig
def algA (v:List Eng.Node) (p:Nat) (a:Int):Bool:=(memC v kAlg p).isNone || (!decide (algS a=⟨#[]⟩) && qDt v kAlg p (algS a))
theorem ops_j {v:List Eng.Node} (hv:v.length≤262144) {p e:Nat} (h:Tree v p e):((qEv v (p:Int) kOps).bind fun r28 =>
   bif decide (r28<(0:Int)) then (
    some true)
   else (
    (zag_s v r28).bind fun r29 =>
    (zbn_p0 (0:Int) v r29).bind fun o30=>(Sum.elim (fun (o30_0:Bool) =>
     some o30_0) (fun (o30_1:Unit) =>
     some false)) o30))=some (opsA v p):=by
 obtain ⟨m1,m2⟩:=mem_j (by omega) h kOps;rw [m1,obS];unfold opsA;cases hm:memC v kOps p with
 | none=>rfl
 | some k =>
  obtain ⟨e',he'⟩:=m2 k hm;obtain ⟨k1,k3,k4⟩:=kids_j (by omega) he';have hin:∀q∈qBo v k,q<v.length:=fun q hq=>by
   obtain ⟨e2,h2⟩:=k4 q hq;exact h2.lt
  have ej:=ver_loop (v:=v) (L:=qBo v k) (by omega) hin (qBo v k).length 0 (by omega);rw [List.drop_zero,show ((0:Nat):Int)=0 from rfl] at ej;rw [show memI (some k)=(k:Int) from rfl,deF (by omega),cnF,k1,obS,ej,obS];simp only;cases (qBo v k).any (verB v) <;> rfl
theorem allows_j {v:List Eng.Node} (hv:v.length≤262144) {p e:Nat} (h:Tree v p e) {a:Int} (ha:a≤9223372036854775807):zbn_s v (p:Int) a=some (useA v p && (algA v p a && opsA v p)):=by
 have hs:=said_j hv h;have ho:=ops_j hv h;have hn:qBb a=some (algS a):=qAa ha _;have hm:∀key,(memC v key p=none∧qEv v (p:Int) key=some (-1))∨∃k:Nat,memC v key p=some k∧qEv v (p:Int) key=some (k:Int):=fun key=>by
  have:=(mem_j (by omega) h key).1;rw [this];cases memC v key p with
  | none=>exact .inl ⟨rfl,rfl⟩
  | some k=>exact .inr ⟨k,rfl,rfl⟩
 unfold zbn_s useA algA;have alg:∀(X:Bool),X=true→((qEv v (p:Int) kAlg).bind fun r21 =>
  bif decide ((0:Int)≤r21) then (
   (qBb a).bind fun r22 =>
   bif decide (r22=(⟨#[]⟩:BA)) then (
    some false)
   else (
    (qBb a).bind fun r23 =>
    (zbq_s v (p:Int) (⟨#[97,108,103]⟩:BA) r23).bind fun r24 =>
    bif (!r24) then (
     some false)
    else (
     (qEv v (p:Int) (⟨#[107,101,121,95,111,112,115]⟩:BA)).bind fun r25 =>
     bif decide (r25<(0:Int)) then (
      some true)
     else (
      (zag_s v r25).bind fun r26 =>
      (zbn_p0 (0:Int) v r26).bind fun o27=>(Sum.elim (fun (o27_0:Bool) =>
       some o27_0) (fun (o27_1:Unit) =>
       some false)) o27))))
  else (
   (qEv v (p:Int) (⟨#[107,101,121,95,111,112,115]⟩:BA)).bind fun r28 =>
   bif decide (r28<(0:Int)) then (
    some true)
   else (
    (zag_s v r28).bind fun r29 =>
    (zbn_p0 (0:Int) v r29).bind fun o30=>(Sum.elim (fun (o30_0:Bool) =>
     some o30_0) (fun (o30_1:Unit) =>
     some false)) o30)))=some (X && (((memC v kAlg p).isNone || (!decide (algS a=⟨#[]⟩) && qDt v kAlg p (algS a))) && opsA v p)):=fun X hX=>by
  subst hX;rw [ho,Bool.true_and];rcases hm kAlg with ⟨q1,q2⟩ | ⟨k,q1,q2⟩
  ·rw [q1,q2,obS,deF (by omega),cnF];rfl
  ·rw [q1,q2,obS,deT (by omega),cnT,hn,obS,obS,hs,obS];cases decide (algS a=⟨#[]⟩) <;> cases qDt v kAlg p (algS a) <;> rfl
 rcases hm kUse with ⟨q1,q2⟩ | ⟨k,q1,q2⟩
 ·rw [q1,q2,obS,deF (by omega),cnF];exact alg _ rfl
 ·rw [q1,q2,obS,deT (by omega),cnT,hs,obS];cases hb:qDt v kUse p kSig with
  | false=>rfl
  | true =>
   rw [Bool.not_true,cnF];exact alg _ rfl
theorem txt_has (v:List Eng.Node) (m:Option Nat) (h:(txtC v m).2.2=true):m.isNone=!(txtC v m).2.1:=by
 cases m with
 | none=>rfl
 | some p =>
  rw [show txtC v (some p)=(if (v.getD p (ET.dft .node)).kind=5 then ((v.getD p (ET.dft .node)).text,true,true) else (⟨#[]⟩,true,false)) from rfl] at h ⊢;split
  ·rfl
  ·rename_i h5;rw [if_neg h5] at h;cases h
theorem opsV_any {v:List Eng.Node} (s:BA):∀ {L:List Nat} {out o:List BA},opsV v L out=some o→decide (s∈o)=(decide (s∈out) || L.any fun p=>decide ((v.getD p (ET.dft .node)).kind=5) && decide ((v.getD p (ET.dft .node)).text=s))
 | [],out,o,h=>by cases h; simp
 | p::r,out,o,h=>by
  unfold opsV at h;split at h
  ·rename_i hc;rw [opsV_any s h,List.any_cons,deT hc.1,Bool.true_and,←Bool.or_assoc];congr 1
   rw [←Bool.decide_or];congr 1
   rw [List.mem_append,List.mem_singleton];exact propext ⟨fun h=>h.elim .inl (fun h=>.inr h.symm),fun h=>h.elim .inl (fun h=>.inr h.symm)⟩
  ·cases h
theorem op_any (v:List Eng.Node) (p:Nat) (h:(opC v (memC v kOps p)).2.2=true):opsA v p=!((opC v (memC v kOps p)).2.1 && !decide (kVerify∈(opC v (memC v kOps p)).1)):=by
 unfold opsA;cases hm:memC v kOps p with
 | none=>rfl
 | some k =>
  rw [hm] at h;rw [show opC v (some k)=(if (v.getD k (ET.dft .node)).kind=6 then (match opsV v (qBo v k) [] with | none=>([],true,false) | some o=>(o,true,true)) else ([],true,false)) from rfl] at h ⊢
  by_cases h6:(v.getD k (ET.dft .node)).kind=6
  ·rw [if_pos h6] at h ⊢;cases ho:opsV v (qBo v k) [] with
   | none=>rw [ho] at h; cases h
   | some o =>
    have:=opsV_any kVerify ho;simp only;rw [this];simp only [List.not_mem_nil,decide_false,Bool.false_or,Bool.true_and,Bool.not_not];rfl
  ·rw [if_neg h6] at h;cases h
theorem kty_ty (t:BA) {k:Int} (hk:k=1∨k=2∨k=3∨k=4):decide (ktyC t=k)=decide (t=tyT k):=by
 unfold ktyC;by_cases h1:t=⟨#[111,99,116]⟩
 ·subst h1;rcases hk with rfl | rfl | rfl | rfl <;> kernel_rfl
 ·by_cases h2:t=⟨#[82,83,65]⟩
  ·subst h2;rcases hk with rfl | rfl | rfl | rfl <;> kernel_rfl
  ·by_cases h3:t=⟨#[69,67]⟩
   ·subst h3;rcases hk with rfl | rfl | rfl | rfl <;> kernel_rfl
   ·by_cases h4:t=⟨#[79,75,80]⟩
    ·subst h4;rcases hk with rfl | rfl | rfl | rfl <;> kernel_rfl
    ·rw [if_neg h1,if_neg h2,if_neg h3,if_neg h4];rcases hk with rfl | rfl | rfl | rfl
     ·rw [show tyT 1=⟨#[111,99,116]⟩ from rfl,deF h1]; rfl
     ·rw [show tyT 2=⟨#[82,83,65]⟩ from rfl,deF h2]; rfl
     ·rw [show tyT 3=⟨#[69,67]⟩ from rfl,deF h3]; rfl
     ·rw [show tyT 4=⟨#[79,75,80]⟩ from rfl,deF h4]; rfl
theorem bnd_cases (a:Int):(bndC a).1=0∨(((bndC a).1=1∨(bndC a).1=2∨(bndC a).1=3∨(bndC a).1=4)∧¬algS a=⟨#[]⟩):=by
 by_cases h:1≤a∧a≤12
 ·have:a=1∨a=2∨a=3∨a=4∨a=5∨a=6∨a=7∨a=8∨a=9∨a=10∨a=11∨a=12:=by omega
  rcases this with rfl | rfl | rfl | rfl | rfl | rfl | rfl | rfl | rfl | rfl | rfl | rfl <;> exact .inr ⟨by decide +kernel,by decide +kernel⟩
 ·refine .inl ?_;unfold bndC;rw [if_neg (by omega),if_neg (by omega),if_neg (by omega),if_neg (by omega),if_neg (by omega),if_neg (by omega),if_neg (by omega),if_neg (by omega),if_neg (by omega),if_neg (by omega),if_neg (by omega),if_neg (by omega)]
theorem entB_all {v:List Eng.Node} {p:Nat} (h:entB v p=true):(txtC v (memC v kKty p)).2.1=true∧(txtC v (memC v kKty p)).2.2=true∧(txtC v (memC v kKid p)).2.2=true∧(txtC v (memC v kUse p)).2.2=true∧(txtC v (memC v kAlg p)).2.2=true∧(opC v (memC v kOps p)).2.2=true:=by
 unfold entB at h;simp only [Bool.and_eq_true] at h;exact ⟨h.1.2.1,h.1.2.2,h.2.1,h.2.2.1,h.2.2.2.1,h.2.2.2.2⟩
theorem bind_says {v:List Eng.Node} (hv:v.length≤262144) {p e:Nat} (ht:Tree v p e) (h:entB v p=true) (a:Int):bindB (entE v p) a=(fitB v p a && (useA v p && (algA v p a && opsA v p))):=by
 obtain ⟨b1,b2,b3,b4,b5,b6⟩:=entB_all h;have hvt:=(val_text hv ht).2 kCrv;have hcrv:∀s,crvB (entE v p) s=qDt v kCrv p s:=fun s=>by
  unfold crvB qDt;show (((txtC (valC v p) (memC (valC v p) kCrv 0)).2.1 && (txtC (valC v p) (memC (valC v p) kCrv 0)).2.2) && decide ((txtC (valC v p) (memC (valC v p) kCrv 0)).1=s))=_;rw [hvt]
 have hkt:∀s,qDt v kKty p s=decide ((txtC v (memC v kKty p)).1=s):=fun s=>by
  unfold qDt;rw [b1,b2];rfl
 rcases bnd_cases a with h0 | ⟨h1,h2⟩
 ·unfold bindB fitB;rw [deT h0,Bool.true_or];rfl
 ·have hn0:¬(bndC a).1=0:=by omega
  have hrest:restB (entE v p) a=(useA v p && (algA v p a && opsA v p)):=by
   unfold restB useA algA qDt;rw [op_any v p b6,txt_has v _ b4,txt_has v _ b5,b4,b5,deF h2];show (!((((txtC v (memC v kUse p)).2.1 && !decide ((txtC v (memC v kUse p)).1=kSig)) || ((txtC v (memC v kAlg p)).2.1 && !decide ((txtC v (memC v kAlg p)).1=algS a))) || ((opC v (memC v kOps p)).2.1 && !decide (kVerify∈(opC v (memC v kOps p)).1))))=_
   cases (txtC v (memC v kUse p)).2.1 <;> cases decide ((txtC v (memC v kUse p)).1=kSig) <;> cases (txtC v (memC v kAlg p)).2.1 <;> cases decide ((txtC v (memC v kAlg p)).1=algS a) <;> cases ((opC v (memC v kOps p)).2.1 && !decide (kVerify∈(opC v (memC v kOps p)).1)) <;> rfl
  unfold bindB fitB;rw [deF hn0,Bool.false_or,cnF,hrest,hcrv,hkt];show (bif !decide (ktyC (txtC v (memC v kKty p)).1=(bndC a).1) then _ else _)=_;rw [kty_ty _ h1];cases decide ((txtC v (memC v kKty p)).1=tyT (bndC a).1) <;> cases decide ((bndC a).2=(⟨#[]⟩:BA)) <;> simp
def cntF (v:List Eng.Node) (kid:BA):List Nat→Int→Int→Int × Int
 | [],n,at_=>(n,at_)
 | p::r,n,at_=>if qDt v kKid p kid=true then cntF v kid r (n+1) p else cntF v kid r n at_
theorem just_loop {v:List Eng.Node} (hv:v.length≤262144) (kid:BA) {L:List Nat} (hL:L.length≤262144) (ht:∀p∈L,∃e,Tree v p e):∀(j i:Nat) (n at_:Int),i+j=L.length→0≤n→n≤i →
  zbm_p0 kid n at_ (i:Int) v (upN L)=some (cntF v kid (L.drop i) n at_)
 | 0,i,n,at_,h,h1,h2=>by
  rw [List.drop_eq_nil_of_le (by omega)];unfold zbm_p0;refine qAn ?_;unfold qDl;dsimp only;rw [qB1,deF (by omega),cnF];rfl
 | j+1,i,n,at_,h,h1,h2=>by
  have hi:i<L.length:=by omega
  have hd:L.drop i=L[i]::L.drop (i+1):=List.drop_eq_getElem_cons hi;obtain ⟨e,he⟩:=ht L[i] (List.getElem_mem hi);rw [hd];unfold cntF;cases hb:qDt v kKid L[i] kid with
  | true =>
   rw [if_pos rfl,←just_loop hv kid hL ht j (i+1) (n+1) (L[i]:Nat) (by omega) (by omega) (by omega)];unfold zbm_p0;refine qAv (y:=(n+1,((L[i]:Nat):Int),((i+1:Nat):Int))) ?_;unfold qDl;dsimp only;rw [qB1,deT (by omega),cnT,qAa (by omega),Int.toNat_natCast,qAa (by omega),qD7 hi,said_j hv he,obS,hb,cnT,qAa (by unfold qAj; omega),qAa (by omega),qAa (by omega)];exact qAa (by unfold qAj; omega) _
  | false =>
   rw [if_neg (by simp),←just_loop hv kid hL ht j (i+1) n at_ (by omega) h1 (by omega)];unfold zbm_p0;refine qAv (y:=(n,at_,((i+1:Nat):Int))) ?_;unfold qDl;dsimp only;rw [qB1,deT (by omega),cnT,qAa (by omega),Int.toNat_natCast,qAa (by omega),qD7 hi,said_j hv he,obS,hb,cnF];exact qAa (by unfold qAj; omega) _
theorem cnt_two {v:List Eng.Node} {kid:BA}:∀ {r:List Nat} {n at_:Int},1<n→1<(cntF v kid r n at_).1
 | [],n,at_,h=>h
 | p::r,n,at_,h=>by
  unfold cntF;split
  ·exact cnt_two (by omega)
  ·exact cnt_two h
theorem cnt_one {v:List Eng.Node} {kid:BA}:∀ {r:List Nat} {i:Nat} {q at_:Int},0≤q→(∀p∈r,isK kid (tupE (entE v p))=qDt v kKid p kid) →
  (cntF v kid r 1 at_=(1,at_)∧fndC kid (r.map fun p=>tupE (entE v p)) i q=some q)∨(1<(cntF v kid r 1 at_).1∧fndC kid (r.map fun p=>tupE (entE v p)) i q=none)
 | [],i,q,at_,h,hk=>.inl ⟨rfl,rfl⟩
 | p::r,i,q,at_,h,hk=>by
  have h1:=hk p List.mem_cons_self;rw [List.map_cons];unfold cntF fndC;rw [h1];cases qDt v kKid p kid with
  | true =>
   rw [if_pos rfl,if_pos rfl,if_pos h];exact .inr ⟨cnt_two (by omega),rfl⟩
  | false =>
   rw [if_neg (by simp),if_neg (by simp)];exact cnt_one h fun p hp=>hk p (List.mem_cons_of_mem _ hp)
theorem cnt_zero {v:List Eng.Node} {kid:BA}:∀ {r:List Nat} {i:Nat},(∀p∈r,isK kid (tupE (entE v p))=qDt v kKid p kid) →
  (cntF v kid r 0 (-1)=(0,-1)∧fndC kid (r.map fun p=>tupE (entE v p)) i (-1)=some (-1)) ∨
  (∃(j p:Nat),r[j]?=some p∧qDt v kKid p kid=true∧cntF v kid r 0 (-1)=(1,(p:Int))∧fndC kid (r.map fun p=>tupE (entE v p)) i (-1)=some ((i+j:Nat):Int)) ∨
  (1<(cntF v kid r 0 (-1)).1∧fndC kid (r.map fun p=>tupE (entE v p)) i (-1)=none)
 | [],i,hk=>.inl ⟨rfl,rfl⟩
 | p::r,i,hk=>by
  have h1:=hk p List.mem_cons_self;have hk':∀p∈r,isK kid (tupE (entE v p))=qDt v kKid p kid:=fun p hp=>hk p (List.mem_cons_of_mem _ hp)
  rw [List.map_cons];unfold cntF fndC;rw [h1];cases hb:qDt v kKid p kid with
  | true =>
   rw [if_pos rfl,if_pos rfl,if_neg (by omega)];rcases cnt_one (i:=i+1) (q:=(i:Int)) (at_:=(p:Int)) (by omega) hk' with ⟨g1,g2⟩ | ⟨g1,g2⟩
   ·exact .inr (.inl ⟨0,p,rfl,hb,g1,g2⟩)
   ·exact .inr (.inr ⟨g1,g2⟩)
  | false =>
   rw [if_neg (by simp),if_neg (by simp)];rcases cnt_zero (i:=i+1) hk' with g | ⟨j,q,g1,g2,g3,g4⟩ | g
   ·exact .inl g
   ·exact .inr (.inl ⟨j+1,q,g1,g2,g3,by rw [g4]; congr 1; omega⟩)
   ·exact .inr (.inr g)
theorem ents_map {v:List Eng.Node}:∀ {L:List Nat} {l:List qB8},entsC v L=some l→(∀p∈L,entB v p=true)∧l=L.map fun p=>tupE (entE v p)
 | [],l,h=>by cases h; exact ⟨fun p hp=>(by cases hp),rfl⟩
 | p::r,l,h=>by
  unfold entsC at h;split at h
  ·rename_i hb;obtain ⟨o,ho,rfl⟩:=Option.map_eq_some_iff.1 h;obtain ⟨h1,h2⟩:=ents_map ho;refine ⟨fun q hq=>?_,by rw [List.map_cons,←h2]⟩;rcases List.mem_cons.1 hq with rfl | hq
   ·exact hb
   ·exact h1 q hq
  ·cases h
theorem same_empty:zbr_s emptyE emptyE=some true:=by
 unfold zbr_s;simp only [decide_true,beq_self_eq_true,Bool.and_self,cnT];rw [same_texts _ (by decide),obS,cnT,same_nodes _ (by decide)];rfl
theorem keysetJust_law (doc kid:BA) (a:Int) (ha:a≤9223372036854775807):zbm_s doc kid a=some true:=by
 obtain ⟨p1,p2,p3⟩:=parse_j doc;unfold zbm_s;rw [awake_is,obS,Bool.not_true,cnF,p1,obS];by_cases hs:262144<doc.size
 ·have hk:keyC doc=([],10):=by unfold keyC; rw [if_pos hs]
  rw [hk];rfl
 ·rcases parseR_cases doc with ⟨v,h1,h2,h3,h4,h5,h6,h7⟩ | ⟨c,b,h1,h2⟩
  ·have hv:v.length≤262144:=by omega
   have hkC:keyC doc=(match parC v with
    | some l=>(l,0)
    | none=>([],100)):=by
    unfold keyC;rw [if_neg hs,h1];dsimp only;rw [if_pos rfl];rfl
   cases hpc:parC v with
   | none =>
    rw [hpc] at hkC;rw [hkC];rfl
   | some l =>
    rw [hpc] at hkC;have hkC:keyC doc=(l,0):=hkC;rw [hkC] at p2 p3 ⊢;have p2:l.length≤262144:=p2;have p3:∀x∈l,OkT x:=p3;dsimp only;obtain ⟨m1,m2⟩:=mem_j (by omega) h6 kKeys;rw [show ((0:Nat):Int)=0 from rfl] at m1;unfold parC at hpc;cases hm:memC v kKeys 0 with
    | none=>rw [hm] at hpc; cases hpc
    | some k =>
     rw [hm] at hpc m1;simp only at hpc;obtain ⟨ek,hek⟩:=m2 k hm;have hkl:=hek.lt;by_cases h6k:(v.getD k (ET.dft .node)).kind=6
     ·rw [if_pos h6k] at hpc;obtain ⟨k1,k3,k4⟩:=kids_j (by omega) hek;obtain ⟨hB,hl⟩:=ents_map hpc;have hll:l.length=(qBo v k).length:=by rw [hl,List.length_map]
      have hK:∀p∈qBo v k,isK kid (tupE (entE v p))=qDt v kKid p kid:=fun p hp=>by
       obtain ⟨b1,b2,b3,b4,b5,b6⟩:=entB_all (hB p hp);unfold isK qDt;rw [b3,Bool.and_true];rfl
      have hloop:=just_loop hv kid (L:=qBo v k) (by omega) k4 (qBo v k).length 0 0 (-1) (by omega) (by omega) (by omega);rw [List.drop_zero,show ((0:Nat):Int)=0 from rfl] at hloop;rw [deT rfl,Bool.not_true,cnF,p_Parse,obS,h1];dsimp only;rw [deT rfl,Bool.not_true,cnF,m1,obS,show memI (some k)=(k:Int) from rfl,qAa (fun _=>by omega),qAa (fun _=>by omega),qAa (fun _=>by omega),Int.toNat_natCast,deT h6k,deF (show ¬(k:Int)<0 by omega),Bool.not_true,Bool.or_self,cnF,k1,obS,qB1,hll,deT rfl,Bool.not_true,cnF,hloop,obS,find_j p2 p3,obS];rcases cnt_zero (v:=v) (kid:=kid) (i:=0) hK with ⟨g1,g2⟩ | ⟨j,p,g1,g2,g3,g4⟩ | ⟨g1,g2⟩
      ·have hf:finC l kid=(emptyE,103):=by
        unfold finC;rw [hl,g2];rfl
       rw [g1,hf];show ((zbr_s emptyE emptyE).bind fun r27=>some r27)=_;rw [same_empty];rfl
      ·obtain ⟨hj,hjp⟩:=List.getElem?_eq_some_iff.1 g1;have hpm:p∈qBo v k:=by rw [←hjp]; exact List.getElem_mem hj
       obtain ⟨e,he⟩:=k4 p hpm;have hle:=Trees.le he;have hb:=hB p hpm;obtain ⟨b1,b2,b3,b4,b5,b6⟩:=entB_all hb;have hg:untE (l.getD ((0+j:Nat):Int).toNat dftE)=entE v p:=by
        rw [Int.toNat_natCast,Nat.zero_add,hl,List.getD_eq_getElem?_getD,List.getElem?_map,g1];rfl
       have hlg:fndC kid l 0 (-1)=some ((0+j:Nat):Int):=by rw [hl]; exact g4
       have hf:finC l kid=(entE v p,0):=by
        unfold finC;rw [hlg];simp only;rw [if_neg (by omega),hg]
       rw [g3,hf];dsimp only;have hbe:=bhC_tree (by omega) he;have hvl:(entE v p).value.length=e - p:=by
        show (valC v p).length=_;unfold valC;rw [List.length_set,hbe,List.length_drop,List.length_take];omega
       have hkid:(entE v p).hasKid=true∧(entE v p).kid=kid:=by
        unfold qDt at g2;rw [Bool.and_eq_true,Bool.and_eq_true,decide_eq_true_eq] at g2;exact ⟨g2.1.1,g2.2⟩
       obtain ⟨ev,hev⟩:=(val_text hv he).1;rw [deF (show ¬(1:Int)=0 by omega),cnF,deF (show ¬(1:Int)<1 by omega),cnF,qDz (by omega) he,obS,qAa (fun _=>by unfold qAj; omega),hkid.1,hkid.2,deT rfl,deT rfl,hvl,deT (show ((e - p:Nat):Int)=(e:Int) - (p:Int) by omega)];simp only [Bool.not_true,Bool.or_self,cnF];rw [bind_j (by rw [hvl]; omega) (.inr ⟨ev,hev⟩) (texts_j hv he false).2 ha,obS,fits_j hv he,obS,allows_j hv he ha,obS];unfold bindC;rw [bind_says hv he hb a];cases fitB v p a <;> cases (useA v p && (algA v p a && opsA v p)) <;> rfl
      ·have hf:finC l kid=(emptyE,104):=by
        unfold finC;rw [hl,g2]
       rw [hf];have n0:¬(cntF v kid (qBo v k) 0 (-1)).1=0:=by omega
       rw [deF n0,cnF,deT g1,cnT];show ((zbr_s emptyE emptyE).bind fun r27=>some r27)=_;rw [same_empty];rfl
     ·rw [if_neg h6k] at hpc;cases hpc
  ·have hk:keyC doc=([],c):=by
    unfold keyC;rw [if_neg hs,h1];dsimp only;rw [if_neg h2]
   rw [hk];dsimp only;rw [deF h2,Bool.not_false,cnT];rfl
end Go.Proofs.YtnifdcmeffnpaaaDoor
namespace Go.Eng
open Go.RowKit
set_option linter.unusedVariables false
theorem reach_of {x:Nat} (h:decide (x≤reachBytes)=true):x≤140737488351232:=by
 have h2:=of_decide_eq_true h;exact h2
theorem size_of_weights {H:Type} {P:Program} {T:TypeId} {s:BA} (h:∀x∈(DataW.lit (.string s.data.toList):DataW H).weights P T,x≤140737488351232):s.size≤140737488351232:=by
 have h2:=h s.data.toList.length (by simp only [DataW.weights]; exact List.mem_singleton.2 rfl);rw [Array.length_toList] at h2;exact h2
theorem i64_of_wf {a:Int} (h:(Lit.int .i64 a).wf=true) : -9223372036854775808≤a∧a≤9223372036854775807:=by
 simp [Lit.wf,IntKind.min,IntKind.max,IntKind.signed,IntKind.bits] at h;exact h
structure LowB (w w':World):Prop where
 os:w'.os=w.os
 output:w'.output=w.output
 size:w.heap.size≤w'.heap.size
 block:∀k,k<w.heap.size→w'.heap[k]?=w.heap[k]?
theorem lowB_of_stays {w w':World} (h:Stays (fun _=>False) w w'):LowB w w':=⟨h.os,h.output,h.size,fun k hk=>h.block k hk id⟩
theorem LowB.frame {W w':World} (h:LowB W w') (may:MemPlace→Prop):W.keptBut w' may:=by
 refine ⟨h.os,h.output,fun i hi=>?_⟩;rw [h.block i hi];split <;> simp_all
theorem LowB.same {W w':World} (h:LowB W w') {p:MemPlace} (hp:p.block<W.heap.size):W.sameAt w' p:=by
 cases p with
 | cell b o=>exact World.cell?_of_block (w:=W) (h.block b hp)
 | map b=>exact h.block b hp
theorem LowB.trod {H:Type} {enc:TypeId × Value→H} {P:Program} {t:TypeId} (hl:laidOutB P=true) (hr:P.readableRec t=true) (hrow:t<P.types.size) {W W':World} {v:Value} {d:DataW H} {ps:List MemPlace}
  (h:DataW.Trod enc P W 0 (fun _=>true) true t v d ps) (hb:LowB W W') (hlt:∀x∈ps,x.block<W.heap.size) :
  DataW.Trod enc P W' 0 (fun b=>decide (b<W.heap.size)) true t v d ps :=
 WideElems.Trod_stays hl hr hrow h (fun x hx=>hb.same (hlt x hx)) (fun x hx=>by simpa using hlt x hx)
theorem callS {P:Program} {f:Nat} {C:CS} (h:qAl P f C) {args:List SV} {v:SV} (hc:C args [] (SV × List SB) (fun v hp'=>some (v,hp'))=some (v,[])) (hs:args.all SV.shut=true) (hv:v.shut=true) (w:World) (ht:tabOK noX w) (vs:List Value) (hvs:args.map (SV.den fun _=>undef)=vs) :
  Calls P f vs.toArray w fun e w'=>e=.returned (v.den fun _=>undef)∧LowB w w':=by
 have:=h.2 args [] v [] hc (fun v hv=>SV.shut_lt (List.all_eq_true.1 hs v hv) _) noX w (fun _=>undef) (HpSat.nil _ _ ht _);rw [hvs] at this;exact this.mono fun e w' ⟨ρ',_,_,a,_,_,b⟩=>⟨by rw [a,SV.shut_den hv ρ' fun _=>undef],lowB_of_stays b⟩
end Go.Eng
namespace Go.Proofs
open Go.Shelf
shelf_lay Lays.n260 Nm 260 at Tryd as Tryd.laysSlow
end Go.Proofs
namespace Go.Proofs.YtnifdcmeffnpaaaDoor
open Go.Eng Go.Shelf
set_option linter.unusedVariables false
theorem first_data:(Rows.laid_unicode_utf8_first:DataW Unit)=Lib.firstData:=by kernel_rfl
theorem accept_data:(Rows.laid_unicode_utf8_acceptRanges:DataW Unit)=Lib.acceptData:=by kernel_rfl
theorem cells_strs {H:Type} {enc:TypeId × Value→H} {P:Program} {w:World} {base:Nat} {sp:Nat→Bool} {held:Bool} {fuel:Nat} {t e:TypeId} {n:Nat} {cs:List Value} {zs:List (List UInt8)} {p:List MemPlace}
  (ht:P.underlying t=some (.array n e)) (he:P.underlying e=some .string) (hce:P.cellsOf e=1) (hct:P.cellsOf t=n)
  (h:DataW.trod enc P w base sp held fuel t cs=some (.agg (zs.map fun z=>.lit (.string z)),p)):cs=zs.map fun z=>Value.string ⟨z.toArray⟩:=by
 cases fuel with
 | zero=>simp [DataW.trod] at h
 | succ fuel =>
  simp only [DataW.trod,ht,hce,hct,Nat.mul_one] at h;split at h
  ·rename_i hl;obtain ⟨xs,hm,hx⟩:=Option.map_eq_some_iff.1 h;have hxs:xs.map (·.1)=zs.map fun z=>(DataW.lit (.string z):DataW H):=by
    have:=congrArg Prod.fst hx;simpa using this
   have hxl:xs.length=n:=by simpa using Lib.mapM_length hm
   have hzl:zs.length=n:=by
    have:=congrArg List.length hxs;simp at this;omega
   apply List.ext_getElem?;intro i;by_cases hi:i<n
   ·obtain ⟨b,hb,hf⟩:=Lib.mapM_at hm i i (by simp [hi]);obtain ⟨z,hc,rfl,_⟩:=DataW.trod_string he hf;have h1:cs[i]?=some (.string z):=by
     have:=congrArg (·[0]?) hc;simpa [List.getElem?_take,List.getElem?_drop] using this
    have h2:(xs.map (·.1))[i]?=some (DataW.lit (.string z.data.toList):DataW H):=by simp [hb]
    rw [hxs] at h2;simp only [List.getElem?_map,Option.map_eq_some_iff,DataW.lit.injEq,Lit.string.injEq] at h2;obtain ⟨z',hz',rfl⟩:=h2;simp only [h1,List.getElem?_map,hz',Option.map_some]
   ·rw [List.getElem?_eq_none (by omega),List.getElem?_eq_none (by simp; omega)]
  ·cases h
def namesZ:List (List UInt8):=[[],[72,83,50,53,54],[72,83,51,56,52],[72,83,53,49,50],[82,83,50,53,54],[82,83,51,56,52],[82,83,53,49,50],[80,83,50,53,54],[80,83,51,56,52],[80,83,53,49,50],[69,83,50,53,54],[69,83,51,56,52],[69,100,68,83,65]]
theorem names_cells {W:World} (h:Lib.VarReads Tryd.prog W "signet/keyset.names" Rows.laid_signet_keyset_names):∀k,k<13→W.cell? ⟨0,k,none⟩=some (.string (algAt k)):=by
 intro k hk;obtain ⟨g,t,cs,fuel,p,hg,hty,hvar,hd⟩:=h;have hg':Tryd.prog.globalNamed "signet/keyset.names" = some 0:=by kernel_rfl
 obtain rfl:=Option.some.inj (hg'.symm.trans hg);have hty':(Tryd.prog.globals[0]?).map (·.type)=some 92:=by kernel_rfl
 obtain rfl:=Option.some.inj (hty'.symm.trans hty);have hcs:=cells_strs (n:=13) (e:=9) (zs:=namesZ) (by kernel_rfl) (by kernel_rfl) (by kernel_rfl) (by kernel_rfl) hd;rw [World.var?_cell hg hvar k,←Array.getElem?_toList,hcs];match k,hk with
 | 0,_ | 1,_ | 2,_ | 3,_ | 4,_ | 5,_ | 6,_ | 7,_ | 8,_ | 9,_ | 10,_ | 11,_ | 12,_=>rfl
theorem utf8N_tabs {W:World} (h3:Lib.VarReads Tryd.prog W "unicode/utf8.first" Rows.laid_unicode_utf8_first) (h4:Lib.VarReads Tryd.prog W "unicode/utf8.acceptRanges" Rows.laid_unicode_utf8_acceptRanges) (h5:Lib.VarReads Tryd.prog W "signet/keyset.names" Rows.laid_signet_keyset_names):tabOK noX W:=by
 rw [first_data] at h3;rw [accept_data] at h4;exact ⟨utf8Tabs_of_reads Tryd.laysSlow ⟨by kernel_rfl,by kernel_rfl,by kernel_rfl,by kernel_rfl,by kernel_rfl,by kernel_rfl,by kernel_rfl⟩ h3 h4,names_cells h5,fun h=>h,fun h=>h,fun h=>h⟩
end Go.Proofs.YtnifdcmeffnpaaaDoor
namespace Go.Proofs.YtnifdcmeffnpaaaDoor
open Go.Eng
set_option linter.unusedVariables false
set_option linter.unusedSimpArgs false
theorem keysetJust_tabs {W:World} (h:laidMetH Tryd.prog Rows.keysetJustRow.laid W):tabOK noX W:=by
 have h':laidMet Tryd.prog Rows.keysetJustRow.laid W:=h;exact utf8N_tabs (Lib.laidMet.reads h' (List.mem_cons_of_mem _ (List.mem_cons_of_mem _ List.mem_cons_self))) (Lib.laidMet.reads h' List.mem_cons_self) (Lib.laidMet.reads h' (List.mem_cons_of_mem _ List.mem_cons_self))
theorem keysetJust_walk (s0 s1:BA) (a2:Int) (W:World) (h0:s0.size≤140737488351232) (h1:s1.size≤140737488351232) (h2 : -9223372036854775808≤a2∧a2≤9223372036854775807) (hT:tabOK noX W):Calls Tryd.prog 3 #[.string s0,.string s1,.int .i64 a2] W fun e w'=>e=.returned (.bool true)∧LowB W w':=by
 refine callS zbm_val (args:=[.c (.o (.val (.string s0))),.c (.o (.val (.string s1))),.c (.o (.val (.int .i64 a2)))]) (v:=.c (.o (.val (.bool true)))) ?_ rfl rfl W hT [.string s0,.string s1,.int .i64 a2] rfl;show ((zbm_s s0 s1 a2).bind fun r=>some ((.c (.o (.val (.bool r))),[]):SV × List SB))=_;rw [keysetJust_law s0 s1 a2 h2.2];rfl
end Go.Proofs.YtnifdcmeffnpaaaDoor
