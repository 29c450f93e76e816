/-
  Texts of a claim.
-/
import Derived.Test.YtnifdcmeffnpaaaDoorClone
import Derived.Test.YtnifdcmeffnpaaaDoorJK
namespace Go.Proofs.YtnifdcmeffnpaaaDoor
open Go.Eng
set_option linter.unusedVariables false
set_option linter.unusedSimpArgs false
theorem getD_str {l:List BA} {i:Nat} (h:i<l.length):l.getD i (ET.dft .str)=l[i]:=by simp [List.getD,h]
theorem index_loop (v:BA) (l:List BA) (hl:l.length≤3000000):∀(j i:Nat),i+j=l.length →
  (∃k:Nat,zcc_p0 v (l.length:Int) (i:Int) l=some (.inl (k:Int))∧v∈l.drop i)∨(zcc_p0 v (l.length:Int) (i:Int) l=some (.inr ())∧¬v∈l.drop i)
 | 0,i,h=>by
  refine .inr ⟨?_,?_⟩
  ·unfold zcc_p0;refine qAq ?_;unfold qDe;rw [deF (by omega),cnF]
  ·rw [List.drop_eq_nil_of_le (by omega)];exact fun h=>by cases h
 | j+1,i,h=>by
  have hi:i<l.length:=by omega
  have hd:l.drop i=l[i]::l.drop (i+1):=List.drop_eq_getElem_cons hi;by_cases he:v=l[i]
  ·refine .inl ⟨i,?_,?_⟩
   ·unfold zcc_p0;refine qAq ?_;unfold qDe;rw [deT (by omega),cnT,qAa (by omega),qAa (by omega),Int.toNat_natCast,getD_str hi,deT he,cnT]
   ·rw [hd,he]; exact List.mem_cons_self
  ·have hst:qDe v (l.length:Int) (i:Int) l=some (.inl ((i+1:Nat):Int)):=by
    unfold qDe;rw [deT (by omega),cnT,qAa (by omega),qAa (by omega),Int.toNat_natCast,getD_str hi,deF he,cnF];exact qAa (by unfold qAj; omega) _
   have hm:v∈l.drop i↔v∈l.drop (i+1):=by rw [hd,List.mem_cons]; simp [he]
   have ih:=index_loop v l hl j (i+1) (by omega);rw [hm];unfold zcc_p0 at ih ⊢;rw [qAy hst];exact ih
theorem contains_is (l:List BA) (hl:l.length≤3000000) (v:BA):zcb_s l v=some (decide (v∈l)):=by
 have h:=index_loop v l hl l.length 0 (by omega);rw [List.drop_zero,show ((0:Nat):Int)=0 from rfl] at h;unfold zcb_s zcc_s;rcases h with ⟨k,h,hm⟩ | ⟨h,hm⟩
 ·rw [h,obS,Sum.elim_inl,obS,deT (by omega),deT hm]
 ·rw [h,obS,Sum.elim_inr,obS,deF (by omega),deF hm]
theorem qEq.tree {v:List Eng.Node}:∀ {k a e:Nat} {L:List Nat},qEq v k a L e→∀p∈L,∃e',Tree v p e'
 | 0,a,e,L,h,p,hp=>by rw [h.1] at hp; cases hp
 | k+1,a,e,L,h,p,hp=>by
  obtain ⟨b,r,rfl,h1,h2⟩:=h;rcases List.mem_cons.1 hp with rfl | hp
  ·exact ⟨b,h1⟩
  ·exact h2.tree p hp
theorem Tree.lt {v:List Eng.Node} {a e:Nat} (h:Tree v a e):a<v.length:=by
 have:=Trees.le h;omega
theorem mem_findK {v:List Eng.Node} {key:BA}:∀ {l:List Nat} {p:Nat},findK v key l=some p→p∈l
 | [],p,h=>by cases h
 | q::r,p,h=>by
  unfold findK at h;split at h
  ·cases h; exact List.mem_cons_self
  ·exact List.mem_cons_of_mem _ (mem_findK h)
theorem upN_getD {L:List Nat} {i:Nat} (h:i<L.length):(upN L).getD i (ET.dft .i64)=((L[i]:Nat):Int):=by
 unfold upN;simp [List.getD,h]
def bhC (v:List Eng.Node) (a:Nat):Nat:=jbF v (v.length - a) 1 a
theorem bhC_tree {v:List Eng.Node} (hv:v.length≤2000000) {a e:Nat} (h:Tree v a e):bhC v a=e:=by
 have h1:=p_jBehind v hv (a:=a) (by have:=Trees.le h; omega);rw [qF1 hv h] at h1;simp only [snJ] at h1;unfold bhC;omega
def kidsN (v:List Eng.Node):Nat→Nat→List Nat
 | 0,_=>[]
 | k+1,a=>a::kidsN v k (bhC v a)
theorem kidsN_places {v:List Eng.Node} (hv:v.length≤2000000):∀ {k a e:Nat} {l:List Nat},qEq v k a l e→kidsN v k a=l
 | 0,a,e,l,h=>h.1.symm
 | k+1,a,e,l,h=>by
  obtain ⟨b,r,rfl,h1,h2⟩:=h;unfold kidsN;rw [bhC_tree hv h1,kidsN_places hv h2]
def qEx (v:List Eng.Node) (a:Nat):List Nat:=kidsN v (v.getD a (ET.dft .node)).kids.toNat (a+1)
def memC (v:List Eng.Node) (key:BA) (a:Nat):Option Nat:=if (v.getD a (ET.dft .node)).kind=7 then findK v key (qEx v a) else none
theorem tree_places {v:List Eng.Node} (hv:v.length≤2000000) {a e:Nat} (h:Tree v a e):∃nd,v[a]?=some nd∧v.getD a (ET.dft .node)=nd∧0≤nd.kids∧Trees v nd.kids.toNat (a+1) e∧qEq v nd.kids.toNat (a+1) (qEx v a) e:=by
 obtain ⟨nd,h1,h2,h3⟩:=h.node;obtain ⟨L,hL⟩:=h3.places;refine ⟨nd,h1,nd_get h1,h2,h3,?_⟩;unfold qEx;rw [nd_get h1,kidsN_places hv hL];exact hL
theorem mem_j {v:List Eng.Node} (hv:v.length≤2000000) {a e:Nat} (h:Tree v a e) (key:BA):zaj_s v (a:Int) key=some (memI (memC v key a))∧∀p,memC v key a=some p→∃e',Tree v p e':=by
 obtain ⟨nd,h1,h2,h3,h4,h5⟩:=tree_places hv h;have:=j_member hv h1 h3 h4 h5 key;unfold memC;rw [this,h2];by_cases h7:nd.kind=7
 ·rw [if_pos h7,if_pos h7];exact ⟨rfl,fun p hp=>h5.tree p (mem_findK hp)⟩
 ·rw [if_neg h7,if_neg h7];exact ⟨rfl,fun p hp=>by cases hp⟩
theorem kids_j {v:List Eng.Node} (hv:v.length≤2000000) {a e:Nat} (h:Tree v a e):zai_s v (a:Int)=some (upN (qEx v a))∧(qEx v a).length≤v.length∧∀p∈qEx v a,∃e',Tree v p e':=by
 obtain ⟨nd,h1,h2,h3,h4,h5⟩:=tree_places hv h;have l1:=h4.le;exact ⟨j_kids hv h1 h3 h4 h5,by rw [h5.len]; omega,h5.tree⟩
def txtC (v:List Eng.Node):Option Nat→BA × Bool × Bool
 | none=>(⟨#[]⟩,false,true)
 | some p=>if (v.getD p (ET.dft .node)).kind=5 then ((v.getD p (ET.dft .node)).text,true,true) else (⟨#[]⟩,true,false)
theorem text_j {v:List Eng.Node} (hv:v.length≤2000000) {a e:Nat} (h:Tree v a e) (key:BA) (bad:Bool) :
  zbr_s ⟨v,(a:Int),bad⟩ key=some (⟨v,(a:Int),bad || !(txtC v (memC v key a)).2.2⟩,(txtC v (memC v key a)).1,(txtC v (memC v key a)).2.1 && (txtC v (memC v key a)).2.2):=by
 obtain ⟨m1,m2⟩:=mem_j hv h key;unfold zbr_s;dsimp only;rw [m1,obS];cases hm:memC v key a with
 | none =>
  rw [show memI none=(-1:Int) from rfl,deT (by omega),cnT];cases bad <;> rfl
 | some p =>
  obtain ⟨e',he'⟩:=m2 p hm;have hl:=he'.lt;rw [show memI (some p)=(p:Int) from rfl,show txtC v (some p)=(if (v.getD p (ET.dft .node)).kind=5 then ((v.getD p (ET.dft .node)).text,true,true) else (⟨#[]⟩,true,false)) from rfl];by_cases h5:(v.getD p (ET.dft .node)).kind=5
  ·rw [deF (by omega),cnF,Int.toNat_natCast,qAa (by omega),qAa (by omega),qAa (by omega),deT h5,Bool.not_true,cnF,qAa (by omega),qAa (by omega),qAa (by omega),if_pos h5];cases bad <;> rfl
  ·rw [deF (by omega),cnF,Int.toNat_natCast,qAa (by omega),qAa (by omega),qAa (by omega),deF h5,Bool.not_false,cnT,if_neg h5];cases bad <;> rfl
def opsV (v:List Eng.Node):List Nat→List BA→Option (List BA)
 | [],out=>some out
 | p::r,out=>if (v.getD p (ET.dft .node)).kind=5∧¬(v.getD p (ET.dft .node)).text∈out then opsV v r (out++[(v.getD p (ET.dft .node)).text]) else none
theorem opsV_len {v:List Eng.Node}:∀ {l:List Nat} {out o:List BA},opsV v l out=some o→o.length=out.length+l.length
 | [],out,o,h=>by cases h; rfl
 | p::r,out,o,h=>by
  unfold opsV at h;split at h
  ·rw [opsV_len h]; simp; omega
  ·cases h
theorem j_ops {v:List Eng.Node} {L:List Nat} (hL:L.length≤262144) (hp:∀p∈L,p<v.length):∀(j i:Nat) (out:List BA),i+j=L.length→out.length=i →
  zbs_p0 (L.length:Int) (i:Int) v out (upN L)=some (match opsV v (L.drop i) out with | none=>.inl (false,true,[]) | some o=>.inr o)
 | 0,i,out,h,ho=>by
  rw [List.drop_eq_nil_of_le (by omega)];unfold zbs_p0;refine qAq ?_;unfold qDb;dsimp only;rw [deF (by omega),cnF];rfl
 | j+1,i,out,h,ho=>by
  have hi:i<L.length:=by omega
  have hd:L.drop i=L[i]::L.drop (i+1):=List.drop_eq_getElem_cons hi;have hlt:=hp L[i] (List.getElem_mem hi);rw [hd];unfold opsV;by_cases h5:(v.getD L[i] (ET.dft .node)).kind=5
  ·by_cases hm:(v.getD L[i] (ET.dft .node)).text∈out
   ·rw [if_neg (fun h=>h.2 hm)];unfold zbs_p0;refine qAq ?_;unfold qDb;dsimp only;rw [deT (by omega),cnT,qAa (by rw [qDw]; omega),Int.toNat_natCast,qAa (by rw [qDw]; omega),upN_getD hi,Int.toNat_natCast,qAa (by omega),qAa (by omega),qAa (by omega),deT h5,Bool.not_true,qAa (fun _=>by omega),qAa (fun _=>by omega),qAa (fun _=>by omega),cnF,contains_is out (by omega),obS,deT hm,cnT]
   ·rw [if_pos ⟨h5,hm⟩];have ih:=j_ops hL hp j (i+1) (out++[(v.getD L[i] (ET.dft .node)).text]) (by omega) (by simp [ho]);rw [←ih];unfold zbs_p0;refine qAy (y:=(((i+1:Nat):Int),out++[(v.getD L[i] (ET.dft .node)).text])) ?_;unfold qDb;dsimp only;rw [deT (by omega),cnT,qAa (by rw [qDw]; omega),Int.toNat_natCast,qAa (by rw [qDw]; omega),upN_getD hi,Int.toNat_natCast,qAa (by omega),qAa (by omega),qAa (by omega),deT h5,Bool.not_true,qAa (fun _=>by omega),qAa (fun _=>by omega),qAa (fun _=>by omega),cnF,contains_is out (by omega),obS,deF hm,cnF,qAa (by omega),qAa (by omega),qAa (by omega),qAa (by rw [List.length_singleton]; omega)];exact qAa (by unfold qAj; omega) _
  ·rw [if_neg (fun h=>h5 h.1)];unfold zbs_p0;refine qAq ?_;unfold qDb;dsimp only;rw [deT (by omega),cnT,qAa (by rw [qDw]; omega),Int.toNat_natCast,qAa (by rw [qDw]; omega),upN_getD hi,Int.toNat_natCast,qAa (by omega),qAa (by omega),qAa (by omega),deF h5,Bool.not_false,qAa (fun h=>by cases h),qAa (fun h=>by cases h),qAa (fun h=>by cases h),cnT]
def opC (v:List Eng.Node):Option Nat→List BA × Bool × Bool
 | none=>([],false,true)
 | some p=>if (v.getD p (ET.dft .node)).kind=6 then (match opsV v (qEx v p) [] with
  | none=>([],true,false)
  | some o=>(o,true,true)) else ([],true,false)
abbrev kOps:BA:=⟨#[107,101,121,95,111,112,115]⟩
theorem texts_j {v:List Eng.Node} (hv:v.length≤262144) {a e:Nat} (h:Tree v a e) (bad:Bool) :
  zbs_s ⟨v,(a:Int),bad⟩ kOps=some (⟨v,(a:Int),bad || !(opC v (memC v kOps a)).2.2⟩,(opC v (memC v kOps a)).1,(opC v (memC v kOps a)).2.1 && (opC v (memC v kOps a)).2.2)∧(opC v (memC v kOps a)).1.length≤262144:=by
 obtain ⟨m1,m2⟩:=mem_j (by omega) h kOps;unfold zbs_s;dsimp only;rw [m1,obS];cases hm:memC v kOps a with
 | none =>
  refine ⟨?_,by unfold opC; simp⟩;rw [show memI none=(-1:Int) from rfl,deT (by omega),cnT];cases bad <;> rfl
 | some p =>
  obtain ⟨e',he'⟩:=m2 p hm;have hl:=he'.lt;rw [show memI (some p)=(p:Int) from rfl,show opC v (some p)=(if (v.getD p (ET.dft .node)).kind=6 then (match opsV v (qEx v p) [] with | none=>([],true,false) | some o=>(o,true,true)) else ([],true,false)) from rfl]
  by_cases h6:(v.getD p (ET.dft .node)).kind=6
  ·obtain ⟨k1,k3,k4⟩:=kids_j (by omega) he';have hin:∀q∈qEx v p,q<v.length:=fun q hq=>by
    obtain ⟨e2,h2⟩:=k4 q hq;exact h2.lt
   have ej:=j_ops (v:=v) (L:=qEx v p) (by omega) hin (qEx v p).length 0 [] (by omega) rfl;rw [List.drop_zero,show ((0:Nat):Int)=0 from rfl] at ej;rw [if_pos h6];cases ho:opsV v (qEx v p) [] with
   | none =>
    rw [ho] at ej;refine ⟨?_,by simp⟩;rw [deF (by omega),cnF,Int.toNat_natCast,qAa (by omega),qAa (by omega),qAa (by omega),deT h6,Bool.not_true,cnF,k1,obS,qDw,ej];cases bad <;> rfl
   | some o =>
    rw [ho] at ej;refine ⟨?_,by show o.length≤_; rw [opsV_len ho,List.length_nil]; omega⟩;rw [deF (by omega),cnF,Int.toNat_natCast,qAa (by omega),qAa (by omega),qAa (by omega),deT h6,Bool.not_true,cnF,k1,obS,qDw,ej];cases bad <;> rfl
  ·rw [if_neg h6];refine ⟨?_,by simp⟩;rw [deF (by omega),cnF,Int.toNat_natCast,qAa (by omega),qAa (by omega),qAa (by omega),deF h6,Bool.not_false,cnT];cases bad <;> rfl
def ktyC (s:BA):Int:=if s=⟨#[111,99,116]⟩ then 1 else if s=⟨#[82,83,65]⟩ then 2 else if s=⟨#[69,67]⟩ then 3 else if s=⟨#[79,75,80]⟩ then 4 else 0
theorem kty_j (s:BA):zbq_s s=some (ktyC s):=by
 unfold zbq_s ktyC;by_cases h1:s=⟨#[111,99,116]⟩
 ·rw [deT h1,cnT,if_pos h1]
 ·by_cases h2:s=⟨#[82,83,65]⟩
  ·rw [deF h1,cnF,deT h2,cnT,if_neg h1,if_pos h2]
  ·by_cases h3:s=⟨#[69,67]⟩
   ·rw [deF h1,cnF,deF h2,cnF,deT h3,cnT,if_neg h1,if_neg h2,if_pos h3]
   ·by_cases h4:s=⟨#[79,75,80]⟩
    ·rw [deF h1,cnF,deF h2,cnF,deF h3,cnF,deT h4,cnT,if_neg h1,if_neg h2,if_neg h3,if_pos h4]
    ·rw [deF h1,cnF,deF h2,cnF,deF h3,cnF,deF h4,cnF,if_neg h1,if_neg h2,if_neg h3,if_neg h4]
def emptyE:qHj:=⟨[],(0:Int),(⟨#[]⟩:BA),false,(⟨#[]⟩:BA),false,(⟨#[]⟩:BA),false,[],false⟩
def OkE (e:qHj):Prop:=(0<e.value.length∧e.value.length≤262144)∧e.ops.length≤262144
abbrev kKty:BA:=⟨#[107,116,121]⟩
abbrev kKid:BA:=⟨#[107,105,100]⟩
abbrev kUse:BA:=⟨#[117,115,101]⟩
abbrev kAlg:BA:=⟨#[97,108,103]⟩
abbrev kKeys:BA:=⟨#[107,101,121,115]⟩
def clrN (n:Eng.Node):Eng.Node:=⟨n.kind,⟨#[]⟩,n.text,n.whole,n.int,n.kids⟩
def valC (v:List Eng.Node) (a:Nat):List Eng.Node:=((v.take (bhC v a)).drop a).set 0 (clrN (((v.take (bhC v a)).drop a).getD 0 (ET.dft .node)))
def entE (v:List Eng.Node) (a:Nat):qHj:=⟨valC v a,ktyC (txtC v (memC v kKty a)).1,(txtC v (memC v kKid a)).1,(txtC v (memC v kKid a)).2.1,(txtC v (memC v kUse a)).1,(txtC v (memC v kUse a)).2.1,(txtC v (memC v kAlg a)).1,(txtC v (memC v kAlg a)).2.1,(opC v (memC v kOps a)).1,(opC v (memC v kOps a)).2.1⟩
def entB (v:List Eng.Node) (a:Nat):Bool:=decide ((v.getD a (ET.dft .node)).kind=7) && ((txtC v (memC v kKty a)).2.1 && (txtC v (memC v kKty a)).2.2) && ((txtC v (memC v kKid a)).2.2 && ((txtC v (memC v kUse a)).2.2 && ((txtC v (memC v kAlg a)).2.2 && (opC v (memC v kOps a)).2.2)))
theorem entry_j {v:List Eng.Node} (hv:v.length≤262144) {a e:Nat} (h:Tree v a e):zbp_s v (a:Int)=some (if entB v a then (entE v a,true) else (emptyE,false))∧OkE (entE v a):=by
 have hl:=h.lt;have hle:=Trees.le h;have hbe:=bhC_tree (by omega) h;have hlen:((v.take e).drop a).length=e - a:=by rw [List.length_drop,List.length_take]; omega
 refine ⟨?_,⟨?_,?_⟩,(texts_j hv h false).2⟩
 ·unfold zbp_s entB;simp only [Int.toNat_natCast];rw [qAa (by omega),qAa (by omega),qAa (by omega)];cases decide ((v.getD a (ET.dft .node)).kind=7) with
  | false=>rfl
  | true =>
   rw [Bool.not_true,cnF,text_j (by omega) h,obS];dsimp only;cases hc:((txtC v (memC v kKty a)).2.1 && (txtC v (memC v kKty a)).2.2) with
   | false=>rfl
   | true =>
    have hc2:(txtC v (memC v kKty a)).2.2=true:=by rw [Bool.and_eq_true] at hc; exact hc.2
    rw [Bool.not_true,cnF,kty_j,obS,hc2,text_j (by omega) h,obS];dsimp only;rw [text_j (by omega) h,obS];dsimp only;rw [text_j (by omega) h,obS];dsimp only;rw [(texts_j hv h _).1,obS];dsimp only;have hb:(((((false || !true) || !(txtC v (memC v kKid a)).2.2) || !(txtC v (memC v kUse a)).2.2) || !(txtC v (memC v kAlg a)).2.2) || !(opC v (memC v kOps a)).2.2)=!((txtC v (memC v kKid a)).2.2 && ((txtC v (memC v kUse a)).2.2 && ((txtC v (memC v kAlg a)).2.2 && (opC v (memC v kOps a)).2.2))):=by
     cases (txtC v (memC v kKid a)).2.2 <;> cases (txtC v (memC v kUse a)).2.2 <;> cases (txtC v (memC v kAlg a)).2.2 <;> cases (opC v (memC v kOps a)).2.2 <;> rfl
    rw [hb];cases hd:((txtC v (memC v kKid a)).2.2 && ((txtC v (memC v kUse a)).2.2 && ((txtC v (memC v kAlg a)).2.2 && (opC v (memC v kOps a)).2.2))) with
    | false=>rfl
    | true =>
     rw [Bool.and_eq_true,Bool.and_eq_true,Bool.and_eq_true] at hd;obtain ⟨d1,d2,d3,d4⟩:=hd;rw [Bool.not_true,cnF,qF1 (by omega) h,obS,qAa (by omega),Int.toNat_natCast];unfold zbz_s;rw [qAa (by omega),qAa (by rw [List.length_nil]; omega),List.nil_append,obS,qAa (by omega),qAa (by omega),qAa (by omega),d1,d2,d3,d4];unfold entE valC;rw [hbe];simp only [Bool.and_true];rfl
 ·show 0<(valC v a).length;unfold valC;rw [List.length_set,hbe];omega
 ·show (valC v a).length≤_;unfold valC;rw [List.length_set,hbe];omega
abbrev qCi:Type:=(List Eng.Node) × Int × BA × Bool × BA × Bool × BA × Bool × (List BA) × Bool × Unit
def OkT (e:qCi):Prop:=(0<e.1.length∧e.1.length≤262144)∧e.2.2.2.2.2.2.2.2.1.length≤262144
def tupE (x:qHj):qCi:=(x.value,x.kty,x.kid,x.hasKid,x.use,x.hasUse,x.alg,x.hasAlg,x.ops,x.hasOps,())
def untE (x:qCi):qHj:=⟨x.1,x.2.1,x.2.2.1,x.2.2.2.1,x.2.2.2.2.1,x.2.2.2.2.2.1,x.2.2.2.2.2.2.1,x.2.2.2.2.2.2.2.1,x.2.2.2.2.2.2.2.2.1,x.2.2.2.2.2.2.2.2.2.1⟩
def entsC (v:List Eng.Node):List Nat→Option (List qCi)
 | []=>some []
 | p::r=>if entB v p then (entsC v r).map (tupE (entE v p) :: ·) else none
theorem loop_j {v:List Eng.Node} (hv:v.length≤262144) {L:List Nat} (hL:L.length≤262144) (ht:∀p∈L,∃e,Tree v p e):∀(j i:Nat) (out:List qCi),i+j=L.length→out.length=i →
  zbn_p0 (L.length:Int) (i:Int) v out (upN L)=some (match entsC v (L.drop i) with | none=>.inl (100,[]) | some o=>.inr (out++o))
 | 0,i,out,h,ho=>by
  rw [List.drop_eq_nil_of_le (by omega)];unfold zbn_p0;refine qAq ?_;unfold qD5;dsimp only;rw [deF (by omega),cnF];show some (Sum.inr (Sum.inr out))=some (Sum.inr (Sum.inr (out++[])));rw [List.append_nil]
 | j+1,i,out,h,ho=>by
  have hi:i<L.length:=by omega
  have hd:L.drop i=L[i]::L.drop (i+1):=List.drop_eq_getElem_cons hi;obtain ⟨e,he⟩:=ht L[i] (List.getElem_mem hi);have q1:=(entry_j hv he).1;rw [hd];unfold entsC;by_cases hb:entB v L[i]=true
  ·rw [if_pos hb] at q1 ⊢;have ih:=loop_j hv hL ht j (i+1) (out++[tupE (entE v L[i])]) (by omega) (by simp [ho]);have e2:(match (entsC v (L.drop (i+1))).map (tupE (entE v L[i]) :: ·) with | none=>(.inl (100,[]):(Int × List qCi) ⊕ List qCi) | some o=>.inr (out++o))=(match entsC v (L.drop (i+1)) with | none=>.inl (100,[]) | some o=>.inr ((out++[tupE (entE v L[i])])++o)):=by
    cases entsC v (L.drop (i+1)) with
    | none=>rfl
    | some o=>simp
   rw [e2,←ih];unfold zbn_p0;refine qAy (y:=(((i+1:Nat):Int),out++[tupE (entE v L[i])])) ?_;unfold qD5;dsimp only;rw [deT (by omega),cnT,qAa (by rw [qDw]; omega),Int.toNat_natCast,qAa (by rw [qDw]; omega),upN_getD hi,q1,obS];dsimp only;rw [Bool.not_true,cnF,qAa (by rw [List.length_singleton]; omega)];exact qAa (by unfold qAj; omega) _
  ·rw [if_neg hb] at q1 ⊢;unfold zbn_p0;refine qAq ?_;unfold qD5;dsimp only;rw [deT (by omega),cnT,qAa (by rw [qDw]; omega),Int.toNat_natCast,qAa (by rw [qDw]; omega),upN_getD hi,q1,obS];rfl
def parC (v:List Eng.Node):Option (List qCi):=match memC v kKeys 0 with
 | none=>none
 | some k=>if (v.getD k (ET.dft .node)).kind=6 then entsC v (qEx v k) else none
theorem entsC_ok {v:List Eng.Node} (hv:v.length≤262144):∀ {L:List Nat} {l:List qCi},(∀p∈L,∃e,Tree v p e)→entsC v L=some l→l.length=L.length∧∀x∈l,OkT x
 | [],l,ht,h=>by cases h; exact ⟨rfl,fun x hx=>by cases hx⟩
 | p::r,l,ht,h=>by
  unfold entsC at h;split at h
  ·obtain ⟨o,ho,rfl⟩:=Option.map_eq_some_iff.1 h;obtain ⟨h1,h2⟩:=entsC_ok hv (fun q hq=>ht q (List.mem_cons_of_mem _ hq)) ho;obtain ⟨e,he⟩:=ht p List.mem_cons_self;refine ⟨by simp [h1],fun x hx=>?_⟩;rcases List.mem_cons.1 hx with rfl | hx
   ·exact (entry_j hv he).2
   ·exact h2 x hx
  ·cases h
theorem parC_ok {v:List Eng.Node} (hv:v.length≤262144) (ht:Tree v 0 v.length) {l:List qCi} (h:parC v=some l):l.length≤262144∧∀x∈l,OkT x:=by
 obtain ⟨m1,m2⟩:=mem_j (by omega) ht kKeys;unfold parC at h;cases hm:memC v kKeys 0 with
 | none=>rw [hm] at h; cases h
 | some k =>
  rw [hm] at h;simp only at h;obtain ⟨e,he⟩:=m2 k hm;obtain ⟨k1,k3,k4⟩:=kids_j (by omega) he;split at h
  ·obtain ⟨h1,h2⟩:=entsC_ok hv k4 h;exact ⟨by omega,h2⟩
  ·cases h
noncomputable def keyC (doc:BA):List qCi × Int:=if 262144<doc.size then ([],10) else match parseR doc with
 | (v,c,_)=>if c=0 then (match parC v with
  | some l=>(l,0)
  | none=>([],100)) else ([],c)
theorem parse_j (doc:BA):zbn_s doc=some (keyC doc)∧(keyC doc).1.length≤262144∧∀x∈(keyC doc).1,OkT x:=by
 unfold zbn_s keyC;rw [p_Parse,obS];by_cases hs:262144<doc.size
 ·rw [deT (by omega),cnT,if_pos hs];exact ⟨rfl,by simp,fun x hx=>by cases hx⟩
 ·rw [deF (by omega),cnF,if_neg hs];rcases parseR_cases doc with ⟨v,hp,_,_,hne,hlen,ht,_⟩ | ⟨c,b,hp,hc⟩
  ·rw [hp];dsimp only;rw [deT rfl,Bool.not_true,cnF,if_pos rfl];have hv:v.length≤262144:=by omega
   obtain ⟨m1,m2⟩:=mem_j (by omega) ht kKeys;rw [show ((0:Nat):Int)=0 from rfl] at m1;rw [m1,obS];have hpo:∀ {l:List qCi},parC v=some l→l.length≤262144∧∀x∈l,OkT x:=fun h=>parC_ok hv ht h
   have fail:∀(x:Int) (hx:x = -1∨∃p:Nat,x=p∧p<v.length∧(v.getD p (ET.dft .node)).kind≠6) (f:Option (List qCi × Int)),(gd ((decide (x<0))=false→0≤x∧x<v.length) <| gd ((decide (x<0))=false→(Int.toNat x)<v.length) <| gd ((decide (x<0))=false→(Int.toNat x)<v.length) <| bif ((decide (x<0)) || (!decide (((v.getD (Int.toNat x) (ET.dft .node)).kind)=(6:Int)))) then some ([],(100:Int)) else f)=some ([],100):=fun x hx f=>by
    rcases hx with rfl | ⟨p,rfl,hp,h6⟩
    ·rw [qAa (fun h=>by simp at h),qAa (fun h=>by simp at h),qAa (fun h=>by simp at h),deT (by omega),Bool.true_or,cnT]
    ·rw [qAa (fun _=>by omega),qAa (fun _=>by omega),qAa (fun _=>by omega),Int.toNat_natCast,deF h6,Bool.not_false,Bool.or_true,cnT]
   unfold parC at hpo ⊢;cases hm:memC v kKeys 0 with
   | none=>exact ⟨fail (-1) (.inl rfl) _,by simp,fun x hx=>by cases hx⟩
   | some k =>
    obtain ⟨e,he⟩:=m2 k hm;have hkl:=he.lt;rw [hm] at hpo;simp only at hpo ⊢;by_cases h6:(v.getD k (ET.dft .node)).kind=6
    ·rw [if_pos h6] at hpo ⊢;obtain ⟨k1,k3,k4⟩:=kids_j (by omega) he;have hj:=loop_j hv (L:=qEx v k) (by omega) k4 (qEx v k).length 0 [] (by omega) rfl;rw [List.drop_zero,show ((0:Nat):Int)=0 from rfl] at hj;have e1:memI (some k)=(k:Int):=rfl;rw [e1,qAa (fun _=>by omega),qAa (fun _=>by omega),qAa (fun _=>by omega),Int.toNat_natCast,deT h6,deF (show ¬(k:Int)<0 by omega),Bool.not_true,Bool.or_self,cnF,k1,obS,qDw,hj];cases hent:entsC v (qEx v k) with
     | none=>exact ⟨rfl,by simp,fun x hx=>by cases hx⟩
     | some o =>
      obtain ⟨q1,q2⟩:=hpo hent;exact ⟨rfl,q1,q2⟩
    ·rw [if_neg h6];exact ⟨fail (k:Int) (.inr ⟨k,rfl,hkl,h6⟩) _,by simp,fun x hx=>by cases hx⟩
  ·rw [hp];dsimp only;rw [deF hc,Bool.not_false,cnT,if_neg hc];exact ⟨rfl,by simp,fun x hx=>by cases hx⟩
def isK (kid:BA) (x:qCi):Bool:=x.2.2.2.1 && decide (x.2.2.1=kid)
def fndC (kid:BA):List qCi→Nat→Int→Option Int
 | [],_,f=>some f
 | x::r,i,f=>if isK kid x then (if 0≤f then none else fndC kid r (i+1) i) else fndC kid r (i+1) f
abbrev dftE:qCi:=NT.dft [.rw .node,.int .i64,.str,.bool,.str,.bool,.str,.bool,.rw .str,.bool]
theorem fndC_range {kid:BA}:∀ {l:List qCi} {i:Nat} {f g:Int},fndC kid l i f=some g → -1≤f→f<i → -1≤g∧g<(i+l.length:Nat)
 | [],i,f,g,h,h1,h2=>by
  cases h;exact ⟨h1,by simp only [List.length_nil]; omega⟩
 | x::r,i,f,g,h,h1,h2=>by
  unfold fndC at h;split at h
  ·split at h
   ·cases h
   ·obtain ⟨q1,q2⟩:=fndC_range h (by omega) (by omega);exact ⟨q1,by simp only [List.length_cons]; omega⟩
  ·obtain ⟨q1,q2⟩:=fndC_range h h1 (by omega);exact ⟨q1,by simp only [List.length_cons]; omega⟩
theorem find_loop (kid:BA) {l:List qCi} (hl:l.length≤262144):∀(j i:Nat) (f:Int),i+j=l.length →
  zbm_p0 kid f (l.length:Int) (i:Int) l=some (match fndC kid (l.drop i) i f with
   | none=>.inl ((104:Int),(0:Int),(⟨#[]⟩:BA),false,(⟨#[]⟩:BA),false,(⟨#[]⟩:BA),false,false,[],[])
   | some g=>.inr g)
 | 0,i,f,h=>by
  rw [List.drop_eq_nil_of_le (by omega)];unfold zbm_p0;refine qAq ?_;unfold qDd;dsimp only;rw [deF (by omega),cnF];rfl
 | j+1,i,f,h=>by
  have hi:i<l.length:=by omega
  have hd:l.drop i=l[i]::l.drop (i+1):=List.drop_eq_getElem_cons hi;have hg:l.getD i dftE=l[i]:=by simp [List.getD,hi]
  rw [hd];unfold fndC;have hk:((!(l[i]).2.2.2.1) || (!decide ((l[i]).2.2.1=kid)))=!isK kid l[i]:=by
   unfold isK;rw [Bool.not_and]
  cases hb:isK kid l[i] with
  | false =>
   rw [if_neg (by simp),←find_loop kid hl j (i+1) f (by omega)];unfold zbm_p0;refine qAy (y:=(f,((i+1:Nat):Int))) ?_;unfold qDd;dsimp only;rw [deT (by omega),cnT,qAa (by omega),Int.toNat_natCast,qAa (by omega),hg,hk,hb,Bool.not_false,cnT];exact qAa (by unfold qAj; omega) _
  | true =>
   rw [if_pos rfl];by_cases hf:0≤f
   ·rw [if_pos hf];unfold zbm_p0;refine qAq ?_;unfold qDd;dsimp only;rw [deT (by omega),cnT,qAa (by omega),Int.toNat_natCast,qAa (by omega),hg,hk,hb,Bool.not_true,cnF,deT hf,cnT]
   ·rw [if_neg hf,←find_loop kid hl j (i+1) i (by omega)];unfold zbm_p0;refine qAy (y:=((i:Int),((i+1:Nat):Int))) ?_;unfold qDd;dsimp only;rw [deT (by omega),cnT,qAa (by omega),Int.toNat_natCast,qAa (by omega),hg,hk,hb,Bool.not_true,cnF,deF hf,cnF];exact qAa (by unfold qAj; omega) _
def finC (l:List qCi) (kid:BA):qHj × Int:=match fndC kid l 0 (-1) with
 | none=>(emptyE,104)
 | some f=>if f<0 then (emptyE,103) else (untE (l.getD f.toNat dftE),0)
theorem find_j {l:List qCi} (hl:l.length≤262144) (hk:∀x∈l,OkT x) (kid:BA):zbm_s l kid=some (finC l kid):=by
 have h:=find_loop kid hl l.length 0 (-1) (by omega);rw [List.drop_zero,show ((0:Nat):Int)=0 from rfl] at h;unfold zbm_s finC;rw [h];cases hf:fndC kid l 0 (-1) with
 | none=>rfl
 | some f =>
  obtain ⟨r1,r2⟩:=fndC_range hf (by omega) (by omega);rw [obS,Sum.elim_inr];simp only;by_cases h0:f<0
  ·rw [deT h0,cnT,if_pos h0];rfl
  ·obtain ⟨p,rfl⟩:=Int.eq_ofNat_of_zero_le (Int.not_lt.1 h0);have hp:p<l.length:=by omega
   have hg:l.getD p dftE=l[p]:=by simp [List.getD,hp]
   obtain ⟨⟨o1,o2⟩,o3⟩:=hk l[p] (List.getElem_mem hp);rw [deF h0,cnF,if_neg h0,Int.toNat_natCast,hg];generalize l[p]=x at o1 o2 o3
   unfold zbz_s zca_s;rw [qAa (by omega),qAa (by omega),qAa (by omega),qAa (by omega),qAa o1,qAa (by rw [List.length_nil]; omega),List.nil_append,obS,qAa trivial,qAa (by omega),qAa (by omega),qAa (by rw [List.length_nil]; omega),List.nil_append,obS,qAa trivial];rfl
theorem same_texts (a:List BA) (ha:a.length≤262144):zby_s a a=some true:=by
 have key:∀(j i:Nat),i+j=a.length→zby_p0 (i:Int) a a=some (.inr ()):=by
  intro j;induction j with
  | zero =>
   intro i h;unfold zby_p0;refine qAq ?_;unfold qFn;rw [deF (by omega),cnF]
  | succ j ih =>
   intro i h;rw [←ih (i+1) (by omega)];unfold zby_p0;refine qAy ?_;unfold qFn;rw [deT (by omega),cnT,qAa (by omega),qAa (by omega),qAa (by omega),qAa (by omega),deT rfl,Bool.not_true,cnF];exact qAa (by unfold qAj; omega) _
 unfold zby_s;have:=key a.length 0 (by omega);rw [show ((0:Nat):Int)=0 from rfl] at this;rw [deT rfl,Bool.not_true,cnF,this];rfl
theorem same_nodes (a:List Eng.Node) (ha:a.length≤262144):zbx_s a a=some true:=by
 have key:∀(j i:Nat),i+j=a.length→zbx_p0 (i:Int) a a=some (.inr ()):=by
  intro j;induction j with
  | zero =>
   intro i h;unfold zbx_p0;refine qAq ?_;unfold qFp;rw [deF (by omega),cnF]
  | succ j ih =>
   intro i h;rw [←ih (i+1) (by omega)];unfold zbx_p0;refine qAy ?_;unfold qFp;rw [deT (by omega),cnT,qAa (by omega),qAa (by omega),qAa (by omega),qAa (by omega)];simp only [decide_true,beq_self_eq_true,Bool.and_self,Bool.not_true,cnF];exact qAa (by unfold qAj; omega) _
 unfold zbx_s;have:=key a.length 0 (by omega);rw [show ((0:Nat):Int)=0 from rfl] at this;rw [deT rfl,Bool.not_true,cnF,this];rfl
theorem same_entry (a:qHj) (ha:OkE a):zbv_s a a=some true:=by
 unfold zbv_s;simp only [decide_true,beq_self_eq_true,Bool.and_self,cnT];rw [same_texts _ ha.2,obS,cnT,same_nodes _ ha.1.2];rfl
theorem same_all (a:List qCi) (ha:a.length≤262144) (hk:∀x∈a,OkT x):zbw_s a a=some true:=by
 have key:∀(j i:Nat),i+j=a.length→zbw_p0 (i:Int) a a=some (.inr ()):=by
  intro j;induction j with
  | zero =>
   intro i h;unfold zbw_p0;refine qAq ?_;unfold qFj;rw [deF (by omega),cnF]
  | succ j ih =>
   intro i h;have hi:i<a.length:=by omega
   rw [←ih (i+1) (by omega)];unfold zbw_p0;refine qAy ?_;unfold qFj;rw [Int.toNat_natCast];have hg:a.getD i (NT.dft [.rw .node,.int .i64,.str,.bool,.str,.bool,.str,.bool,.rw .str,.bool])=a[i]:=by simp [List.getD,hi]
   rw [hg];have hx:=hk a[i] (List.getElem_mem hi);generalize a[i]=x at hx
   rw [deT (by omega),cnT,qAa (by omega),qAa (by omega),qAa (by omega),qAa (by omega),qAa (by omega),qAa (by omega),qAa (by omega),qAa (by omega),qAa (by omega),qAa (by omega),qAa (by omega),qAa (by omega),same_entry ⟨x.1,x.2.1,x.2.2.1,x.2.2.2.1,x.2.2.2.2.1,x.2.2.2.2.2.1,x.2.2.2.2.2.2.1,x.2.2.2.2.2.2.2.1,x.2.2.2.2.2.2.2.2.1,x.2.2.2.2.2.2.2.2.2.1⟩ hx,obS,Bool.not_true,cnF];exact qAa (by unfold qAj; omega) _
 unfold zbw_s;have:=key a.length 0 (by omega);rw [show ((0:Nat):Int)=0 from rfl] at this;rw [deT rfl,Bool.not_true,cnF,this];rfl
theorem validD_low {s:BA} {a:Nat} (hlt:a<s.size) (hc:by8 s a<128):Lib.validD (s.data.toList.drop a)=Lib.validD (s.data.toList.drop (a+1)):=by
 have hl:a<s.data.toList.length:=by rw [Array.length_toList]; exact hlt
 rw [List.drop_eq_getElem_cons hl];refine Lib.validD_cons _ _ ?_;have:by8 s a=(s.data.toList[a]).toNat:=by
  unfold by8;have h2:s.get! a=s.data[a]!:=rfl;rw [h2,getElem!_pos s.data a hlt];simp
 omega
theorem qGu {s:BA} {a:Nat} (hlt:a<s.size) (hc:128≤by8 s a):Lib.validD (s.data.toList.drop a)=if seqK s a=0 then Lib.validD (s.data.toList.drop (a+seqW s a)) else false:=by
 have hne:s.data.toList.drop a≠[]:=by
  intro h;have:=congrArg List.length h;rw [List.length_drop,Array.length_toList] at this;have:s.size=s.data.size:=rfl;simp at *
  omega
 have hv:=Lib.validD_step _ hne;rw [Lib.decodeL_drop,List.drop_drop] at hv;obtain ⟨d1,d2⟩:=seq_dec hlt hc;by_cases h0:seqK s a=0
 ·have hw:=qFd hlt hc h0;rw [d1 h0,if_neg (by omega)] at hv;rw [if_pos h0,hv]
 ·rw [(d2 h0).1,if_pos ⟨rfl,rfl⟩] at hv;rw [if_neg h0,hv]
theorem contN_ext {n n':Nat} {b b':Nat→Nat}:∀ {m i lo hi:Nat},qGn n b m i lo hi=0→(∀k,k<i+m→b' k=b k)→i+m≤n'→qGn n' b' m i lo hi=0
 | 0,_,_,_,_,_,_=>rfl
 | m+1,i,lo,hi,h,hb,hn=>by
  unfold qGn at h ⊢;rw [if_neg (by omega),hb i (by omega)];split at h
  ·cases h
  ·split at h
   ·cases h
   ·rename_i h2;rw [if_neg h2];exact contN_ext h (fun k hk=>hb k (by omega)) (by omega)
theorem seqK_ext {t s:BA} {a b:Nat} (ha:a<t.size) (h8:128≤by8 t a) (h:seqK t a=0) (hb:∀k,k<seqW t a→by8 s (b+k)=by8 t (a+k)) (hn:b+seqW t a≤s.size):seqK s b=0∧seqW s b=seqW t a:=by
 have hw:=qFd ha h8 h;have h0:=hb 0 (by omega);simp only [Nat.add_zero] at h0;have hwe:seqW s b=seqW t a:=by unfold seqW; rw [h0]
 refine ⟨?_,hwe⟩;unfold seqK at h ⊢;unfold seqW at hw hn hb;rw [h0];split at h
 ·cases h
 ·rename_i h1;rw [if_neg h1];exact contN_ext h (fun k hk=>hb k (by omega)) (by omega)
theorem qGw (l:List UInt8) (i:Nat) (h:i<l.length):by8 ⟨l.toArray⟩ i=(l[i]).toNat:=by
 unfold by8;have h2:(ByteArray.mk l.toArray).get! i=l.toArray[i]!:=rfl;rw [h2,getElem!_pos l.toArray i (by simpa using h)];simp
theorem validD_append:∀(n:Nat) (x y:List UInt8),x.length≤n→Lib.validD x=true→Lib.validD (x++y)=Lib.validD y
 | 0,x,y,hn,h=>by
  have:x=[]:=List.length_eq_zero_iff.1 (by omega);rw [this]; rfl
 | n+1,[],y,hn,h=>rfl
 | n+1,c::x,y,hn,h=>by
  by_cases hc:c.toNat<128
  ·rw [Lib.validD_cons c x hc] at h;rw [List.cons_append,Lib.validD_cons c _ hc];exact validD_append n x y (by simp at hn; omega) h
  ·have e1:(ByteArray.mk (c::x).toArray).data.toList.drop 0=c::x:=by simp
   have e2:(ByteArray.mk (c::x++y).toArray).data.toList.drop 0=c::x++y:=by simp
   have hl1:0<(ByteArray.mk (c::x).toArray).size:=by show 0<(c::x).toArray.size; simp
   have hl2:0<(ByteArray.mk (c::x++y).toArray).size:=by show 0<(c::x++y).toArray.size; simp
   have b1:128≤by8 (ByteArray.mk (c::x).toArray) 0:=by
    rw [qGw _ 0 (by simp)];show 128≤c.toNat;omega
   have b2:128≤by8 (ByteArray.mk (c::x++y).toArray) 0:=by
    rw [qGw _ 0 (by simp)];show 128≤c.toNat;omega
   have v1:=qGu hl1 b1;have v2:=qGu hl2 b2;rw [e1] at v1;rw [e2] at v2;rw [h] at v1;by_cases h0:seqK (ByteArray.mk (c::x).toArray) 0=0
   ·rw [if_pos h0] at v1;have hw:=qFd hl1 b1 h0;have hsz1:(ByteArray.mk (c::x).toArray).size=x.length+1:=by show (c::x).toArray.size=_; simp
    have hsz2:(ByteArray.mk (c::x++y).toArray).size=x.length+1+y.length:=by show (c::x++y).toArray.size=_; simp; omega
    generalize hwg:seqW (ByteArray.mk (c::x).toArray) 0=w at *
    have hx:=seqK_ext (s:=ByteArray.mk (c::x++y).toArray) (b:=0) hl1 b1 h0 (fun k hk=>by
     rw [hwg] at hk;rw [Nat.zero_add,qGw _ k (by simp; omega),qGw _ k (by simp; omega),List.getElem_append_left (by simp; omega)]) (by rw [hwg,hsz2]; omega)
    rw [hwg] at hx;rw [if_pos hx.1,hx.2] at v2;have e3:(ByteArray.mk (c::x).toArray).data.toList.drop (0+w)=(c::x).drop w:=by simp
    have e4:(ByteArray.mk (c::x++y).toArray).data.toList.drop (0+w)=(c::x).drop w++y:=by
     rw [Nat.zero_add];show (c::x++y).toArray.toList.drop w=_;rw [List.toList_toArray,List.drop_append_of_le_length (by simp; omega)]
    rw [e3] at v1;rw [e4] at v2;rw [v2];exact validD_append n _ y (by rw [List.length_drop]; simp at hn ⊢; omega) v1.symm
   ·rw [if_neg h0] at v1;cases v1
def qCv (l:List Int):Prop:=Lib.validD (l.map fun n=>UInt8.ofNat n.toNat)=true
theorem qCv.append {x y:List Int} (hx:qCv x) (hy:qCv y):qCv (x++y):=by
 unfold qCv at *
 rw [List.map_append,validD_append _ _ _ (Nat.le_refl _) hx,hy]
theorem qCv.bytes {l:List Int} (h:qCv l):Lib.validD (qA4 l).data.toList=true:=by
 rw [bytesI_eq];show Lib.validD (List.toArray _).toList=_;rw [List.toList_toArray];exact h
theorem qCv.nil:qCv []:=rfl
theorem qCv.one {c:Int} (h:0≤c∧c<128):qCv [c]:=by
 unfold qCv;simp only [List.map_cons,List.map_nil];rw [Lib.validD_cons _ _ (by rw [UInt8.toNat_ofNat',Nat.mod_eq_of_lt (by omega)]; omega)];rfl
theorem chunk_ok {l:List UInt8} (h8:128≤by8 ⟨l.toArray⟩ 0) (hl:0<l.length) (hk:seqK ⟨l.toArray⟩ 0=0) (hw:seqW ⟨l.toArray⟩ 0=l.length):Lib.validD l=true:=by
 have hlt:0<(ByteArray.mk l.toArray).size:=by show 0<l.toArray.size; simpa using hl
 have h:=qGu hlt h8;rw [if_pos hk,hw] at h;have e1:(ByteArray.mk l.toArray).data.toList.drop 0=l:=by simp
 have e2:(ByteArray.mk l.toArray).data.toList.drop (0+l.length)=[]:=by simp
 rw [e1,e2] at h;exact h
theorem u8n {n:Nat} (h:n<256):(UInt8.ofNat n).toNat=n:=by rw [UInt8.toNat_ofNat',Nat.mod_eq_of_lt (by omega)]
theorem chunk2 {a b:Nat} (ha:194≤a∧a<224) (hb:128≤b∧b≤191):Lib.validD [UInt8.ofNat a,UInt8.ofNat b]=true:=by
 have b0:by8 ⟨[UInt8.ofNat a,UInt8.ofNat b].toArray⟩ 0=a:=by rw [qGw _ 0 (by simp)]; exact u8n (by omega)
 have b1:by8 ⟨[UInt8.ofNat a,UInt8.ofNat b].toArray⟩ 1=b:=by rw [qGw _ 1 (by simp)]; exact u8n (by omega)
 have f:Lib.firstT a=2:=by
  unfold Lib.firstT;rw [if_neg (by omega),if_neg (by omega),if_pos (by omega)]
 refine chunk_ok (by rw [b0]; omega) (by simp) ?_ (by unfold seqW; rw [b0,f]; rfl);have hs:(ByteArray.mk [UInt8.ofNat a,UInt8.ofNat b].toArray).size=2:=rfl;unfold seqK;rw [b0,f,hs,if_neg (by decide)];simp only [Nat.reduceMod,Nat.reduceDiv,Nat.reduceSub,qGn,Lib.accLo,Lib.accHi,Nat.zero_add,b1,if_true];rw [if_neg (by omega),if_neg (by omega)]
theorem chunk3 {a b c:Nat} (ha:224≤a∧a<240) (hb:128≤b∧b≤191) (hc:128≤c∧c≤191) (h1:a=224→160≤b) (h2:a=237→b≤159):Lib.validD [UInt8.ofNat a,UInt8.ofNat b,UInt8.ofNat c]=true:=by
 have b0:by8 ⟨[UInt8.ofNat a,UInt8.ofNat b,UInt8.ofNat c].toArray⟩ 0=a:=by rw [qGw _ 0 (by simp)]; exact u8n (by omega)
 have b1:by8 ⟨[UInt8.ofNat a,UInt8.ofNat b,UInt8.ofNat c].toArray⟩ 1=b:=by rw [qGw _ 1 (by simp)]; exact u8n (by omega)
 have b2:by8 ⟨[UInt8.ofNat a,UInt8.ofNat b,UInt8.ofNat c].toArray⟩ 2=c:=by rw [qGw _ 2 (by simp)]; exact u8n (by omega)
 have hs:(ByteArray.mk [UInt8.ofNat a,UInt8.ofNat b,UInt8.ofNat c].toArray).size=3:=rfl;have f:Lib.firstT a=if a=224 then 19 else if a=237 then 35 else 3:=by
  unfold Lib.firstT;rw [if_neg (by omega),if_neg (by omega),if_neg (by omega)];repeat' split
  all_goals first | rfl | omega
 refine chunk_ok (by rw [b0]; omega) (by simp) ?_ (by
  unfold seqW;rw [b0,f];show _=3;by_cases g1:a=224
  ·rw [if_pos g1]
  ·rw [if_neg g1];by_cases g2:a=237
   ·rw [if_pos g2]
   ·rw [if_neg g2])
 unfold seqK;rw [b0,hs,f];by_cases g1:a=224
 ·have:=h1 g1;rw [if_pos g1,if_neg (by decide)];simp only [Nat.reduceMod,Nat.reduceDiv,Nat.reduceSub,qGn,Lib.accLo,Lib.accHi,Nat.zero_add,Nat.reduceAdd,b1,b2,if_true,Nat.reduceEqDiff,if_false];rw [if_neg (by omega),if_neg (by omega),if_neg (by omega),if_neg (by omega)]
 ·rw [if_neg g1];by_cases g2:a=237
  ·have:=h2 g2;rw [if_pos g2,if_neg (by decide)];simp only [Nat.reduceMod,Nat.reduceDiv,Nat.reduceSub,qGn,Lib.accLo,Lib.accHi,Nat.zero_add,Nat.reduceAdd,b1,b2,if_true,Nat.reduceEqDiff,if_false];rw [if_neg (by omega),if_neg (by omega),if_neg (by omega),if_neg (by omega)]
  ·rw [if_neg g2,if_neg (by decide)];simp only [Nat.reduceMod,Nat.reduceDiv,Nat.reduceSub,qGn,Lib.accLo,Lib.accHi,Nat.zero_add,Nat.reduceAdd,b1,b2,if_true,Nat.reduceEqDiff,if_false];rw [if_neg (by omega),if_neg (by omega),if_neg (by omega),if_neg (by omega)]
theorem chunk4 {a b c d:Nat} (ha:240≤a∧a≤244) (hb:128≤b∧b≤191) (hc:128≤c∧c≤191) (hd:128≤d∧d≤191) (h1:a=240→144≤b) (h2:a=244→b≤143):Lib.validD [UInt8.ofNat a,UInt8.ofNat b,UInt8.ofNat c,UInt8.ofNat d]=true:=by
 have b0:by8 ⟨[UInt8.ofNat a,UInt8.ofNat b,UInt8.ofNat c,UInt8.ofNat d].toArray⟩ 0=a:=by rw [qGw _ 0 (by simp)]; exact u8n (by omega)
 have b1:by8 ⟨[UInt8.ofNat a,UInt8.ofNat b,UInt8.ofNat c,UInt8.ofNat d].toArray⟩ 1=b:=by rw [qGw _ 1 (by simp)]; exact u8n (by omega)
 have b2:by8 ⟨[UInt8.ofNat a,UInt8.ofNat b,UInt8.ofNat c,UInt8.ofNat d].toArray⟩ 2=c:=by rw [qGw _ 2 (by simp)]; exact u8n (by omega)
 have b3:by8 ⟨[UInt8.ofNat a,UInt8.ofNat b,UInt8.ofNat c,UInt8.ofNat d].toArray⟩ 3=d:=by rw [qGw _ 3 (by simp)]; exact u8n (by omega)
 have hs:(ByteArray.mk [UInt8.ofNat a,UInt8.ofNat b,UInt8.ofNat c,UInt8.ofNat d].toArray).size=4:=rfl;have f:Lib.firstT a=if a=240 then 52 else if a=244 then 68 else 4:=by
  unfold Lib.firstT;rw [if_neg (by omega),if_neg (by omega),if_neg (by omega),if_neg (by omega),if_neg (by omega),if_neg (by omega),if_neg (by omega)];repeat' split
  all_goals first | rfl | omega
 refine chunk_ok (by rw [b0]; omega) (by simp) ?_ (by
  unfold seqW;rw [b0,f];show _=4;by_cases g1:a=240
  ·rw [if_pos g1]
  ·rw [if_neg g1];by_cases g2:a=244
   ·rw [if_pos g2]
   ·rw [if_neg g2])
 unfold seqK;rw [b0,hs,f];by_cases g1:a=240
 ·have:=h1 g1;rw [if_pos g1,if_neg (by decide)];simp only [Nat.reduceMod,Nat.reduceDiv,Nat.reduceSub,qGn,Lib.accLo,Lib.accHi,Nat.zero_add,Nat.reduceAdd,b1,b2,b3,if_true,Nat.reduceEqDiff,if_false];rw [if_neg (by omega),if_neg (by omega),if_neg (by omega),if_neg (by omega),if_neg (by omega),if_neg (by omega)]
 ·rw [if_neg g1];by_cases g2:a=244
  ·have:=h2 g2;rw [if_pos g2,if_neg (by decide)];simp only [Nat.reduceMod,Nat.reduceDiv,Nat.reduceSub,qGn,Lib.accLo,Lib.accHi,Nat.zero_add,Nat.reduceAdd,b1,b2,b3,if_true,Nat.reduceEqDiff,if_false];rw [if_neg (by omega),if_neg (by omega),if_neg (by omega),if_neg (by omega),if_neg (by omega),if_neg (by omega)]
  ·rw [if_neg g2,if_neg (by decide)];simp only [Nat.reduceMod,Nat.reduceDiv,Nat.reduceSub,qGn,Lib.accLo,Lib.accHi,Nat.zero_add,Nat.reduceAdd,b1,b2,b3,if_true,Nat.reduceEqDiff,if_false];rw [if_neg (by omega),if_neg (by omega),if_neg (by omega),if_neg (by omega),if_neg (by omega),if_neg (by omega)]
theorem utfL_valid {u:Int} (h:Code u):qCv (utfL u):=by
 unfold Code at h;unfold utfL;split
 ·exact qCv.one ⟨by omega,by omega⟩
 ·split
  ·show Lib.validD [UInt8.ofNat (192+u / 64).toNat,UInt8.ofNat (128+u % 64).toNat]=true;exact chunk2 (by omega) (by omega)
  ·split
   ·show Lib.validD [UInt8.ofNat (224+u / 4096).toNat,UInt8.ofNat (128+u / 64 % 64).toNat,UInt8.ofNat (128+u % 64).toNat]=true;exact chunk3 (by omega) (by omega) (by omega) (by omega) (by omega)
   ·show Lib.validD [UInt8.ofNat (240+u / 262144).toNat,UInt8.ofNat (128+u / 4096 % 64).toNat,UInt8.ofNat (128+u / 64 % 64).toNat,UInt8.ofNat (128+u % 64).toNat]=true;exact chunk4 (by omega) (by omega) (by omega) (by omega) (by omega) (by omega)
theorem by8_ext (t:BA) (a b k:Nat) (h:a+k<b) (hb:b≤t.size):by8 (t.extract a b) k=by8 t (a+k):=by
 have hsz:(t.extract a b).size=b - a:=by rw [ByteArray.size_extract]; omega
 have h1:=qEy (t:=t.extract a b) (i:=k) (by omega);have h2:=qEy (t:=t) (i:=a+k) (by omega);rw [qDa t a b (k:Int) (by omega) (by omega)] at h1;rw [show ((a+k:Nat):Int)=(a:Int)+(k:Int) by omega] at h2;omega
theorem seq_valid {t:BA} {a:Nat} (ha:a<t.size) (h8:128≤by8 t a) (h:seqK t a=0):qCv (qAh (t.extract a (a+seqW t a))):=by
 have hw:=qFd ha h8 h;have hsz:(t.extract a (a+seqW t a)).size=seqW t a:=by rw [ByteArray.size_extract]; omega
 have hx:=seqK_ext (s:=t.extract a (a+seqW t a)) (b:=0) ha h8 h (fun k hk=>by rw [Nat.zero_add]; exact by8_ext t a _ k (by omega) (by omega)) (by omega);have h0:by8 (t.extract a (a+seqW t a)) 0=by8 t a:=by8_ext t a _ 0 (by omega) (by omega);have hv:=qGu (s:=t.extract a (a+seqW t a)) (a:=0) (by omega) (by omega);rw [if_pos hx.1,hx.2,List.drop_zero,List.drop_eq_nil_of_le (by rw [Array.length_toList]; show (t.extract a (a+seqW t a)).size≤_; omega),Lib.validD_nil] at hv;unfold qCv qAh;rw [List.map_map];have e:∀l:List UInt8,l.map ((fun n:Int=>UInt8.ofNat n.toNat) ∘ fun b:UInt8=>(b.toNat:Int))=l:=fun l=>by
  conv=>rhs; rw [←List.map_id l]
  refine List.map_congr_left fun x _=>?_
  simp
 rw [e];exact hv
theorem qE8 {t:BA}:∀ {n a b:Nat} {acc l:List Int},quoR t n a acc=.ok b l→qCv acc→qCv l
 | 0,a,b,acc,l,h,_=>by cases h
 | n+1,a,b,acc,l,h,hacc=>by
  unfold quoR at h;split at h
  ·cases h
  ·rename_i h0;have ha:=qA3 (t:=t) (a:=a) (by omega);split at h
   ·cases h;exact hacc
   ·split at h
    ·split at h
     ·cases h
     ·rename_i b' u he;exact qE8 h (hacc.append (utfL_valid (escR_ok he).2.2))
    ·split at h
     ·exact qE8 h (hacc.append (qCv.one (by omega)))
     ·split at h
      ·rename_i hk;exact qE8 h (hacc.append (seq_valid ha (by have:=qEy ha; omega) hk))
      ·cases h
end Go.Proofs.YtnifdcmeffnpaaaDoor
