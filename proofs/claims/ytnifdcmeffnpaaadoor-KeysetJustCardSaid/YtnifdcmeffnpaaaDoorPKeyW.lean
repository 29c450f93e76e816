/-
  Texts of a claim.
-/
import Derived.Test.YtnifdcmeffnpaaaDoorJW
import Derived.Test.YtnifdcmeffnpaaaDoorJK
import Derived.Test.YtnifdcmeffnpaaaDoorPUtf
import Derived.Test.YtnifdcmeffnpaaaDoorPLexQ
import Derived.Test.YtnifdcmeffnpaaaDoorPFind
namespace Go.Proofs.YtnifdcmeffnpaaaDoor
open Go.Eng
set_option linter.unusedVariables false
set_option linter.unusedSimpArgs false
theorem getD_str {l:List BA} {i:Nat} (h:i<l.length):l.getD i (ET.dft .str)=l[i]:=by simp [List.getD,h]
theorem index_loop (v:BA) (l:List BA) (hl:l.length≤3000000):∀(j i:Nat),i+j=l.length →
  (∃k:Nat,zbx_p0 v (l.length:Int) (i:Int) l=some (.inl (k:Int))∧v∈l.drop i)∨(zbx_p0 v (l.length:Int) (i:Int) l=some (.inr ())∧¬v∈l.drop i)
 | 0,i,h=>by
  refine .inr ⟨?_,?_⟩
  ·unfold zbx_p0;refine qAn ?_;unfold qCw;rw [deF (by omega),cnF]
  ·rw [List.drop_eq_nil_of_le (by omega)];exact fun h=>by cases h
 | j+1,i,h=>by
  have hi:i<l.length:=by omega
  have hd:l.drop i=l[i]::l.drop (i+1):=List.drop_eq_getElem_cons hi;by_cases he:v=l[i]
  ·refine .inl ⟨i,?_,?_⟩
   ·unfold zbx_p0;refine qAn ?_;unfold qCw;rw [deT (by omega),cnT,qAa (by omega),qAa (by omega),Int.toNat_natCast,getD_str hi,deT he,cnT]
   ·rw [hd,he]; exact List.mem_cons_self
  ·have hst:qCw v (l.length:Int) (i:Int) l=some (.inl ((i+1:Nat):Int)):=by
    unfold qCw;rw [deT (by omega),cnT,qAa (by omega),qAa (by omega),Int.toNat_natCast,getD_str hi,deF he,cnF];exact qAa (by unfold qAj; omega) _
   have hm:v∈l.drop i↔v∈l.drop (i+1):=by rw [hd,List.mem_cons]; simp [he]
   have ih:=index_loop v l hl j (i+1) (by omega);rw [hm];unfold zbx_p0 at ih ⊢;rw [qAv hst];exact ih
theorem contains_is (l:List BA) (hl:l.length≤3000000) (v:BA):zbw_s l v=some (decide (v∈l)):=by
 have h:=index_loop v l hl l.length 0 (by omega);rw [List.drop_zero,show ((0:Nat):Int)=0 from rfl] at h;unfold zbw_s zbx_s;rcases h with ⟨k,h,hm⟩ | ⟨h,hm⟩
 ·rw [h,obS,Sum.elim_inl,obS,deT (by omega),deT hm]
 ·rw [h,obS,Sum.elim_inr,obS,deF (by omega),deF hm]
theorem qC6.tree {v:List Eng.Node}:∀ {k a e:Nat} {L:List Nat},qC6 v k a L e→∀p∈L,∃e',Tree v p e'
 | 0,a,e,L,h,p,hp=>by rw [h.1] at hp; cases hp
 | k+1,a,e,L,h,p,hp=>by
  obtain ⟨b,r,rfl,h1,h2⟩:=h;rcases List.mem_cons.1 hp with rfl | hp
  ·exact ⟨b,h1⟩
  ·exact h2.tree p hp
theorem Tree.lt {v:List Eng.Node} {a e:Nat} (h:Tree v a e):a<v.length:=by
 have:=Trees.le h;omega
theorem mem_findK {v:List Eng.Node} {key:BA}:∀ {l:List Nat} {p:Nat},findK v key l=some p→p∈l
 | [],p,h=>by cases h
 | q::r,p,h=>by
  unfold findK at h;split at h
  ·cases h; exact List.mem_cons_self
  ·exact List.mem_cons_of_mem _ (mem_findK h)
theorem qD7 {L:List Nat} {i:Nat} (h:i<L.length):(upN L).getD i (ET.dft .i64)=((L[i]:Nat):Int):=by
 unfold upN;simp [List.getD,h]
def bhC (v:List Eng.Node) (a:Nat):Nat:=jbF v (v.length - a) 1 a
theorem bhC_tree {v:List Eng.Node} (hv:v.length≤2000000) {a e:Nat} (h:Tree v a e):bhC v a=e:=by
 have h1:=p_jBehind v hv (a:=a) (by have:=Trees.le h; omega);rw [qDz hv h] at h1;simp only [snJ] at h1;unfold bhC;omega
def kidsN (v:List Eng.Node):Nat→Nat→List Nat
 | 0,_=>[]
 | k+1,a=>a::kidsN v k (bhC v a)
theorem kidsN_places {v:List Eng.Node} (hv:v.length≤2000000):∀ {k a e:Nat} {l:List Nat},qC6 v k a l e→kidsN v k a=l
 | 0,a,e,l,h=>h.1.symm
 | k+1,a,e,l,h=>by
  obtain ⟨b,r,rfl,h1,h2⟩:=h;unfold kidsN;rw [bhC_tree hv h1,kidsN_places hv h2]
def qBo (v:List Eng.Node) (a:Nat):List Nat:=kidsN v (v.getD a (ET.dft .node)).kids.toNat (a+1)
def memC (v:List Eng.Node) (key:BA) (a:Nat):Option Nat:=if (v.getD a (ET.dft .node)).kind=7 then findK v key (qBo v a) else none
theorem tree_places {v:List Eng.Node} (hv:v.length≤2000000) {a e:Nat} (h:Tree v a e):∃nd,v[a]?=some nd∧v.getD a (ET.dft .node)=nd∧0≤nd.kids∧Trees v nd.kids.toNat (a+1) e∧qC6 v nd.kids.toNat (a+1) (qBo v a) e:=by
 obtain ⟨nd,h1,h2,h3⟩:=h.node;obtain ⟨L,hL⟩:=h3.places;refine ⟨nd,h1,nd_get h1,h2,h3,?_⟩;unfold qBo;rw [nd_get h1,kidsN_places hv hL];exact hL
theorem mem_j {v:List Eng.Node} (hv:v.length≤2000000) {a e:Nat} (h:Tree v a e) (key:BA):qEv v (a:Int) key=some (memI (memC v key a))∧∀p,memC v key a=some p→∃e',Tree v p e':=by
 obtain ⟨nd,h1,h2,h3,h4,h5⟩:=tree_places hv h;have:=j_member hv h1 h3 h4 h5 key;unfold memC;rw [this,h2];by_cases h7:nd.kind=7
 ·rw [if_pos h7,if_pos h7];exact ⟨rfl,fun p hp=>h5.tree p (mem_findK hp)⟩
 ·rw [if_neg h7,if_neg h7];exact ⟨rfl,fun p hp=>by cases hp⟩
theorem kids_j {v:List Eng.Node} (hv:v.length≤2000000) {a e:Nat} (h:Tree v a e):zag_s v (a:Int)=some (upN (qBo v a))∧(qBo v a).length≤v.length∧∀p∈qBo v a,∃e',Tree v p e':=by
 obtain ⟨nd,h1,h2,h3,h4,h5⟩:=tree_places hv h;have l1:=h4.le;exact ⟨j_kids hv h1 h3 h4 h5,by rw [h5.len]; omega,h5.tree⟩
def txtC (v:List Eng.Node):Option Nat→BA × Bool × Bool
 | none=>(⟨#[]⟩,false,true)
 | some p=>if (v.getD p (ET.dft .node)).kind=5 then ((v.getD p (ET.dft .node)).text,true,true) else (⟨#[]⟩,true,false)
theorem text_j {v:List Eng.Node} (hv:v.length≤2000000) {a e:Nat} (h:Tree v a e) (key:BA) (bad:Bool) :
  zbk_s ⟨v,(a:Int),bad⟩ key=some (⟨v,(a:Int),bad || !(txtC v (memC v key a)).2.2⟩,(txtC v (memC v key a)).1,(txtC v (memC v key a)).2.1 && (txtC v (memC v key a)).2.2):=by
 obtain ⟨m1,m2⟩:=mem_j hv h key;unfold zbk_s;dsimp only;rw [m1,obS];cases hm:memC v key a with
 | none =>
  rw [show memI none=(-1:Int) from rfl,deT (by omega),cnT];cases bad <;> rfl
 | some p =>
  obtain ⟨e',he'⟩:=m2 p hm;have hl:=he'.lt;rw [show memI (some p)=(p:Int) from rfl,show txtC v (some p)=(if (v.getD p (ET.dft .node)).kind=5 then ((v.getD p (ET.dft .node)).text,true,true) else (⟨#[]⟩,true,false)) from rfl];by_cases h5:(v.getD p (ET.dft .node)).kind=5
  ·rw [deF (by omega),cnF,Int.toNat_natCast,qAa (by omega),qAa (by omega),qAa (by omega),deT h5,Bool.not_true,cnF,qAa (by omega),qAa (by omega),qAa (by omega),if_pos h5];cases bad <;> rfl
  ·rw [deF (by omega),cnF,Int.toNat_natCast,qAa (by omega),qAa (by omega),qAa (by omega),deF h5,Bool.not_false,cnT,if_neg h5];cases bad <;> rfl
def opsV (v:List Eng.Node):List Nat→List BA→Option (List BA)
 | [],out=>some out
 | p::r,out=>if (v.getD p (ET.dft .node)).kind=5∧¬(v.getD p (ET.dft .node)).text∈out then opsV v r (out++[(v.getD p (ET.dft .node)).text]) else none
theorem opsV_len {v:List Eng.Node}:∀ {l:List Nat} {out o:List BA},opsV v l out=some o→o.length=out.length+l.length
 | [],out,o,h=>by cases h; rfl
 | p::r,out,o,h=>by
  unfold opsV at h;split at h
  ·rw [opsV_len h]; simp; omega
  ·cases h
theorem j_ops {v:List Eng.Node} {L:List Nat} (hL:L.length≤262144) (hp:∀p∈L,p<v.length):∀(j i:Nat) (out:List BA),i+j=L.length→out.length=i →
  zbl_p0 (L.length:Int) (i:Int) v out (upN L)=some (match opsV v (L.drop i) out with | none=>.inl (false,true,[]) | some o=>.inr o)
 | 0,i,out,h,ho=>by
  rw [List.drop_eq_nil_of_le (by omega)];unfold zbl_p0;refine qAn ?_;unfold qCz;dsimp only;rw [deF (by omega),cnF];rfl
 | j+1,i,out,h,ho=>by
  have hi:i<L.length:=by omega
  have hd:L.drop i=L[i]::L.drop (i+1):=List.drop_eq_getElem_cons hi;have hlt:=hp L[i] (List.getElem_mem hi);rw [hd];unfold opsV;by_cases h5:(v.getD L[i] (ET.dft .node)).kind=5
  ·by_cases hm:(v.getD L[i] (ET.dft .node)).text∈out
   ·rw [if_neg (fun h=>h.2 hm)];unfold zbl_p0;refine qAn ?_;unfold qCz;dsimp only;rw [deT (by omega),cnT,qAa (by rw [qB1]; omega),Int.toNat_natCast,qAa (by rw [qB1]; omega),qD7 hi,Int.toNat_natCast,qAa (by omega),qAa (by omega),qAa (by omega),deT h5,Bool.not_true,qAa (fun _=>by omega),qAa (fun _=>by omega),qAa (fun _=>by omega),cnF,contains_is out (by omega),obS,deT hm,cnT]
   ·rw [if_pos ⟨h5,hm⟩];have ih:=j_ops hL hp j (i+1) (out++[(v.getD L[i] (ET.dft .node)).text]) (by omega) (by simp [ho]);rw [←ih];unfold zbl_p0;refine qAv (y:=(((i+1:Nat):Int),out++[(v.getD L[i] (ET.dft .node)).text])) ?_;unfold qCz;dsimp only;rw [deT (by omega),cnT,qAa (by rw [qB1]; omega),Int.toNat_natCast,qAa (by rw [qB1]; omega),qD7 hi,Int.toNat_natCast,qAa (by omega),qAa (by omega),qAa (by omega),deT h5,Bool.not_true,qAa (fun _=>by omega),qAa (fun _=>by omega),qAa (fun _=>by omega),cnF,contains_is out (by omega),obS,deF hm,cnF,qAa (by omega),qAa (by omega),qAa (by omega),qAa (by rw [List.length_singleton]; omega)];exact qAa (by unfold qAj; omega) _
  ·rw [if_neg (fun h=>h5 h.1)];unfold zbl_p0;refine qAn ?_;unfold qCz;dsimp only;rw [deT (by omega),cnT,qAa (by rw [qB1]; omega),Int.toNat_natCast,qAa (by rw [qB1]; omega),qD7 hi,Int.toNat_natCast,qAa (by omega),qAa (by omega),qAa (by omega),deF h5,Bool.not_false,qAa (fun h=>by cases h),qAa (fun h=>by cases h),qAa (fun h=>by cases h),cnT]
def opC (v:List Eng.Node):Option Nat→List BA × Bool × Bool
 | none=>([],false,true)
 | some p=>if (v.getD p (ET.dft .node)).kind=6 then (match opsV v (qBo v p) [] with
  | none=>([],true,false)
  | some o=>(o,true,true)) else ([],true,false)
abbrev kOps:BA:=⟨#[107,101,121,95,111,112,115]⟩
theorem texts_j {v:List Eng.Node} (hv:v.length≤262144) {a e:Nat} (h:Tree v a e) (bad:Bool) :
  zbl_s ⟨v,(a:Int),bad⟩ kOps=some (⟨v,(a:Int),bad || !(opC v (memC v kOps a)).2.2⟩,(opC v (memC v kOps a)).1,(opC v (memC v kOps a)).2.1 && (opC v (memC v kOps a)).2.2)∧(opC v (memC v kOps a)).1.length≤262144:=by
 obtain ⟨m1,m2⟩:=mem_j (by omega) h kOps;unfold zbl_s;dsimp only;rw [m1,obS];cases hm:memC v kOps a with
 | none =>
  refine ⟨?_,by unfold opC; simp⟩;rw [show memI none=(-1:Int) from rfl,deT (by omega),cnT];cases bad <;> rfl
 | some p =>
  obtain ⟨e',he'⟩:=m2 p hm;have hl:=he'.lt;rw [show memI (some p)=(p:Int) from rfl,show opC v (some p)=(if (v.getD p (ET.dft .node)).kind=6 then (match opsV v (qBo v p) [] with | none=>([],true,false) | some o=>(o,true,true)) else ([],true,false)) from rfl]
  by_cases h6:(v.getD p (ET.dft .node)).kind=6
  ·obtain ⟨k1,k3,k4⟩:=kids_j (by omega) he';have hin:∀q∈qBo v p,q<v.length:=fun q hq=>by
    obtain ⟨e2,h2⟩:=k4 q hq;exact h2.lt
   have ej:=j_ops (v:=v) (L:=qBo v p) (by omega) hin (qBo v p).length 0 [] (by omega) rfl;rw [List.drop_zero,show ((0:Nat):Int)=0 from rfl] at ej;rw [if_pos h6];cases ho:opsV v (qBo v p) [] with
   | none =>
    rw [ho] at ej;refine ⟨?_,by simp⟩;rw [deF (by omega),cnF,Int.toNat_natCast,qAa (by omega),qAa (by omega),qAa (by omega),deT h6,Bool.not_true,cnF,k1,obS,qB1,ej];cases bad <;> rfl
   | some o =>
    rw [ho] at ej;refine ⟨?_,by show o.length≤_; rw [opsV_len ho,List.length_nil]; omega⟩;rw [deF (by omega),cnF,Int.toNat_natCast,qAa (by omega),qAa (by omega),qAa (by omega),deT h6,Bool.not_true,cnF,k1,obS,qB1,ej];cases bad <;> rfl
  ·rw [if_neg h6];refine ⟨?_,by simp⟩;rw [deF (by omega),cnF,Int.toNat_natCast,qAa (by omega),qAa (by omega),qAa (by omega),deF h6,Bool.not_false,cnT];cases bad <;> rfl
def ktyC (s:BA):Int:=if s=⟨#[111,99,116]⟩ then 1 else if s=⟨#[82,83,65]⟩ then 2 else if s=⟨#[69,67]⟩ then 3 else if s=⟨#[79,75,80]⟩ then 4 else 0
theorem kty_j (s:BA):zbj_s s=some (ktyC s):=by
 unfold zbj_s ktyC;by_cases h1:s=⟨#[111,99,116]⟩
 ·rw [deT h1,cnT,if_pos h1]
 ·by_cases h2:s=⟨#[82,83,65]⟩
  ·rw [deF h1,cnF,deT h2,cnT,if_neg h1,if_pos h2]
  ·by_cases h3:s=⟨#[69,67]⟩
   ·rw [deF h1,cnF,deF h2,cnF,deT h3,cnT,if_neg h1,if_neg h2,if_pos h3]
   ·by_cases h4:s=⟨#[79,75,80]⟩
    ·rw [deF h1,cnF,deF h2,cnF,deF h3,cnF,deT h4,cnT,if_neg h1,if_neg h2,if_neg h3,if_pos h4]
    ·rw [deF h1,cnF,deF h2,cnF,deF h3,cnF,deF h4,cnF,if_neg h1,if_neg h2,if_neg h3,if_neg h4]
def emptyE:qGc:=⟨[],(0:Int),(⟨#[]⟩:BA),false,(⟨#[]⟩:BA),false,(⟨#[]⟩:BA),false,[],false⟩
def OkE (e:qGc):Prop:=(0<e.value.length∧e.value.length≤262144)∧e.ops.length≤262144
abbrev kKty:BA:=⟨#[107,116,121]⟩
abbrev kKid:BA:=⟨#[107,105,100]⟩
abbrev kUse:BA:=⟨#[117,115,101]⟩
abbrev kAlg:BA:=⟨#[97,108,103]⟩
abbrev kKeys:BA:=⟨#[107,101,121,115]⟩
def clrN (n:Eng.Node):Eng.Node:=⟨n.kind,⟨#[]⟩,n.text,n.whole,n.int,n.kids⟩
def valC (v:List Eng.Node) (a:Nat):List Eng.Node:=((v.take (bhC v a)).drop a).set 0 (clrN (((v.take (bhC v a)).drop a).getD 0 (ET.dft .node)))
def entE (v:List Eng.Node) (a:Nat):qGc:=⟨valC v a,ktyC (txtC v (memC v kKty a)).1,(txtC v (memC v kKid a)).1,(txtC v (memC v kKid a)).2.1,(txtC v (memC v kUse a)).1,(txtC v (memC v kUse a)).2.1,(txtC v (memC v kAlg a)).1,(txtC v (memC v kAlg a)).2.1,(opC v (memC v kOps a)).1,(opC v (memC v kOps a)).2.1⟩
def entB (v:List Eng.Node) (a:Nat):Bool:=decide ((v.getD a (ET.dft .node)).kind=7) && ((txtC v (memC v kKty a)).2.1 && (txtC v (memC v kKty a)).2.2) && ((txtC v (memC v kKid a)).2.2 && ((txtC v (memC v kUse a)).2.2 && ((txtC v (memC v kAlg a)).2.2 && (opC v (memC v kOps a)).2.2)))
theorem entry_j {v:List Eng.Node} (hv:v.length≤262144) {a e:Nat} (h:Tree v a e):zbi_s v (a:Int)=some (if entB v a then (entE v a,true) else (emptyE,false))∧OkE (entE v a):=by
 have hl:=h.lt;have hle:=Trees.le h;have hbe:=bhC_tree (by omega) h;have hlen:((v.take e).drop a).length=e - a:=by rw [List.length_drop,List.length_take]; omega
 refine ⟨?_,⟨?_,?_⟩,(texts_j hv h false).2⟩
 ·unfold zbi_s entB;simp only [Int.toNat_natCast];rw [qAa (by omega),qAa (by omega),qAa (by omega)];cases decide ((v.getD a (ET.dft .node)).kind=7) with
  | false=>rfl
  | true =>
   rw [Bool.not_true,cnF,text_j (by omega) h,obS];dsimp only;cases hc:((txtC v (memC v kKty a)).2.1 && (txtC v (memC v kKty a)).2.2) with
   | false=>rfl
   | true =>
    have hc2:(txtC v (memC v kKty a)).2.2=true:=by rw [Bool.and_eq_true] at hc; exact hc.2
    rw [Bool.not_true,cnF,kty_j,obS,hc2,text_j (by omega) h,obS];dsimp only;rw [text_j (by omega) h,obS];dsimp only;rw [text_j (by omega) h,obS];dsimp only;rw [(texts_j hv h _).1,obS];dsimp only;have hb:(((((false || !true) || !(txtC v (memC v kKid a)).2.2) || !(txtC v (memC v kUse a)).2.2) || !(txtC v (memC v kAlg a)).2.2) || !(opC v (memC v kOps a)).2.2)=!((txtC v (memC v kKid a)).2.2 && ((txtC v (memC v kUse a)).2.2 && ((txtC v (memC v kAlg a)).2.2 && (opC v (memC v kOps a)).2.2))):=by
     cases (txtC v (memC v kKid a)).2.2 <;> cases (txtC v (memC v kUse a)).2.2 <;> cases (txtC v (memC v kAlg a)).2.2 <;> cases (opC v (memC v kOps a)).2.2 <;> rfl
    rw [hb];cases hd:((txtC v (memC v kKid a)).2.2 && ((txtC v (memC v kUse a)).2.2 && ((txtC v (memC v kAlg a)).2.2 && (opC v (memC v kOps a)).2.2))) with
    | false=>rfl
    | true =>
     rw [Bool.and_eq_true,Bool.and_eq_true,Bool.and_eq_true] at hd;obtain ⟨d1,d2,d3,d4⟩:=hd;rw [Bool.not_true,cnF,qDz (by omega) h,obS,qAa (by omega),Int.toNat_natCast];unfold zbu_s;rw [qAa (by omega),qAa (by rw [List.length_nil]; omega),List.nil_append,obS,qAa (by omega),qAa (by omega),qAa (by omega),d1,d2,d3,d4];unfold entE valC;rw [hbe];simp only [Bool.and_true];rfl
 ·show 0<(valC v a).length;unfold valC;rw [List.length_set,hbe];omega
 ·show (valC v a).length≤_;unfold valC;rw [List.length_set,hbe];omega
abbrev qB8:Type:=(List Eng.Node) × Int × BA × Bool × BA × Bool × BA × Bool × (List BA) × Bool × Unit
def OkT (e:qB8):Prop:=(0<e.1.length∧e.1.length≤262144)∧e.2.2.2.2.2.2.2.2.1.length≤262144
def tupE (x:qGc):qB8:=(x.value,x.kty,x.kid,x.hasKid,x.use,x.hasUse,x.alg,x.hasAlg,x.ops,x.hasOps,())
def untE (x:qB8):qGc:=⟨x.1,x.2.1,x.2.2.1,x.2.2.2.1,x.2.2.2.2.1,x.2.2.2.2.2.1,x.2.2.2.2.2.2.1,x.2.2.2.2.2.2.2.1,x.2.2.2.2.2.2.2.2.1,x.2.2.2.2.2.2.2.2.2.1⟩
def entsC (v:List Eng.Node):List Nat→Option (List qB8)
 | []=>some []
 | p::r=>if entB v p then (entsC v r).map (tupE (entE v p) :: ·) else none
theorem loop_j {v:List Eng.Node} (hv:v.length≤262144) {L:List Nat} (hL:L.length≤262144) (ht:∀p∈L,∃e,Tree v p e):∀(j i:Nat) (out:List qB8),i+j=L.length→out.length=i →
  zbg_p0 (L.length:Int) (i:Int) v out (upN L)=some (match entsC v (L.drop i) with | none=>.inl (100,[]) | some o=>.inr (out++o))
 | 0,i,out,h,ho=>by
  rw [List.drop_eq_nil_of_le (by omega)];unfold zbg_p0;refine qAn ?_;unfold qDn;dsimp only;rw [deF (by omega),cnF];show some (Sum.inr (Sum.inr out))=some (Sum.inr (Sum.inr (out++[])));rw [List.append_nil]
 | j+1,i,out,h,ho=>by
  have hi:i<L.length:=by omega
  have hd:L.drop i=L[i]::L.drop (i+1):=List.drop_eq_getElem_cons hi;obtain ⟨e,he⟩:=ht L[i] (List.getElem_mem hi);have q1:=(entry_j hv he).1;rw [hd];unfold entsC;by_cases hb:entB v L[i]=true
  ·rw [if_pos hb] at q1 ⊢;have ih:=loop_j hv hL ht j (i+1) (out++[tupE (entE v L[i])]) (by omega) (by simp [ho]);have e2:(match (entsC v (L.drop (i+1))).map (tupE (entE v L[i]) :: ·) with | none=>(.inl (100,[]):(Int × List qB8) ⊕ List qB8) | some o=>.inr (out++o))=(match entsC v (L.drop (i+1)) with | none=>.inl (100,[]) | some o=>.inr ((out++[tupE (entE v L[i])])++o)):=by
    cases entsC v (L.drop (i+1)) with
    | none=>rfl
    | some o=>simp
   rw [e2,←ih];unfold zbg_p0;refine qAv (y:=(((i+1:Nat):Int),out++[tupE (entE v L[i])])) ?_;unfold qDn;dsimp only;rw [deT (by omega),cnT,qAa (by rw [qB1]; omega),Int.toNat_natCast,qAa (by rw [qB1]; omega),qD7 hi,q1,obS];dsimp only;rw [Bool.not_true,cnF,qAa (by rw [List.length_singleton]; omega)];exact qAa (by unfold qAj; omega) _
  ·rw [if_neg hb] at q1 ⊢;unfold zbg_p0;refine qAn ?_;unfold qDn;dsimp only;rw [deT (by omega),cnT,qAa (by rw [qB1]; omega),Int.toNat_natCast,qAa (by rw [qB1]; omega),qD7 hi,q1,obS];rfl
def parC (v:List Eng.Node):Option (List qB8):=match memC v kKeys 0 with
 | none=>none
 | some k=>if (v.getD k (ET.dft .node)).kind=6 then entsC v (qBo v k) else none
theorem entsC_ok {v:List Eng.Node} (hv:v.length≤262144):∀ {L:List Nat} {l:List qB8},(∀p∈L,∃e,Tree v p e)→entsC v L=some l→l.length=L.length∧∀x∈l,OkT x
 | [],l,ht,h=>by cases h; exact ⟨rfl,fun x hx=>by cases hx⟩
 | p::r,l,ht,h=>by
  unfold entsC at h;split at h
  ·obtain ⟨o,ho,rfl⟩:=Option.map_eq_some_iff.1 h;obtain ⟨h1,h2⟩:=entsC_ok hv (fun q hq=>ht q (List.mem_cons_of_mem _ hq)) ho;obtain ⟨e,he⟩:=ht p List.mem_cons_self;refine ⟨by simp [h1],fun x hx=>?_⟩;rcases List.mem_cons.1 hx with rfl | hx
   ·exact (entry_j hv he).2
   ·exact h2 x hx
  ·cases h
theorem parC_ok {v:List Eng.Node} (hv:v.length≤262144) (ht:Tree v 0 v.length) {l:List qB8} (h:parC v=some l):l.length≤262144∧∀x∈l,OkT x:=by
 obtain ⟨m1,m2⟩:=mem_j (by omega) ht kKeys;unfold parC at h;cases hm:memC v kKeys 0 with
 | none=>rw [hm] at h; cases h
 | some k =>
  rw [hm] at h;simp only at h;obtain ⟨e,he⟩:=m2 k hm;obtain ⟨k1,k3,k4⟩:=kids_j (by omega) he;split at h
  ·obtain ⟨h1,h2⟩:=entsC_ok hv k4 h;exact ⟨by omega,h2⟩
  ·cases h
noncomputable def keyC (doc:BA):List qB8 × Int:=if 262144<doc.size then ([],10) else match parseR doc with
 | (v,c,_)=>if c=0 then (match parC v with
  | some l=>(l,0)
  | none=>([],100)) else ([],c)
theorem parse_j (doc:BA):zbg_s doc=some (keyC doc)∧(keyC doc).1.length≤262144∧∀x∈(keyC doc).1,OkT x:=by
 unfold zbg_s keyC;rw [p_Parse,obS];by_cases hs:262144<doc.size
 ·rw [deT (by omega),cnT,if_pos hs];exact ⟨rfl,by simp,fun x hx=>by cases hx⟩
 ·rw [deF (by omega),cnF,if_neg hs];rcases parseR_cases doc with ⟨v,hp,_,_,hne,hlen,ht,_⟩ | ⟨c,b,hp,hc⟩
  ·rw [hp];dsimp only;rw [deT rfl,Bool.not_true,cnF,if_pos rfl];have hv:v.length≤262144:=by omega
   obtain ⟨m1,m2⟩:=mem_j (by omega) ht kKeys;rw [show ((0:Nat):Int)=0 from rfl] at m1;rw [m1,obS];have hpo:∀ {l:List qB8},parC v=some l→l.length≤262144∧∀x∈l,OkT x:=fun h=>parC_ok hv ht h
   have fail:∀(x:Int) (hx:x = -1∨∃p:Nat,x=p∧p<v.length∧(v.getD p (ET.dft .node)).kind≠6) (f:Option (List qB8 × Int)),(gd ((decide (x<0))=false→0≤x∧x<v.length) <| gd ((decide (x<0))=false→(Int.toNat x)<v.length) <| gd ((decide (x<0))=false→(Int.toNat x)<v.length) <| bif ((decide (x<0)) || (!decide (((v.getD (Int.toNat x) (ET.dft .node)).kind)=(6:Int)))) then some ([],(100:Int)) else f)=some ([],100):=fun x hx f=>by
    rcases hx with rfl | ⟨p,rfl,hp,h6⟩
    ·rw [qAa (fun h=>by simp at h),qAa (fun h=>by simp at h),qAa (fun h=>by simp at h),deT (by omega),Bool.true_or,cnT]
    ·rw [qAa (fun _=>by omega),qAa (fun _=>by omega),qAa (fun _=>by omega),Int.toNat_natCast,deF h6,Bool.not_false,Bool.or_true,cnT]
   unfold parC at hpo ⊢;cases hm:memC v kKeys 0 with
   | none=>exact ⟨fail (-1) (.inl rfl) _,by simp,fun x hx=>by cases hx⟩
   | some k =>
    obtain ⟨e,he⟩:=m2 k hm;have hkl:=he.lt;rw [hm] at hpo;simp only at hpo ⊢;by_cases h6:(v.getD k (ET.dft .node)).kind=6
    ·rw [if_pos h6] at hpo ⊢;obtain ⟨k1,k3,k4⟩:=kids_j (by omega) he;have hj:=loop_j hv (L:=qBo v k) (by omega) k4 (qBo v k).length 0 [] (by omega) rfl;rw [List.drop_zero,show ((0:Nat):Int)=0 from rfl] at hj;have e1:memI (some k)=(k:Int):=rfl;rw [e1,qAa (fun _=>by omega),qAa (fun _=>by omega),qAa (fun _=>by omega),Int.toNat_natCast,deT h6,deF (show ¬(k:Int)<0 by omega),Bool.not_true,Bool.or_self,cnF,k1,obS,qB1,hj];cases hent:entsC v (qBo v k) with
     | none=>exact ⟨rfl,by simp,fun x hx=>by cases hx⟩
     | some o =>
      obtain ⟨q1,q2⟩:=hpo hent;exact ⟨rfl,q1,q2⟩
    ·rw [if_neg h6];exact ⟨fail (k:Int) (.inr ⟨k,rfl,hkl,h6⟩) _,by simp,fun x hx=>by cases hx⟩
  ·rw [hp];dsimp only;rw [deF hc,Bool.not_false,cnT,if_neg hc];exact ⟨rfl,by simp,fun x hx=>by cases hx⟩
def isK (kid:BA) (x:qB8):Bool:=x.2.2.2.1 && decide (x.2.2.1=kid)
def fndC (kid:BA):List qB8→Nat→Int→Option Int
 | [],_,f=>some f
 | x::r,i,f=>if isK kid x then (if 0≤f then none else fndC kid r (i+1) i) else fndC kid r (i+1) f
abbrev dftE:qB8:=NT.dft [.rw .node,.int .i64,.str,.bool,.str,.bool,.str,.bool,.rw .str,.bool]
theorem fndC_range {kid:BA}:∀ {l:List qB8} {i:Nat} {f g:Int},fndC kid l i f=some g → -1≤f→f<i → -1≤g∧g<(i+l.length:Nat)
 | [],i,f,g,h,h1,h2=>by
  cases h;exact ⟨h1,by simp only [List.length_nil]; omega⟩
 | x::r,i,f,g,h,h1,h2=>by
  unfold fndC at h;split at h
  ·split at h
   ·cases h
   ·obtain ⟨q1,q2⟩:=fndC_range h (by omega) (by omega);exact ⟨q1,by simp only [List.length_cons]; omega⟩
  ·obtain ⟨q1,q2⟩:=fndC_range h h1 (by omega);exact ⟨q1,by simp only [List.length_cons]; omega⟩
theorem find_loop (kid:BA) {l:List qB8} (hl:l.length≤262144):∀(j i:Nat) (f:Int),i+j=l.length →
  zbf_p0 kid f (l.length:Int) (i:Int) l=some (match fndC kid (l.drop i) i f with
   | none=>.inl ((104:Int),(0:Int),(⟨#[]⟩:BA),false,(⟨#[]⟩:BA),false,(⟨#[]⟩:BA),false,false,[],[])
   | some g=>.inr g)
 | 0,i,f,h=>by
  rw [List.drop_eq_nil_of_le (by omega)];unfold zbf_p0;refine qAn ?_;unfold qCy;dsimp only;rw [deF (by omega),cnF];rfl
 | j+1,i,f,h=>by
  have hi:i<l.length:=by omega
  have hd:l.drop i=l[i]::l.drop (i+1):=List.drop_eq_getElem_cons hi;have hg:l.getD i dftE=l[i]:=by simp [List.getD,hi]
  rw [hd];unfold fndC;have hk:((!(l[i]).2.2.2.1) || (!decide ((l[i]).2.2.1=kid)))=!isK kid l[i]:=by
   unfold isK;rw [Bool.not_and]
  cases hb:isK kid l[i] with
  | false =>
   rw [if_neg (by simp),←find_loop kid hl j (i+1) f (by omega)];unfold zbf_p0;refine qAv (y:=(f,((i+1:Nat):Int))) ?_;unfold qCy;dsimp only;rw [deT (by omega),cnT,qAa (by omega),Int.toNat_natCast,qAa (by omega),hg,hk,hb,Bool.not_false,cnT];exact qAa (by unfold qAj; omega) _
  | true =>
   rw [if_pos rfl];by_cases hf:0≤f
   ·rw [if_pos hf];unfold zbf_p0;refine qAn ?_;unfold qCy;dsimp only;rw [deT (by omega),cnT,qAa (by omega),Int.toNat_natCast,qAa (by omega),hg,hk,hb,Bool.not_true,cnF,deT hf,cnT]
   ·rw [if_neg hf,←find_loop kid hl j (i+1) i (by omega)];unfold zbf_p0;refine qAv (y:=((i:Int),((i+1:Nat):Int))) ?_;unfold qCy;dsimp only;rw [deT (by omega),cnT,qAa (by omega),Int.toNat_natCast,qAa (by omega),hg,hk,hb,Bool.not_true,cnF,deF hf,cnF];exact qAa (by unfold qAj; omega) _
def finC (l:List qB8) (kid:BA):qGc × Int:=match fndC kid l 0 (-1) with
 | none=>(emptyE,104)
 | some f=>if f<0 then (emptyE,103) else (untE (l.getD f.toNat dftE),0)
theorem find_j {l:List qB8} (hl:l.length≤262144) (hk:∀x∈l,OkT x) (kid:BA):zbf_s l kid=some (finC l kid):=by
 have h:=find_loop kid hl l.length 0 (-1) (by omega);rw [List.drop_zero,show ((0:Nat):Int)=0 from rfl] at h;unfold zbf_s finC;rw [h];cases hf:fndC kid l 0 (-1) with
 | none=>rfl
 | some f =>
  obtain ⟨r1,r2⟩:=fndC_range hf (by omega) (by omega);rw [obS,Sum.elim_inr];simp only;by_cases h0:f<0
  ·rw [deT h0,cnT,if_pos h0];rfl
  ·obtain ⟨p,rfl⟩:=Int.eq_ofNat_of_zero_le (Int.not_lt.1 h0);have hp:p<l.length:=by omega
   have hg:l.getD p dftE=l[p]:=by simp [List.getD,hp]
   obtain ⟨⟨o1,o2⟩,o3⟩:=hk l[p] (List.getElem_mem hp);rw [deF h0,cnF,if_neg h0,Int.toNat_natCast,hg];generalize l[p]=x at o1 o2 o3
   unfold zbu_s zbv_s;rw [qAa (by omega),qAa (by omega),qAa (by omega),qAa (by omega),qAa o1,qAa (by rw [List.length_nil]; omega),List.nil_append,obS,qAa trivial,qAa (by omega),qAa (by omega),qAa (by rw [List.length_nil]; omega),List.nil_append,obS,qAa trivial];rfl
theorem same_texts (a:List BA) (ha:a.length≤262144):zbt_s a a=some true:=by
 have key:∀(j i:Nat),i+j=a.length→zbt_p0 (i:Int) a a=some (.inr ()):=by
  intro j;induction j with
  | zero =>
   intro i h;unfold zbt_p0;refine qAn ?_;unfold qEq;rw [deF (by omega),cnF]
  | succ j ih =>
   intro i h;rw [←ih (i+1) (by omega)];unfold zbt_p0;refine qAv ?_;unfold qEq;rw [deT (by omega),cnT,qAa (by omega),qAa (by omega),qAa (by omega),qAa (by omega),deT rfl,Bool.not_true,cnF];exact qAa (by unfold qAj; omega) _
 unfold zbt_s;have:=key a.length 0 (by omega);rw [show ((0:Nat):Int)=0 from rfl] at this;rw [deT rfl,Bool.not_true,cnF,this];rfl
theorem same_nodes (a:List Eng.Node) (ha:a.length≤262144):zbs_s a a=some true:=by
 have key:∀(j i:Nat),i+j=a.length→zbs_p0 (i:Int) a a=some (.inr ()):=by
  intro j;induction j with
  | zero =>
   intro i h;unfold zbs_p0;refine qAn ?_;unfold qEw;rw [deF (by omega),cnF]
  | succ j ih =>
   intro i h;rw [←ih (i+1) (by omega)];unfold zbs_p0;refine qAv ?_;unfold qEw;rw [deT (by omega),cnT,qAa (by omega),qAa (by omega),qAa (by omega),qAa (by omega)];simp only [decide_true,beq_self_eq_true,Bool.and_self,Bool.not_true,cnF];exact qAa (by unfold qAj; omega) _
 unfold zbs_s;have:=key a.length 0 (by omega);rw [show ((0:Nat):Int)=0 from rfl] at this;rw [deT rfl,Bool.not_true,cnF,this];rfl
def ValidI (l:List Int):Prop:=Lib.validD (l.map fun n=>UInt8.ofNat n.toNat)=true
theorem ValidI.nil:ValidI []:=rfl
section
variable {t:BA} {a b:Nat} (hb:b≤t.size)
include hb
end
end Go.Proofs.YtnifdcmeffnpaaaDoor
namespace Go.Proofs.YtnifdcmeffnpaaaDoor
open Go.Eng
set_option linter.unusedVariables false
set_option linter.unusedSimpArgs false
inductive Spells (t s:BA):Nat→Nat→Nat→Nat→Prop
 | nil (a p:Nat):Spells t s a a p p
 | raw {a b p q:Nat}:p<s.size→bAt t (a:Int)=bAt s (p:Int)→32≤bAt s (p:Int)→bAt s (p:Int)<128→bAt s (p:Int)≠34→bAt s (p:Int)≠92→Spells t s (a+1) b (p+1) q→Spells t s a b p q
 | seq {a b p q:Nat}:p<s.size→128≤by8 s p→seqK s p=0→(∀k,k<seqW s p→by8 t (a+k)=by8 s (p+k))→a+seqW s p≤t.size→Spells t s (a+seqW s p) b (p+seqW s p) q→Spells t s a b p q
 | esc {a a' b p q:Nat} {u:Int}:bAt t (a:Int)=92→escR t a=.ok a' u→((qBx s).drop p).take (utfL u).length=utfL u→Spells t s a' b (p+(utfL u).length) q→Spells t s a b p q
def Stop (c:Int):Prop:=¬(48≤c∧c≤57)∧c≠46∧c≠101∧c≠69
def part (v:List Eng.Node) (p e:Nat):List Eng.Node:=(v.drop p).take (e - p)
def bndC (a:Int):Int × BA :=
 if a=1 then (1,⟨#[]⟩) else if a=2 then (1,⟨#[]⟩) else if a=3 then (1,⟨#[]⟩) else
 if a=4 then (2,⟨#[]⟩) else if a=5 then (2,⟨#[]⟩) else if a=6 then (2,⟨#[]⟩) else
 if a=7 then (2,⟨#[]⟩) else if a=8 then (2,⟨#[]⟩) else if a=9 then (2,⟨#[]⟩) else
 if a=10 then (3,⟨#[80,45,50,53,54]⟩) else if a=11 then (3,⟨#[80,45,51,56,52]⟩) else
 if a=12 then (4,⟨#[69,100,50,53,53,49,57]⟩) else (0,⟨#[]⟩)
theorem bound_j (a:Int):zbh_s a=some (bndC a):=by
 by_cases h1:a=1
 ·subst h1; kernel_rfl
 by_cases h2:a=2
 ·subst h2; kernel_rfl
 by_cases h3:a=3
 ·subst h3; kernel_rfl
 by_cases h4:a=4
 ·subst h4; kernel_rfl
 by_cases h5:a=5
 ·subst h5; kernel_rfl
 by_cases h6:a=6
 ·subst h6; kernel_rfl
 by_cases h7:a=7
 ·subst h7; kernel_rfl
 by_cases h8:a=8
 ·subst h8; kernel_rfl
 by_cases h9:a=9
 ·subst h9; kernel_rfl
 by_cases h10:a=10
 ·subst h10; kernel_rfl
 by_cases h11:a=11
 ·subst h11; kernel_rfl
 by_cases h12:a=12
 ·subst h12; kernel_rfl
 unfold zbh_s zbh_p0 zbh_p1 bndC;simp only [deF h1,deF h2,deF h3,deF h4,deF h5,deF h6,deF h7,deF h8,deF h9,deF h10,deF h11,deF h12,if_neg h1,if_neg h2,if_neg h3,if_neg h4,if_neg h5,if_neg h6,if_neg h7,if_neg h8,if_neg h9,if_neg h10,if_neg h11,if_neg h12,cnF,obS,Sum.elim_inr]
abbrev kCrv:BA:=⟨#[99,114,118]⟩
abbrev kSig:BA:=⟨#[115,105,103]⟩
abbrev kVerify:BA:=⟨#[118,101,114,105,102,121]⟩
def restB (x:qGc) (a:Int):Bool:=!(((x.hasUse && (!decide (x.use=kSig))) || (x.hasAlg && (!decide (x.alg=algS a)))) || (x.hasOps && (!decide (kVerify∈x.ops))))
def crvB (x:qGc) (s:BA):Bool:=((txtC x.value (memC x.value kCrv 0)).2.1 && (txtC x.value (memC x.value kCrv 0)).2.2) && decide ((txtC x.value (memC x.value kCrv 0)).1=s)
def bindB (x:qGc) (a:Int):Bool :=
 bif ((decide ((bndC a).1=(0:Int))) || (!decide (x.kty=(bndC a).1))) then false else
 bif (!decide ((bndC a).2=(⟨#[]⟩:BA))) then crvB x (bndC a).2 && restB x a else restB x a
def bindC (x:qGc) (a:Int):Int:=bif bindB x a then 0 else 105
theorem rest_j {x:qGc} (ho:x.ops.length≤262144) {a:Int} (ha:a≤9223372036854775807):zbe_p0 a x.ops x.use x.hasUse x.alg x.hasAlg x.hasOps=some (bif restB x a then 0 else 105):=by
 unfold zbe_p0 restB;unfold qBb;rw [qAa ha,obS,contains_is _ (by omega),obS];cases (((x.hasUse && (!decide (x.use=kSig))) || (x.hasAlg && (!decide (x.alg=algS a)))) || (x.hasOps && (!decide (kVerify∈x.ops)))) <;> rfl
theorem bind_j {x:qGc} {a:Int} (hv:x.value.length≤262144) (ht:(bndC a).2=⟨#[]⟩∨∃e,Tree x.value 0 e) (ho:x.ops.length≤262144) (ha:a≤9223372036854775807):zbe_s x a=some (bindC x a):=by
 unfold zbe_s bindC bindB;rw [bound_j,obS];cases ((decide ((bndC a).1=(0:Int))) || (!decide (x.kty=(bndC a).1))) with
 | true=>rfl
 | false =>
  rw [cnF,cnF];by_cases he:(bndC a).2=⟨#[]⟩
  ·rw [deT he,Bool.not_true,cnF,cnF,rest_j ho ha];rfl
  ·rcases ht with ht | ⟨e,ht⟩
   ·exact (he ht).elim
   ·rw [deF he,Bool.not_false,cnT,cnT];have htx:=text_j (by omega) ht kCrv false;rw [show ((0:Nat):Int)=0 from rfl] at htx;rw [htx,obS];dsimp only;rw [rest_j ho ha];unfold crvB;cases ((txtC x.value (memC x.value kCrv 0)).2.1 && (txtC x.value (memC x.value kCrv 0)).2.2) with
    | false=>rfl
    | true =>
     rw [Bool.not_true,Bool.false_or,Bool.true_and];cases decide ((txtC x.value (memC x.value kCrv 0)).1=(bndC a).2) <;> rfl
def treeN (v:List Eng.Node):Nat→Nat→Nat→Option Nat
 | 0,_,_=>none
 | f+1,0,a=>if a≤v.length then some a else none
 | f+1,k+1,a=>match v[a]? with
  | none=>none
  | some n=>if 0≤n.kids then (match treeN v f n.kids.toNat (a+1) with
   | none=>none
   | some b=>treeN v f k b) else none
theorem treeN_ok {v:List Eng.Node}:∀ {f k a e:Nat},treeN v f k a=some e→Trees v k a e
 | 0,k,a,e,h=>by cases h
 | f+1,0,a,e,h=>by
  unfold treeN at h;split at h
  ·cases h;exact Trees.nil _ (by assumption)
  ·cases h
 | f+1,k+1,a,e,h=>by
  unfold treeN at h;split at h
  ·cases h
  ·rename_i n hn;split at h
   ·rename_i h0;split at h
    ·cases h
    ·rename_i b hb;exact Trees.cons n hn h0 (treeN_ok hb) (treeN_ok h)
   ·cases h
def nS (k t:BA):Eng.Node:=⟨5,k,t,false,0,0⟩
def nO (n:Int):Eng.Node:=⟨7,⟨#[]⟩,⟨#[]⟩,false,0,n⟩
def littleT:BA:=⟨#[123,34,107,101,121,115,34,58,91,123,34,107,116,121,34,58,34,111,99,116,34,44,34,107,105,100,34,58,34,97,34,125,44,123,34,107,116,121,34,58,34,69,67,34,44,34,99,114,118,34,58,34,80,45,50,53,54,34,44,34,107,105,100,34,58,34,98,34,44,34,117,115,101,34,58,34,115,105,103,34,125,44,123,34,107,116,121,34,58,34,82,83,65,34,125,93,125]⟩
def tOct:BA:=⟨#[111,99,116]⟩
def tRsa:BA:=⟨#[82,83,65]⟩
def tEc:BA:=⟨#[69,67]⟩
def tP256:BA:=⟨#[80,45,50,53,54]⟩
def littleV:List Eng.Node:=[nO 1,⟨6,kKeys,⟨#[]⟩,false,0,3⟩,nO 2,nS kKty tOct,nS kKid ⟨#[97]⟩,nO 4,nS kKty tEc,nS kCrv tP256,nS kKid ⟨#[98]⟩,nS kUse kSig,nO 1,nS kKty tRsa]
def e1T:qB8:=([nO 2,nS kKty tOct,nS kKid ⟨#[97]⟩],1,⟨#[97]⟩,true,⟨#[]⟩,false,⟨#[]⟩,false,[],false,())
def e2T:qB8:=([nO 4,nS kKty tEc,nS kCrv tP256,nS kKid ⟨#[98]⟩,nS kUse kSig],3,⟨#[98]⟩,true,kSig,true,⟨#[]⟩,false,[],false,())
def e3T:qB8:=([nO 1,nS kKty tRsa],2,⟨#[]⟩,false,⟨#[]⟩,false,⟨#[]⟩,false,[],false,())
theorem little_read:readR littleT=.ok 97 littleV:=by kernel_rfl
theorem little_key:keyC littleT=([e1T,e2T,e3T],0):=by
 have hp:parseR littleT=(littleV,0,0):=by
  unfold parseR;rw [if_neg (by decide),little_read];rfl
 have hc:parC littleV=some [e1T,e2T,e3T]:=by kernel_rfl
 unfold keyC;rw [if_neg (by decide),hp];dsimp only;rw [if_pos rfl,hc]
theorem brace_key:keyC ⟨#[123,125]⟩=([],100):=by
 have hr:readR ⟨#[123,125]⟩=.ok 2 [nO 0]:=by kernel_rfl
 have hp:parseR ⟨#[123,125]⟩=([nO 0],0,0):=by
  unfold parseR;rw [if_neg (by decide),hr];rfl
 have hc:parC [nO 0]=none:=by kernel_rfl
 unfold keyC;rw [if_neg (by decide),hp];dsimp only;rw [if_pos rfl,hc]
theorem awake_is:zbo_s=some true:=by
 have f1:finC [e1T,e2T,e3T] ⟨#[98]⟩=(untE e2T,0):=by kernel_rfl
 have f2:finC [e1T,e2T,e3T] ⟨#[99]⟩=(emptyE,103):=by kernel_rfl
 obtain ⟨p1,p2,p3⟩:=parse_j littleT;rw [little_key] at p1 p2 p3;have p4:=(parse_j ⟨#[123,125]⟩).1;rw [brace_key] at p4;have t2:Tree (untE e2T).value 0 5:=treeN_ok (f:=20) (by kernel_rfl);have b1:zbe_s (untE e2T) 10=some 0:=(bind_j (by decide) (.inr ⟨5,t2⟩) (by decide) (by decide)).trans (by kernel_rfl);have b2:zbe_s (untE e2T) 11=some 105:=(bind_j (by decide) (.inr ⟨5,t2⟩) (by decide) (by decide)).trans (by kernel_rfl);have b3:zbe_s (untE e1T) 1=some 0:=(bind_j (by decide) (.inl (by kernel_rfl)) (by decide) (by decide)).trans (by kernel_rfl);have b4:zbe_s (untE e3T) 4=some 0:=(bind_j (by decide) (.inl (by kernel_rfl)) (by decide) (by decide)).trans (by kernel_rfl);unfold zbo_s;rw [show (⟨#[123,34,107,101,121,115,34,58,91,123,34,107,116,121,34,58,34,111,99,116,34,44,34,107,105,100,34,58,34,97,34,125,44,123,34,107,116,121,34,58,34,69,67,34,44,34,99,114,118,34,58,34,80,45,50,53,54,34,44,34,107,105,100,34,58,34,98,34,44,34,117,115,101,34,58,34,115,105,103,34,125,44,123,34,107,116,121,34,58,34,82,83,65,34,125,93,125]⟩:BA)=littleT from rfl,p1,obS];dsimp only;rw [find_j p2 p3,obS,find_j p2 p3,obS,p4,obS,f1,f2];dsimp only;rw [show ((((((!decide ((0:Int)=(0:Int))) || (!decide ((0:Int)=(0:Int)))) || (!decide ((103:Int)=(103:Int)))) || (!decide ((100:Int)=(100:Int)))) || (!decide ((([e1T,e2T,e3T]:List qB8).length:Int)=(3:Int)))) || (!decide ((untE e2T).kty=(3:Int))))=false by kernel_rfl,cnF,b1,obS,deT rfl,cnT,b2,obS,deT rfl,qAa (fun _=>by decide),qAa (fun _=>by decide),cnT,qAa (by decide),qAa (by decide),qAa (by decide),qAa (by decide)]
 show ((zbe_s (untE e1T) 1).bind _)=_;rw [b3,obS,deT rfl,qAa (fun _=>by decide),qAa (fun _=>by decide),cnT,qAa (by decide),qAa (by decide),qAa (by decide),qAa (by decide)];show ((zbe_s (untE e3T) 4).bind _)=_;rw [b4];rfl
end Go.Proofs.YtnifdcmeffnpaaaDoor
