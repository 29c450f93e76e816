/-
  Texts of a claim.
-/
import Derived.Below
import Derived.Carry
import Derived.Lib.LaidU8
import Derived.Shelf.Lay
import Derived.Ground.NamesProg
import Derived.Test.YtnifdcmeffnpaaaGreatDoorPParsed
import Derived.Test.YtnifdcmeffnpaaaGreatDoorJK
import Derived.Test.YtnifdcmeffnpaaaGreatDoorEngN
import Derived.Test.YtnifdcmeffnpaaaGreatDoorEngO
import Derived.Test.YtnifdcmeffnpaaaGreatDoorProg
import Derived.Test.YtnifdcmeffnpaaaGreatDoorRows
namespace Go.Proofs.YtnifdcmeffnpaaaGreatDoor
open Go.Eng
set_option linter.unusedVariables false
set_option linter.unusedSimpArgs false
theorem getD_str {l:List BA} {i:Nat} (h:i<l.length):l.getD i (ET.dft .str)=l[i]:=by simp [List.getD,h]
theorem index_loop (v:BA) (l:List BA) (hl:l.length≤3000000):∀(j i:Nat),i+j=l.length →
  (∃k:Nat,zcw_p0 v (l.length:Int) (i:Int) l=some (.inl (k:Int))∧v∈l.drop i)∨(zcw_p0 v (l.length:Int) (i:Int) l=some (.inr ())∧¬v∈l.drop i)
 | 0,i,h=>by
  refine .inr ⟨?_,?_⟩
  ·unfold zcw_p0;refine qAh ?_;unfold qC8;rw [deF (by omega),cnF]
  ·rw [List.drop_eq_nil_of_le (by omega)];exact fun h=>by cases h
 | j+1,i,h=>by
  have hi:i<l.length:=by omega
  have hd:l.drop i=l[i]::l.drop (i+1):=List.drop_eq_getElem_cons hi;by_cases he:v=l[i]
  ·refine .inl ⟨i,?_,?_⟩
   ·unfold zcw_p0;refine qAh ?_;unfold qC8;rw [deT (by omega),cnT,qAa (by omega),qAa (by omega),Int.toNat_natCast,getD_str hi,deT he,cnT]
   ·rw [hd,he]; exact List.mem_cons_self
  ·have hst:qC8 v (l.length:Int) (i:Int) l=some (.inl ((i+1:Nat):Int)):=by
    unfold qC8;rw [deT (by omega),cnT,qAa (by omega),qAa (by omega),Int.toNat_natCast,getD_str hi,deF he,cnF];exact qAa (by unfold qAe; omega) _
   have hm:v∈l.drop i↔v∈l.drop (i+1):=by rw [hd,List.mem_cons]; simp [he]
   have ih:=index_loop v l hl j (i+1) (by omega);rw [hm];unfold zcw_p0 at ih ⊢;rw [qAs hst];exact ih
theorem contains_is (l:List BA) (hl:l.length≤3000000) (v:BA):zcv_s l v=some (decide (v∈l)):=by
 have h:=index_loop v l hl l.length 0 (by omega);rw [List.drop_zero,show ((0:Nat):Int)=0 from rfl] at h;unfold zcv_s zcw_s;rcases h with ⟨k,h,hm⟩ | ⟨h,hm⟩
 ·rw [h,obS,Sum.elim_inl,obS,deT (by omega),deT hm]
 ·rw [h,obS,Sum.elim_inr,obS,deF (by omega),deF hm]
theorem qDu.tree {v:List Eng.Node}:∀ {k a e:Nat} {L:List Nat},qDu v k a L e→∀p∈L,∃e',Tree v p e'
 | 0,a,e,L,h,p,hp=>by rw [h.1] at hp; cases hp
 | k+1,a,e,L,h,p,hp=>by
  obtain ⟨b,r,rfl,h1,h2⟩:=h;rcases List.mem_cons.1 hp with rfl | hp
  ·exact ⟨b,h1⟩
  ·exact h2.tree p hp
theorem Tree.lt {v:List Eng.Node} {a e:Nat} (h:Tree v a e):a<v.length:=by
 have:=Trees.le h;omega
theorem mem_findK {v:List Eng.Node} {key:BA}:∀ {l:List Nat} {p:Nat},findK v key l=some p→p∈l
 | [],p,h=>by cases h
 | q::r,p,h=>by
  unfold findK at h;split at h
  ·cases h; exact List.mem_cons_self
  ·exact List.mem_cons_of_mem _ (mem_findK h)
theorem mem_both {v:List Eng.Node} (hv:v.length≤262144) {a e:Nat} (h:Tree v a e) (key:BA) :
  (zah_s v (a:Int) key=some (-1)∧zbz_s v (a:Int) key=some (-1))∨∃p e',Tree v p e'∧(zah_s v (a:Int) key=some (p:Int)∧zbz_s v (a:Int) key=some (p:Int)):=by
 obtain ⟨nd,h1,h2,h3⟩:=h.node;obtain ⟨L,hL⟩:=h3.places;obtain ⟨m1,m2⟩:=member_find (by omega) h1 h2 h3 hL key;rw [m1,m2];by_cases h7:nd.kind=7
 ·rw [if_pos h7];cases hf:findK v key L with
  | none=>exact .inl ⟨rfl,rfl⟩
  | some p =>
   obtain ⟨e',he'⟩:=hL.tree p (mem_findK hf);exact .inr ⟨p,e',he',rfl,rfl⟩
 ·rw [if_neg h7];exact .inl ⟨rfl,rfl⟩
theorem kids_both {v:List Eng.Node} (hv:v.length≤262144) {a e:Nat} (h:Tree v a e) :
  ∃L:List Nat,zag_s v (a:Int)=some (upN L)∧zby_s v (a:Int)=some (upN L)∧L.length≤v.length∧∀p∈L,∃e',Tree v p e':=by
 obtain ⟨nd,h1,h2,h3⟩:=h.node;obtain ⟨L,hL⟩:=h3.places;have l1:=h3.le;exact ⟨L,j_kids (by omega) h1 h2 h3 hL,r_kids (by omega) h1 h2 h3 hL,by rw [hL.len]; omega,hL.tree⟩
theorem qCg {L:List Nat} {i:Nat} (h:i<L.length):(upN L).getD i (ET.dft .i64)=((L[i]:Nat):Int):=by
 unfold upN;simp [List.getD,h]
theorem text_both {v:List Eng.Node} (hv:v.length≤262144) {a e:Nat} (h:Tree v a e) (key:BA) :
  ∃(t:BA) (has ok:Bool),(∀bad,zbh_s ⟨v,(a:Int),bad⟩ key=some (⟨v,(a:Int),bad || !ok⟩,t,has && ok))∧zbs_s v (a:Int) key=some (t,has,ok):=by
 rcases mem_both hv h key with ⟨m1,m2⟩ | ⟨p,e',hp,m1,m2⟩
 ·refine ⟨⟨#[]⟩,false,true,fun bad=>?_,?_⟩
  ·unfold zbh_s;dsimp only;rw [m1,obS,deT (by omega),cnT];cases bad <;> rfl
  ·unfold zbs_s;rw [m2,obS,deT (by omega),cnT]
 ·have hl:=hp.lt;by_cases h5:(v.getD p (ET.dft .node)).kind=5
  ·refine ⟨(v.getD p (ET.dft .node)).text,true,true,fun bad=>?_,?_⟩
   ·unfold zbh_s;dsimp only;rw [m1,obS,deF (by omega),cnF,Int.toNat_natCast,qAa (by omega),qAa (by omega),qAa (by omega),deT h5,Bool.not_true,cnF,qAa (by omega),qAa (by omega),qAa (by omega)];cases bad <;> rfl
   ·unfold zbs_s;rw [m2,obS,deF (by omega),cnF,Int.toNat_natCast,qAa (by omega),qAa (by omega),qAa (by omega),deT h5,Bool.not_true,cnF,qAa (by omega),qAa (by omega),qAa (by omega)]
  ·refine ⟨⟨#[]⟩,true,false,fun bad=>?_,?_⟩
   ·unfold zbh_s;dsimp only;rw [m1,obS,deF (by omega),cnF,Int.toNat_natCast,qAa (by omega),qAa (by omega),qAa (by omega),deF h5,Bool.not_false,cnT];cases bad <;> rfl
   ·unfold zbs_s;rw [m2,obS,deF (by omega),cnF,Int.toNat_natCast,qAa (by omega),qAa (by omega),qAa (by omega),deF h5,Bool.not_false,cnT]
def opsV (v:List Eng.Node):List Nat→List BA→Option (List BA)
 | [],out=>some out
 | p::r,out=>if (v.getD p (ET.dft .node)).kind=5∧¬(v.getD p (ET.dft .node)).text∈out then opsV v r (out++[(v.getD p (ET.dft .node)).text]) else none
theorem opsV_len {v:List Eng.Node}:∀ {l:List Nat} {out o:List BA},opsV v l out=some o→o.length=out.length+l.length
 | [],out,o,h=>by cases h; rfl
 | p::r,out,o,h=>by
  unfold opsV at h;split at h
  ·rw [opsV_len h]; simp; omega
  ·cases h
theorem j_ops {v:List Eng.Node} {L:List Nat} (hL:L.length≤262144) (hp:∀p∈L,p<v.length):∀(j i:Nat) (out:List BA),i+j=L.length→out.length=i →
  zbi_p0 (L.length:Int) (i:Int) v out (upN L)=some (match opsV v (L.drop i) out with | none=>.inl (false,true,[]) | some o=>.inr o)
 | 0,i,out,h,ho=>by
  rw [List.drop_eq_nil_of_le (by omega)];unfold zbi_p0;refine qAh ?_;unfold qDe;dsimp only;rw [deF (by omega),cnF];rfl
 | j+1,i,out,h,ho=>by
  have hi:i<L.length:=by omega
  have hd:L.drop i=L[i]::L.drop (i+1):=List.drop_eq_getElem_cons hi;have hlt:=hp L[i] (List.getElem_mem hi);rw [hd];unfold opsV;by_cases h5:(v.getD L[i] (ET.dft .node)).kind=5
  ·by_cases hm:(v.getD L[i] (ET.dft .node)).text∈out
   ·rw [if_neg (fun h=>h.2 hm)];unfold zbi_p0;refine qAh ?_;unfold qDe;dsimp only;rw [deT (by omega),cnT,qAa (by rw [qBg]; omega),Int.toNat_natCast,qAa (by rw [qBg]; omega),qCg hi,Int.toNat_natCast,qAa (by omega),qAa (by omega),qAa (by omega),deT h5,Bool.not_true,qAa (fun _=>by omega),qAa (fun _=>by omega),qAa (fun _=>by omega),cnF,contains_is out (by omega),obS,deT hm,cnT]
   ·rw [if_pos ⟨h5,hm⟩];have ih:=j_ops hL hp j (i+1) (out++[(v.getD L[i] (ET.dft .node)).text]) (by omega) (by simp [ho]);rw [←ih];unfold zbi_p0;refine qAs (y:=(((i+1:Nat):Int),out++[(v.getD L[i] (ET.dft .node)).text])) ?_;unfold qDe;dsimp only;rw [deT (by omega),cnT,qAa (by rw [qBg]; omega),Int.toNat_natCast,qAa (by rw [qBg]; omega),qCg hi,Int.toNat_natCast,qAa (by omega),qAa (by omega),qAa (by omega),deT h5,Bool.not_true,qAa (fun _=>by omega),qAa (fun _=>by omega),qAa (fun _=>by omega),cnF,contains_is out (by omega),obS,deF hm,cnF,qAa (by omega),qAa (by omega),qAa (by omega),qAa (by rw [List.length_singleton]; omega)];exact qAa (by unfold qAe; omega) _
  ·rw [if_neg (fun h=>h5 h.1)];unfold zbi_p0;refine qAh ?_;unfold qDe;dsimp only;rw [deT (by omega),cnT,qAa (by rw [qBg]; omega),Int.toNat_natCast,qAa (by rw [qBg]; omega),qCg hi,Int.toNat_natCast,qAa (by omega),qAa (by omega),qAa (by omega),deF h5,Bool.not_false,qAa (fun h=>by cases h),qAa (fun h=>by cases h),qAa (fun h=>by cases h),cnT]
theorem r_dup {v:List Eng.Node} {L:List Nat} (hL:L.length≤262144) (hp:∀p∈L,p<v.length) {i:Nat} (hi:i<L.length):∀(k j:Nat),j+k=i →
  zbr_p1 (i:Int) (j:Int) v (upN L)=some (if (v.getD L[i] (ET.dft .node)).text∈((L.take i).drop j).map (fun p=>(v.getD p (ET.dft .node)).text) then .inl (true,false,[]) else .inr ())
 | 0,j,h=>by
  rw [List.drop_eq_nil_of_le (by rw [List.length_take]; omega)];unfold zbr_p1;refine qAh ?_;unfold qDx;rw [deF (by omega),cnF];rfl
 | k+1,j,h=>by
  have hj:j<L.length:=by omega
  have hd:(L.take i).drop j=L[j]::(L.take i).drop (j+1):=by
   rw [List.drop_eq_getElem_cons (by rw [List.length_take]; omega),List.getElem_take]
  have l1:=hp L[i] (List.getElem_mem hi);have l2:=hp L[j] (List.getElem_mem hj);rw [hd,List.map_cons];by_cases he:(v.getD L[j] (ET.dft .node)).text=(v.getD L[i] (ET.dft .node)).text
  ·rw [if_pos (by rw [←he]; exact List.mem_cons_self)];unfold zbr_p1;refine qAh ?_;unfold qDx;rw [deT (by omega),cnT];simp only [Int.toNat_natCast,qCg hi,qCg hj];rw [qAa (by rw [qBg]; omega),qAa (by rw [qBg]; omega),qAa (by omega),qAa (by omega),qAa (by omega),qAa (by rw [qBg]; omega),qAa (by rw [qBg]; omega),qAa (by omega),qAa (by omega),qAa (by omega),deT he,cnT]
  ·have ih:=r_dup hL hp hi k (j+1) (by omega);have hiff:((v.getD L[i] (ET.dft .node)).text∈(v.getD L[j] (ET.dft .node)).text::((L.take i).drop (j+1)).map (fun p=>(v.getD p (ET.dft .node)).text))↔(v.getD L[i] (ET.dft .node)).text∈((L.take i).drop (j+1)).map (fun p=>(v.getD p (ET.dft .node)).text) :=
    ⟨fun h=>(List.mem_cons.1 h).elim (fun h=>(he h.symm).elim) id,List.mem_cons_of_mem _⟩
   simp only [hiff];rw [←ih];unfold zbr_p1;refine qAs ?_;unfold qDx;rw [deT (by omega),cnT];simp only [Int.toNat_natCast,qCg hi,qCg hj];rw [qAa (by rw [qBg]; omega),qAa (by rw [qBg]; omega),qAa (by omega),qAa (by omega),qAa (by omega),qAa (by rw [qBg]; omega),qAa (by rw [qBg]; omega),qAa (by omega),qAa (by omega),qAa (by omega),deF he,cnF];exact qAa (by unfold qAe; omega) _
theorem r_ops {v:List Eng.Node} {L:List Nat} (hL:L.length≤262144) (hp:∀p∈L,p<v.length):∀(j i:Nat),i+j=L.length →
  zbr_p0 (i:Int) v ((L.take i).map fun p=>(v.getD p (ET.dft .node)).text) (upN L)=some (match opsV v (L.drop i) ((L.take i).map fun p=>(v.getD p (ET.dft .node)).text) with | none=>.inl (true,false,[]) | some o=>.inr o)
 | 0,i,h=>by
  rw [List.drop_eq_nil_of_le (by omega)];unfold zbr_p0;refine qAh ?_;unfold qDd;dsimp only;rw [qBg,deF (by omega),cnF];rfl
 | j+1,i,h=>by
  have hi:i<L.length:=by omega
  have hd:L.drop i=L[i]::L.drop (i+1):=List.drop_eq_getElem_cons hi;have hlt:=hp L[i] (List.getElem_mem hi);have hdup:=r_dup hL hp hi i 0 (by omega);rw [List.drop_zero,show ((0:Nat):Int)=0 from rfl] at hdup;have ho:((L.take i).map fun p=>(v.getD p (ET.dft .node)).text).length=i:=by rw [List.length_map,List.length_take]; omega
  have hn:((L.take (i+1)).map fun p=>(v.getD p (ET.dft .node)).text)=((L.take i).map fun p=>(v.getD p (ET.dft .node)).text)++[(v.getD L[i] (ET.dft .node)).text]:=by
   rw [List.take_succ_eq_append_getElem hi,List.map_append];rfl
  have ih:=r_ops hL hp j (i+1) (by omega);rw [hn] at ih;generalize ((L.take i).map fun p=>(v.getD p (ET.dft .node)).text)=out at hdup ho ih ⊢
  rw [hd];unfold opsV;by_cases h5:(v.getD L[i] (ET.dft .node)).kind=5
  ·by_cases hm:(v.getD L[i] (ET.dft .node)).text∈out
   ·rw [if_neg (fun h=>h.2 hm)];rw [if_pos hm] at hdup;unfold zbr_p0;refine qAh ?_;unfold qDd;dsimp only;rw [qBg,deT (by omega),cnT,qAa (by omega),Int.toNat_natCast,qAa (by omega),qCg hi,Int.toNat_natCast,qAa (by omega),qAa (by omega),qAa (by omega),deT h5,Bool.not_true,cnF,hdup,obS];rfl
   ·rw [if_pos ⟨h5,hm⟩,←ih];rw [if_neg hm] at hdup;unfold zbr_p0;refine qAs (y:=(((i+1:Nat):Int),out++[(v.getD L[i] (ET.dft .node)).text])) ?_;unfold qDd;dsimp only;rw [qBg,deT (by omega),cnT,qAa (by omega),Int.toNat_natCast,qAa (by omega),qCg hi,Int.toNat_natCast,qAa (by omega),qAa (by omega),qAa (by omega),deT h5,Bool.not_true,cnF,hdup,obS,Sum.elim_inr,qAa (by omega),qAa (by omega),qAa (by omega),qAa (by omega),qAa (by omega),qAa (by rw [List.length_singleton]; omega)];exact qAa (by unfold qAe; omega) _
  ·rw [if_neg (fun h=>h5 h.1)];unfold zbr_p0;refine qAh ?_;unfold qDd;dsimp only;rw [qBg,deT (by omega),cnT,qAa (by omega),Int.toNat_natCast,qAa (by omega),qCg hi,Int.toNat_natCast,qAa (by omega),qAa (by omega),qAa (by omega),deF h5,Bool.not_false,cnT]
theorem texts_both {v:List Eng.Node} (hv:v.length≤262144) {a e:Nat} (h:Tree v a e) :
  ∃(l:List BA) (has ok:Bool),(∀bad,zbi_s ⟨v,(a:Int),bad⟩ ⟨#[107,101,121,95,111,112,115]⟩=some (⟨v,(a:Int),bad || !ok⟩,l,has && ok))∧zbr_s v (a:Int)=some (l,has,ok)∧l.length≤262144:=by
 rcases mem_both hv h ⟨#[107,101,121,95,111,112,115]⟩ with ⟨m1,m2⟩ | ⟨p,e',hp,m1,m2⟩
 ·refine ⟨[],false,true,fun bad=>?_,?_,by simp⟩
  ·unfold zbi_s;dsimp only;rw [m1,obS,deT (by omega),cnT];cases bad <;> rfl
  ·unfold zbr_s;rw [m2,obS,deT (by omega),cnT]
 ·have hl:=hp.lt;by_cases h6:(v.getD p (ET.dft .node)).kind=6
  ·obtain ⟨L,k1,k2,k3,k4⟩:=kids_both hv hp;have hin:∀q∈L,q<v.length:=fun q hq=>by
    obtain ⟨e2,h2⟩:=k4 q hq;exact h2.lt
   have ej:=j_ops (v:=v) (L:=L) (by omega) hin L.length 0 [] (by omega) rfl;have er:=r_ops (v:=v) (L:=L) (by omega) hin L.length 0 (by omega);rw [List.take_zero,List.map_nil] at er;rw [List.drop_zero,show ((0:Nat):Int)=0 from rfl] at ej er;cases ho:opsV v L [] with
   | none =>
    rw [ho] at ej er;refine ⟨[],true,false,fun bad=>?_,?_,by simp⟩
    ·unfold zbi_s;dsimp only;rw [m1,obS,deF (by omega),cnF,Int.toNat_natCast,qAa (by omega),qAa (by omega),qAa (by omega),deT h6,Bool.not_true,cnF,k1,obS,qBg,ej];cases bad <;> rfl
    ·unfold zbr_s;rw [m2,obS,deF (by omega),cnF,Int.toNat_natCast,qAa (by omega),qAa (by omega),qAa (by omega),deT h6,Bool.not_true,cnF,k2,obS,er];rfl
   | some o =>
    rw [ho] at ej er;refine ⟨o,true,true,fun bad=>?_,?_,by rw [opsV_len ho,List.length_nil]; omega⟩
    ·unfold zbi_s;dsimp only;rw [m1,obS,deF (by omega),cnF,Int.toNat_natCast,qAa (by omega),qAa (by omega),qAa (by omega),deT h6,Bool.not_true,cnF,k1,obS,qBg,ej];cases bad <;> rfl
    ·unfold zbr_s;rw [m2,obS,deF (by omega),cnF,Int.toNat_natCast,qAa (by omega),qAa (by omega),qAa (by omega),deT h6,Bool.not_true,cnF,k2,obS,er];rfl
  ·refine ⟨[],true,false,fun bad=>?_,?_,by simp⟩
   ·unfold zbi_s;dsimp only;rw [m1,obS,deF (by omega),cnF,Int.toNat_natCast,qAa (by omega),qAa (by omega),qAa (by omega),deF h6,Bool.not_false,cnT];cases bad <;> rfl
   ·unfold zbr_s;rw [m2,obS,deF (by omega),cnF,Int.toNat_natCast,qAa (by omega),qAa (by omega),qAa (by omega),deF h6,Bool.not_false,cnT]
theorem kty_both (s:BA):∃k,zbg_s s=some k∧zbq_s s=some k:=by
 unfold zbg_s zbq_s;cases decide (s=(⟨#[111,99,116]⟩:BA)) with
 | true=>exact ⟨1,rfl,rfl⟩
 | false =>
  cases decide (s=(⟨#[82,83,65]⟩:BA)) with
  | true=>exact ⟨2,rfl,rfl⟩
  | false =>
   cases decide (s=(⟨#[69,67]⟩:BA)) with
   | true=>exact ⟨3,rfl,rfl⟩
   | false =>
    cases decide (s=(⟨#[79,75,80]⟩:BA)) with
    | true=>exact ⟨4,rfl,rfl⟩
    | false=>exact ⟨0,rfl,rfl⟩
theorem set_twice {α:Type} (l:List α) (i:Nat) (x y:α):(l.set i x).set i y=l.set i y:=by simp
def OkE (e:qHb):Prop:=e.value.length≤262144∧e.ops.length≤262144
theorem entry_both {v:List Eng.Node} (hv:v.length≤262144) {a e:Nat} (h:Tree v a e):∃x ok,zbf_s v (a:Int)=some (x,ok)∧zbp_s v (a:Int)=some (x,ok)∧OkE x:=by
 have hl:=h.lt;have hle:=Trees.le h;unfold zbf_s zbp_s;simp only [Int.toNat_natCast];rw [qAa (by omega),qAa (by omega),qAa (by omega),qAa (by omega),qAa (by omega),qAa (by omega)];cases decide ((v.getD a (ET.dft .node)).kind=7) with
 | false=>exact ⟨_,_,rfl,rfl,by unfold OkE; simp⟩
 | true =>
  rw [Bool.not_true,cnF,cnF];obtain ⟨t1,h1,o1,j1,r1⟩:=text_both hv h ⟨#[107,116,121]⟩;obtain ⟨t3,h3,o3,j3,r3⟩:=text_both hv h ⟨#[107,105,100]⟩;obtain ⟨t4,h4,o4,j4,r4⟩:=text_both hv h ⟨#[117,115,101]⟩;obtain ⟨t5,h5,o5,j5,r5⟩:=text_both hv h ⟨#[97,108,103]⟩;obtain ⟨l6,h6,o6,j6,r6,b6⟩:=texts_both hv h;obtain ⟨k,kj,kr⟩:=kty_both t1;rw [j1,r1,obS,obS];dsimp only;cases hc:(h1 && o1) with
  | false =>
   have:(!h1 || !o1)=true:=by revert hc; cases h1 <;> cases o1 <;> simp
   rw [this,Bool.not_false,cnT,cnT];exact ⟨_,_,rfl,rfl,by unfold OkE; simp⟩
  | true =>
   rw [Bool.and_eq_true] at hc;obtain ⟨rfl,rfl⟩:=hc;rw [Bool.not_true,cnF,Bool.or_self,cnF,kj,kr,obS,obS,j3,r3,obS,obS];dsimp only;rw [j4,r4,obS,obS];dsimp only;rw [j5,r5,obS,obS];dsimp only;rw [j6,r6,obS,obS];dsimp only;simp only [Bool.false_or];cases hb:(((!o3 || !o4) || !o5) || !o6) with
   | true=>exact ⟨_,_,rfl,rfl,by unfold OkE; simp⟩
   | false =>
    have:o3=true∧o4=true∧o5=true∧o6=true:=by revert hb; cases o3 <;> cases o4 <;> cases o5 <;> cases o6 <;> simp
    obtain ⟨rfl,rfl,rfl,rfl⟩:=this;have hlen:((v.take e).drop a).length=e - a:=by rw [List.length_drop,List.length_take]; omega
    rw [cnF,cnF,jBehind_tree (by omega) h,obS,qAa (by omega),Int.toNat_natCast];unfold zcb_s;rw [rBehind_tree (by omega) h,obS,deF (by omega),deF (by omega),Bool.or_self,cnF,Int.toNat_natCast,Int.toNat_natCast,qAa (by omega)];unfold zcc_s zcu_s;rw [qAa (by omega),qAa (by rw [List.length_nil]; omega),qAa (by omega),List.nil_append,obS,obS];generalize (v.take e).drop a=w at hlen ⊢
    rw [qAa (by omega),qAa (by omega),qAa (by omega),qAa (by omega),qAa (by omega),qAa (by omega),obS,qAa (by rw [List.length_set]; omega),qAa (by rw [List.length_set]; omega),qAa (by rw [List.length_set]; omega),set_twice];have hg:∀x:Eng.Node,(w.set (Int.toNat 0) x).getD (Int.toNat 0) (ET.dft .node)=x:=fun x=>by
     cases w with
     | nil=>simp at hlen; omega
     | cons y r=>rfl
    rw [hg];simp only [Bool.and_true];refine ⟨_,_,rfl,rfl,?_⟩;refine ⟨?_,b6⟩;show (List.set w _ _).length≤_;rw [List.length_set];omega
abbrev EntryT:Type:=(List Eng.Node) × Int × BA × Bool × BA × Bool × BA × Bool × (List BA) × Bool × Unit
def OkT (e:EntryT):Prop:=e.1.length≤262144∧e.2.2.2.2.2.2.2.2.1.length≤262144
theorem loop_both {v:List Eng.Node} (hv:v.length≤262144) {L:List Nat} (hL:L.length≤262144) (ht:∀p∈L,∃e,Tree v p e):∀(j i:Nat) (out:List EntryT),i+j=L.length→out.length=i→(∀x∈out,OkT x) →
  ∃o,zbe_p0 (L.length:Int) (i:Int) v out (upN L)=some o∧zbo_p0 (i:Int) v out (upN L)=some o∧(match o with | .inl x=>x.2=[] | .inr x=>x.length≤262144∧∀y∈x,OkT y)
 | 0,i,out,h,ho,hk=>by
  refine ⟨.inr out,?_,?_,by omega,hk⟩
  ·unfold zbe_p0;refine qAh ?_;unfold qD2;dsimp only;rw [deF (by omega),cnF]
  ·unfold zbo_p0;refine qAh ?_;unfold qD1;dsimp only;rw [qBg,deF (by omega),cnF]
 | j+1,i,out,h,ho,hk=>by
  have hi:i<L.length:=by omega
  obtain ⟨e,he⟩:=ht L[i] (List.getElem_mem hi);obtain ⟨x,ok,q1,q2,q3⟩:=entry_both hv he;cases ok with
  | false =>
   refine ⟨.inl (100,[]),?_,?_,rfl⟩
   ·unfold zbe_p0;refine qAh ?_;unfold qD2;dsimp only;rw [deT (by omega),cnT,qAa (by rw [qBg]; omega),Int.toNat_natCast,qAa (by rw [qBg]; omega),qCg hi,q1,obS];rfl
   ·unfold zbo_p0;refine qAh ?_;unfold qD1;dsimp only;rw [qBg,deT (by omega),cnT,qAa (by omega),Int.toNat_natCast,qAa (by omega),qCg hi,q2,obS];rfl
  | true =>
   obtain ⟨o,o1,o2,o3⟩:=loop_both hv hL ht j (i+1) (out++[(x.value,x.kty,x.kid,x.hasKid,x.use,x.hasUse,x.alg,x.hasAlg,x.ops,x.hasOps,())]) (by omega) (by simp [ho]) (fun y hy=>by
    rcases List.mem_append.1 hy with hy | hy
    ·exact hk y hy
    ·rw [List.mem_singleton.1 hy];exact q3)
   refine ⟨o,?_,?_,o3⟩
   ·rw [←o1];unfold zbe_p0;refine qAs (y:=(((i+1:Nat):Int),out++[(x.value,x.kty,x.kid,x.hasKid,x.use,x.hasUse,x.alg,x.hasAlg,x.ops,x.hasOps,())])) ?_;unfold qD2;dsimp only;rw [deT (by omega),cnT,qAa (by rw [qBg]; omega),Int.toNat_natCast,qAa (by rw [qBg]; omega),qCg hi,q1,obS];dsimp only;rw [Bool.not_true,cnF,qAa (by rw [List.length_singleton]; omega)];exact qAa (by unfold qAe; omega) _
   ·rw [←o2];unfold zbo_p0;refine qAs (y:=(((i+1:Nat):Int),out++[(x.value,x.kty,x.kid,x.hasKid,x.use,x.hasUse,x.alg,x.hasAlg,x.ops,x.hasOps,())])) ?_;unfold qD1;dsimp only;rw [qBg,deT (by omega),cnT,qAa (by omega),Int.toNat_natCast,qAa (by omega),qCg hi,q2,obS];dsimp only;rw [Bool.not_true,cnF,qAa (by rw [List.length_singleton]; omega)];exact qAa (by unfold qAe; omega) _
theorem parse_both (doc:BA):∃l c,zbe_s doc=some (l,c)∧zbo_s doc=some (l,c)∧l.length≤262144∧∀x∈l,OkT x:=by
 unfold zbe_s zbo_s;rw [p_Parse,r_Parse,obS,obS];cases decide ((262144:Int)<(doc.size:Int)) with
 | true=>exact ⟨_,_,rfl,rfl,by simp,fun x hx=>by cases hx⟩
 | false =>
  rw [cnF,cnF];rcases parseR_cases doc with ⟨v,hp,hs,_,hne,hlen,ht,_⟩ | ⟨c,b,hp,hc⟩
  ·rw [hp];dsimp only;rw [deT rfl,Bool.not_true,cnF,cnF];have hv:v.length≤262144:=by omega
   have h0:0<v.length:=ht.lt;rw [qAa (by omega),qAa (by exact h0),qAa (by exact h0)];obtain ⟨nd,h1,h2,h3⟩:=ht.node;have hnd:v.getD (Int.toNat 0) (ET.dft .node)=nd:=nd_get h1;rw [hnd];have hm:¬nd.kind=7→zah_s v 0 ⟨#[107,101,121,115]⟩=some (-1):=fun h7=>by
    obtain ⟨L,hL⟩:=h3.places;have:=(member_find (v:=v) (by omega) h1 h2 h3 hL ⟨#[107,101,121,115]⟩).1;rw [if_neg h7] at this;exact this
   have hb:=mem_both hv ht ⟨#[107,101,121,115]⟩;rw [show ((0:Nat):Int)=0 from rfl] at hb;have fail:∀(f:Int→Option (List EntryT × Int)),(gd ((decide ((-1:Int)<0))=false→0≤(-1:Int)∧(-1:Int)<v.length) <| gd ((decide ((-1:Int)<0))=false→(Int.toNat (-1))<v.length) <| gd ((decide ((-1:Int)<0))=false→(Int.toNat (-1))<v.length) <| bif ((decide ((-1:Int)<0)) || (!decide (((v.getD (Int.toNat (-1)) (ET.dft .node)).kind)=(6:Int)))) then some ([],(100:Int)) else f (-1))=some ([],100):=fun f=>by
    rw [qAa (fun h=>by simp at h),qAa (fun h=>by simp at h),qAa (fun h=>by simp at h),deT (by omega),Bool.true_or,cnT]
   by_cases h7:nd.kind=7
   ·rw [deT h7,Bool.not_true,cnF];rcases hb with ⟨m1,m2⟩ | ⟨p,e',hp',m1,m2⟩
    ·rw [m1,m2,obS,obS];exact ⟨[],100,fail fun x=>_,fail fun x=>_,by simp,fun x hx=>by cases hx⟩
    ·rw [m1,m2,obS,obS];have hlp:=hp'.lt;rw [qAa (fun _=>by omega),qAa (fun _=>by omega),qAa (fun _=>by omega),qAa (fun _=>by omega),qAa (fun _=>by omega),qAa (fun _=>by omega)];cases (decide ((p:Int)<0) || !decide ((v.getD (Int.toNat (p:Int)) (ET.dft .node)).kind=6)) with
     | true=>exact ⟨_,_,rfl,rfl,by simp,fun x hx=>by cases hx⟩
     | false =>
      rw [cnF,cnF];obtain ⟨L,k1,k2,k3,k4⟩:=kids_both hv hp';rw [k1,k2,obS,obS,qBg];obtain ⟨o,o1,o2,o3⟩:=loop_both hv (L:=L) (by omega) k4 L.length 0 [] (by omega) rfl (fun x hx=>by cases hx);rw [show ((0:Nat):Int)=0 from rfl] at o1 o2;rw [o1,o2];simp only [obS];cases o with
      | inl x=>exact ⟨_,_,rfl,rfl,by rw [show x.2=[] from o3]; simp,fun y hy=>by rw [show x.2=[] from o3] at hy; cases hy⟩
      | inr x=>exact ⟨_,_,rfl,rfl,o3.1,o3.2⟩
   ·rw [deF h7,Bool.not_false,cnT,hm h7,obS];exact ⟨[],100,fail fun x=>_,rfl,by simp,fun x hx=>by cases hx⟩
  ·rw [hp];dsimp only;rw [deF hc,Bool.not_false,cnT,cnT];exact ⟨_,_,rfl,rfl,by simp,fun x hx=>by cases hx⟩
theorem same_texts (a:List BA) (ha:a.length≤262144):zbn_s a a=some true:=by
 have key:∀(j i:Nat),i+j=a.length→zbn_p0 (i:Int) a a=some (.inr ()):=by
  intro j;induction j with
  | zero =>
   intro i h;unfold zbn_p0;refine qAh ?_;unfold qFm;rw [deF (by omega),cnF]
  | succ j ih =>
   intro i h;rw [←ih (i+1) (by omega)];unfold zbn_p0;refine qAs ?_;unfold qFm;rw [deT (by omega),cnT,qAa (by omega),qAa (by omega),qAa (by omega),qAa (by omega),deT rfl,Bool.not_true,cnF];exact qAa (by unfold qAe; omega) _
 unfold zbn_s;have:=key a.length 0 (by omega);rw [show ((0:Nat):Int)=0 from rfl] at this;rw [deT rfl,Bool.not_true,cnF,this];rfl
theorem same_nodes (a:List Eng.Node) (ha:a.length≤262144):zbm_s a a=some true:=by
 have key:∀(j i:Nat),i+j=a.length→zbm_p0 (i:Int) a a=some (.inr ()):=by
  intro j;induction j with
  | zero =>
   intro i h;unfold zbm_p0;refine qAh ?_;unfold qFt;rw [deF (by omega),cnF]
  | succ j ih =>
   intro i h;rw [←ih (i+1) (by omega)];unfold zbm_p0;refine qAs ?_;unfold qFt;rw [deT (by omega),cnT,qAa (by omega),qAa (by omega),qAa (by omega),qAa (by omega)];simp only [decide_true,beq_self_eq_true,Bool.and_self,Bool.not_true,cnF];exact qAa (by unfold qAe; omega) _
 unfold zbm_s;have:=key a.length 0 (by omega);rw [show ((0:Nat):Int)=0 from rfl] at this;rw [deT rfl,Bool.not_true,cnF,this];rfl
theorem same_entry (a:qHb) (ha:OkE a):zbk_s a a=some true:=by
 unfold zbk_s;simp only [decide_true,beq_self_eq_true,Bool.and_self,cnT];rw [same_texts _ ha.2,obS,cnT,same_nodes _ ha.1];rfl
theorem same_all (a:List EntryT) (ha:a.length≤262144) (hk:∀x∈a,OkT x):zbl_s a a=some true:=by
 have key:∀(j i:Nat),i+j=a.length→zbl_p0 (i:Int) a a=some (.inr ()):=by
  intro j;induction j with
  | zero =>
   intro i h;unfold zbl_p0;refine qAh ?_;unfold qFa;rw [deF (by omega),cnF]
  | succ j ih =>
   intro i h;have hi:i<a.length:=by omega
   rw [←ih (i+1) (by omega)];unfold zbl_p0;refine qAs ?_;unfold qFa;rw [Int.toNat_natCast];have hg:a.getD i (NT.dft [.rw .node,.int .i64,.str,.bool,.str,.bool,.str,.bool,.rw .str,.bool])=a[i]:=by simp [List.getD,hi]
   rw [hg];have hx:=hk a[i] (List.getElem_mem hi);generalize a[i]=x at hx
   rw [deT (by omega),cnT,qAa (by omega),qAa (by omega),qAa (by omega),qAa (by omega),qAa (by omega),qAa (by omega),qAa (by omega),qAa (by omega),qAa (by omega),qAa (by omega),qAa (by omega),qAa (by omega),same_entry ⟨x.1,x.2.1,x.2.2.1,x.2.2.2.1,x.2.2.2.2.1,x.2.2.2.2.2.1,x.2.2.2.2.2.2.1,x.2.2.2.2.2.2.2.1,x.2.2.2.2.2.2.2.2.1,x.2.2.2.2.2.2.2.2.2.1⟩ hx,obS,Bool.not_true,cnF];exact qAa (by unfold qAe; omega) _
 unfold zbl_s;have:=key a.length 0 (by omega);rw [show ((0:Nat):Int)=0 from rfl] at this;rw [deT rfl,Bool.not_true,cnF,this];rfl
theorem keysetParses_law (doc:BA):zbj_s doc=some true:=by
 obtain ⟨l,c,h1,h2,h3,h4⟩:=parse_both doc;unfold zbj_s;rw [h1,h2,obS,obS,deT rfl,cnT];dsimp only;rw [same_all l h3 h4];rfl
end Go.Proofs.YtnifdcmeffnpaaaGreatDoor
namespace Go.Eng
open Go.RowKit
set_option linter.unusedVariables false
theorem reach_of {x:Nat} (h:decide (x≤reachBytes)=true):x≤140737488351232:=by
 have h2:=of_decide_eq_true h;exact h2
theorem size_of_weights {H:Type} {P:Program} {T:TypeId} {s:BA} (h:∀x∈(DataW.lit (.string s.data.toList):DataW H).weights P T,x≤140737488351232):s.size≤140737488351232:=by
 have h2:=h s.data.toList.length (by simp only [DataW.weights]; exact List.mem_singleton.2 rfl);rw [Array.length_toList] at h2;exact h2
structure LowB (w w':World):Prop where
 os:w'.os=w.os
 output:w'.output=w.output
 size:w.heap.size≤w'.heap.size
 block:∀k,k<w.heap.size→w'.heap[k]?=w.heap[k]?
theorem lowB_of_stays {w w':World} (h:Stays (fun _=>False) w w'):LowB w w':=⟨h.os,h.output,h.size,fun k hk=>h.block k hk id⟩
theorem LowB.frame {W w':World} (h:LowB W w') (may:MemPlace→Prop):W.keptBut w' may:=by
 refine ⟨h.os,h.output,fun i hi=>?_⟩;rw [h.block i hi];split <;> simp_all
theorem LowB.same {W w':World} (h:LowB W w') {p:MemPlace} (hp:p.block<W.heap.size):W.sameAt w' p:=by
 cases p with
 | cell b o=>exact World.cell?_of_block (w:=W) (h.block b hp)
 | map b=>exact h.block b hp
theorem LowB.trod {H:Type} {enc:TypeId × Value→H} {P:Program} {t:TypeId} (hl:laidOutB P=true) (hr:P.readableRec t=true) (hrow:t<P.types.size) {W W':World} {v:Value} {d:DataW H} {ps:List MemPlace}
  (h:DataW.Trod enc P W 0 (fun _=>true) true t v d ps) (hb:LowB W W') (hlt:∀x∈ps,x.block<W.heap.size) :
  DataW.Trod enc P W' 0 (fun b=>decide (b<W.heap.size)) true t v d ps :=
 WideElems.Trod_stays hl hr hrow h (fun x hx=>hb.same (hlt x hx)) (fun x hx=>by simpa using hlt x hx)
theorem callS {P:Program} {f:Nat} {C:CS} (h:qAl P f C) {args:List SV} {v:SV} (hc:C args [] (SV × List SB) (fun v hp'=>some (v,hp'))=some (v,[])) (hs:args.all SV.shut=true) (hv:v.shut=true) (w:World) (ht:tabOK noX w) (vs:List Value) (hvs:args.map (SV.den fun _=>undef)=vs) :
  Calls P f vs.toArray w fun e w'=>e=.returned (v.den fun _=>undef)∧LowB w w':=by
 have:=h.2 args [] v [] hc (fun v hv=>SV.shut_lt (List.all_eq_true.1 hs v hv) _) noX w (fun _=>undef) (HpSat.nil _ _ ht _);rw [hvs] at this;exact this.mono fun e w' ⟨ρ',_,_,a,_,_,b⟩=>⟨by rw [a,SV.shut_den hv ρ' fun _=>undef],lowB_of_stays b⟩
end Go.Eng
namespace Go.Proofs
open Go.Shelf
shelf_lay Lays.n260 Nm 260 at Tryz as Tryz.laysSlow
end Go.Proofs
namespace Go.Proofs.YtnifdcmeffnpaaaGreatDoor
open Go.Eng Go.Shelf
set_option linter.unusedVariables false
theorem first_data:(Rows.laid_unicode_utf8_first:DataW Unit)=Lib.firstData:=by kernel_rfl
theorem accept_data:(Rows.laid_unicode_utf8_acceptRanges:DataW Unit)=Lib.acceptData:=by kernel_rfl
theorem utf8_tabs {W:World} (h3:Lib.VarReads Tryz.prog W "unicode/utf8.first" Rows.laid_unicode_utf8_first) (h4:Lib.VarReads Tryz.prog W "unicode/utf8.acceptRanges" Rows.laid_unicode_utf8_acceptRanges):tabOK noX W:=by
 rw [first_data] at h3;rw [accept_data] at h4;exact ⟨utf8Tabs_of_reads Tryz.laysSlow ⟨by kernel_rfl,by kernel_rfl,by kernel_rfl,by kernel_rfl,by kernel_rfl,by kernel_rfl,by kernel_rfl⟩ h3 h4,fun h=>h,fun h=>h⟩
end Go.Proofs.YtnifdcmeffnpaaaGreatDoor
namespace Go.Proofs.YtnifdcmeffnpaaaGreatDoor
open Go.Eng
set_option linter.unusedVariables false
set_option linter.unusedSimpArgs false
theorem keysetParses_tabs {W:World} (h:laidMetH Tryz.prog Rows.keysetParsesRow.laid W):tabOK noX W:=by
 have h':laidMet Tryz.prog Rows.keysetParsesRow.laid W:=h;exact utf8_tabs (Lib.laidMet.reads h' (List.mem_cons_of_mem _ List.mem_cons_self)) (Lib.laidMet.reads h' List.mem_cons_self)
theorem keysetParses_walk (s0:BA) (W:World) (h0:s0.size≤140737488351232) (hT:tabOK noX W):Calls Tryz.prog 3 #[.string s0] W fun e w'=>e=.returned (.bool true)∧LowB W w':=by
 refine callS zbj_val (args:=[.c (.o (.val (.string s0)))]) (v:=.c (.o (.val (.bool true)))) ?_ rfl rfl W hT [.string s0] rfl;show ((zbj_s s0).bind fun r=>some ((.c (.o (.val (.bool r))),[]):SV × List SB))=_;rw [keysetParses_law s0];rfl
end Go.Proofs.YtnifdcmeffnpaaaGreatDoor
