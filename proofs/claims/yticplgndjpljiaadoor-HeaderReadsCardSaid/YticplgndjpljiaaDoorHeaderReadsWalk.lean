/-
  HeaderReads: its call returns true.
-/
import Derived.Below
import Derived.Carry
import Derived.Lib.LaidU8
import Derived.Shelf.Lay
import Derived.Ground.NamesProg
import Derived.Test.YticplgndjpljiaaDoorKeyOf
import Derived.Test.YticplgndjpljiaaDoorJW
import Derived.Test.YticplgndjpljiaaDoorEngN
import Derived.Test.YticplgndjpljiaaDoorEngO
import Derived.Test.YticplgndjpljiaaDoorProg
import Derived.Test.YticplgndjpljiaaDoorRows
namespace Go.Proofs.YticplgndjpljiaaDoor
open Go.Eng
set_option linter.unusedVariables false
set_option linter.unusedSimpArgs false
def hAlg:BA:=⟨#[97,108,103]⟩
def hKid:BA:=⟨#[107,105,100]⟩
def hTyp:BA:=⟨#[116,121,112]⟩
def txtF (l:List Eng.Node):Option Nat→BA
 | some p=>(l.getD p (ET.dft .node)).text
 | none=>⟨#[]⟩
def keyH (l:List Eng.Node) (p:Nat):Bool:=decide (qB4 l p=hAlg) || decide (qB4 l p=hKid) || decide (qB4 l p=hTyp)
def strH (l:List Eng.Node) (p:Nat):Bool:=decide ((l.getD p (ET.dft .node)).kind=5)
def qF5 (l:List Eng.Node) (p:Nat):Bool:=keyH l p && strH l p
theorem ne_AK:¬hAlg=hKid:=by decide
theorem ne_AT:¬hAlg=hTyp:=by decide
theorem ne_KT:¬hKid=hTyp:=by decide
theorem hdr_loop {l:List Eng.Node} {L:List Nat} (hO:Obj l L) (hL:L.length≤2000000) :
  ∀(post pre:List Nat),L=pre++post→zad_p0 ((upN L).length:Int) (pre.length:Int) (txtF l (qAw l hAlg pre)) (txtF l (qAw l hKid pre)) (qAw l hAlg pre).isSome (qAw l hKid pre).isSome 0 ⟨#[]⟩ (txtF l (qAw l hTyp pre)) (qAw l hTyp pre).isSome hAlg hKid hTyp (upN L) l =
   some (if post.all (qF5 l)=true then .inr (txtF l (qAw l hAlg L),txtF l (qAw l hKid L),(qAw l hAlg L).isSome,(qAw l hKid L).isSome,0,⟨#[]⟩,txtF l (qAw l hTyp L),(qAw l hTyp L).isSome) else .inl (110,0,⟨#[]⟩,⟨#[]⟩,false))
 | [],pre,h=>by
  unfold zad_p0;refine qAi ?_;unfold qB0;rw [qCb,deF (by rw [h,List.append_nil]; omega),cnF,h,List.append_nil];rfl
 | p::post,pre,h=>by
  have hlen:L.length=pre.length+(post.length+1):=by rw [h,List.length_append,List.length_cons]
  have hp:=hO.lt (p:=p) (by rw [h]; exact List.mem_append_right _ List.mem_cons_self);have hat:(upN L).getD pre.length (ET.dft .i64)=(p:Int):=by rw [h]; exact upN_at pre post p
  have hu:=hO.uniq;rw [h] at hu;have hb:=hu.before;have bad:strH l p=false→∀ {x y:Option (((Int × BA × BA × Bool × Bool × Int × BA × BA × Bool) ⊕ ((Int × Int × BA × BA × Bool) ⊕ (BA × BA × Bool × Bool × Int × BA × BA × Bool))))},(bif (!decide ((l.getD p (ET.dft .node)).kind=5)) then x else y)=x:=fun hs x y=>by
   have:decide ((l.getD p (ET.dft .node)).kind=5)=false:=hs;rw [this];rfl
  have good:strH l p=true→∀ {x y:Option (((Int × BA × BA × Bool × Bool × Int × BA × BA × Bool) ⊕ ((Int × Int × BA × BA × Bool) ⊕ (BA × BA × Bool × Bool × Int × BA × BA × Bool))))},(bif (!decide ((l.getD p (ET.dft .node)).kind=5)) then x else y)=y:=fun hs x y=>by
   have:decide ((l.getD p (ET.dft .node)).kind=5)=true:=hs;rw [this];rfl
  have ih:=hdr_loop hO hL post (pre++[p]) (by rw [h]; simp);have hkey:∀n:BA,(n=(l.getD p (ET.dft .node)).key)↔qB4 l p=n:=fun n=>⟨fun e=>e.symm,fun e=>e.symm⟩
  have hgp:(p::post).all (qF5 l)=(qF5 l p && post.all (qF5 l)):=rfl;rw [hgp];have hl1:((pre++[p]).length:Int)=(pre.length:Int)+1:=by rw [List.length_append,List.length_singleton]; omega
  by_cases hA:qB4 l p=hAlg
  ·have hK:¬qB4 l p=hKid:=by rw [hA]; exact ne_AK
   have hT:¬qB4 l p=hTyp:=by rw [hA]; exact ne_AT
   obtain ⟨f1,f2⟩:=find_hit hb hA;rw [f2,qB1 pre hK,qB1 pre hT,hl1] at ih;have hkk:keyH l p=true:=by unfold keyH; rw [deT hA]; rfl
   cases hs:strH l p with
   | true =>
    have hg:qF5 l p=true:=by unfold qF5; rw [hkk,hs]; rfl
    rw [hg,Bool.true_and,←ih];unfold zad_p0;refine qAo (y:=((pre.length:Int)+1,(l.getD p (ET.dft .node)).text,txtF l (qAw l hKid pre),true,(qAw l hKid pre).isSome,0,(⟨#[]⟩:BA),txtF l (qAw l hTyp pre),(qAw l hTyp pre).isSome)) ?_;unfold qB0;dsimp only;rw [qCb,deT (by omega),cnT,qAa (by omega),Int.toNat_natCast,qAa (by omega),qAa (by omega),hat,Int.toNat_natCast,qAa (by omega),qAa (by omega),qAa (by omega),deT ((hkey hAlg).2 hA),cnT,
     qAa (fun _=>by omega),qAa (fun _=>by omega),qAa (fun _=>by omega),good hs,qAa (by omega),qAa (by omega),qAa (by omega),qAa (by omega)]
    exact qAa (by unfold qAe; omega) _
   | false =>
    have hg:qF5 l p=false:=by unfold qF5; rw [hkk,hs]; rfl
    rw [hg,Bool.false_and,if_neg (by decide)];unfold zad_p0;refine qAi ?_;unfold qB0;dsimp only;rw [qCb,deT (by omega),cnT,qAa (by omega),Int.toNat_natCast,qAa (by omega),qAa (by omega),hat,Int.toNat_natCast,qAa (by omega),qAa (by omega),qAa (by omega),deT ((hkey hAlg).2 hA),cnT,
     qAa (fun _=>by omega),qAa (fun _=>by omega),qAa (fun _=>by omega),bad hs]
  ·have nA:¬hAlg=(l.getD p (ET.dft .node)).key:=fun e=>hA ((hkey hAlg).1 e)
   by_cases hK:qB4 l p=hKid
   ·have hT:¬qB4 l p=hTyp:=by rw [hK]; exact ne_KT
    obtain ⟨f1,f2⟩:=find_hit hb hK;rw [f2,qB1 pre hA,qB1 pre hT,hl1] at ih;have hkk:keyH l p=true:=by unfold keyH; rw [deT hK,Bool.or_true]; rfl
    cases hs:strH l p with
    | true =>
     have hg:qF5 l p=true:=by unfold qF5; rw [hkk,hs]; rfl
     rw [hg,Bool.true_and,←ih];unfold zad_p0;refine qAo (y:=((pre.length:Int)+1,txtF l (qAw l hAlg pre),(l.getD p (ET.dft .node)).text,(qAw l hAlg pre).isSome,true,0,(⟨#[]⟩:BA),txtF l (qAw l hTyp pre),(qAw l hTyp pre).isSome)) ?_;unfold qB0;dsimp only;rw [qCb,deT (by omega),cnT,qAa (by omega),Int.toNat_natCast,qAa (by omega),qAa (by omega),hat,Int.toNat_natCast,qAa (by omega),qAa (by omega),qAa (by omega),deF nA,cnF,qAa (by unfold qAe; omega),qAa (by omega),qAa (by omega),qAa (by omega),qAa (by omega),deT ((hkey hKid).2 hK),cnT,
      qAa (fun _=>by omega),qAa (fun _=>by omega),qAa (fun _=>by omega),good hs,qAa (by omega),qAa (by omega),qAa (by omega),qAa (by omega)]
     exact qAa (by unfold qAe; omega) _
    | false =>
     have hg:qF5 l p=false:=by unfold qF5; rw [hkk,hs]; rfl
     rw [hg,Bool.false_and,if_neg (by decide)];unfold zad_p0;refine qAi ?_;unfold qB0;dsimp only;rw [qCb,deT (by omega),cnT,qAa (by omega),Int.toNat_natCast,qAa (by omega),qAa (by omega),hat,Int.toNat_natCast,qAa (by omega),qAa (by omega),qAa (by omega),deF nA,cnF,qAa (by unfold qAe; omega),qAa (by omega),qAa (by omega),qAa (by omega),qAa (by omega),deT ((hkey hKid).2 hK),cnT,
      qAa (fun _=>by omega),qAa (fun _=>by omega),qAa (fun _=>by omega),bad hs]
   ·have nK:¬hKid=(l.getD p (ET.dft .node)).key:=fun e=>hK ((hkey hKid).1 e)
    by_cases hT:qB4 l p=hTyp
    ·obtain ⟨f1,f2⟩:=find_hit hb hT;rw [f2,qB1 pre hA,qB1 pre hK,hl1] at ih;have hkk:keyH l p=true:=by unfold keyH; rw [deT hT,Bool.or_true]
     cases hs:strH l p with
     | true =>
      have hg:qF5 l p=true:=by unfold qF5; rw [hkk,hs]; rfl
      rw [hg,Bool.true_and,←ih];unfold zad_p0;refine qAo (y:=((pre.length:Int)+1,txtF l (qAw l hAlg pre),txtF l (qAw l hKid pre),(qAw l hAlg pre).isSome,(qAw l hKid pre).isSome,0,(⟨#[]⟩:BA),(l.getD p (ET.dft .node)).text,true)) ?_;unfold qB0;dsimp only;rw [qCb,deT (by omega),cnT,qAa (by omega),Int.toNat_natCast,qAa (by omega),qAa (by omega),hat,Int.toNat_natCast,qAa (by omega),qAa (by omega),qAa (by omega),deF nA,cnF,qAa (by unfold qAe; omega),qAa (by omega),qAa (by omega),qAa (by omega),qAa (by omega),deF nK,cnF,qAa (by unfold qAe; omega),qAa (by omega),qAa (by omega),qAa (by omega),qAa (by omega),deT ((hkey hTyp).2 hT),cnT,
       qAa (fun _=>by omega),qAa (fun _=>by omega),qAa (fun _=>by omega),good hs,qAa (by omega),qAa (by omega),qAa (by omega),qAa (by omega)]
      exact qAa (by unfold qAe; omega) _
     | false =>
      have hg:qF5 l p=false:=by unfold qF5; rw [hkk,hs]; rfl
      rw [hg,Bool.false_and,if_neg (by decide)];unfold zad_p0;refine qAi ?_;unfold qB0;dsimp only;rw [qCb,deT (by omega),cnT,qAa (by omega),Int.toNat_natCast,qAa (by omega),qAa (by omega),hat,Int.toNat_natCast,qAa (by omega),qAa (by omega),qAa (by omega),deF nA,cnF,qAa (by unfold qAe; omega),qAa (by omega),qAa (by omega),qAa (by omega),qAa (by omega),deF nK,cnF,qAa (by unfold qAe; omega),qAa (by omega),qAa (by omega),qAa (by omega),qAa (by omega),deT ((hkey hTyp).2 hT),cnT,
       qAa (fun _=>by omega),qAa (fun _=>by omega),qAa (fun _=>by omega),bad hs]
    ·have nT:¬hTyp=(l.getD p (ET.dft .node)).key:=fun e=>hT ((hkey hTyp).1 e)
     have hkk:keyH l p=false:=by unfold keyH; rw [deF hA,deF hK,deF hT]; rfl
     have hg:qF5 l p=false:=by unfold qF5; rw [hkk]; rfl
     rw [hg,Bool.false_and,if_neg (by decide)];unfold zad_p0;refine qAi ?_;unfold qB0;dsimp only;rw [qCb,deT (by omega),cnT,qAa (by omega),Int.toNat_natCast,qAa (by omega),qAa (by omega),hat,Int.toNat_natCast,qAa (by omega),qAa (by omega),qAa (by omega),deF nA,cnF,qAa (by unfold qAe; omega),qAa (by omega),qAa (by omega),qAa (by omega),qAa (by omega),deF nK,cnF,qAa (by unfold qAe; omega),qAa (by omega),qAa (by omega),qAa (by omega),qAa (by omega),deF nT,cnF,qAa (by unfold qAe; omega),
      qAa (fun e=>by cases e),qAa (fun e=>by cases e),qAa (fun e=>by cases e)]
def noH:qHl:=⟨0,⟨#[]⟩,⟨#[]⟩,false⟩
def hdrV (l:List Eng.Node) (L:List Nat):qHl × Int :=
 if L.all (qF5 l)=true∧(qAw l hAlg L).isSome=true∧(qAw l hKid L).isSome=true then
  (if qEq (txtF l (qAw l hAlg L))=0 then (noH,111) else (⟨qEq (txtF l (qAw l hAlg L)),txtF l (qAw l hKid L),txtF l (qAw l hTyp L),(qAw l hTyp L).isSome⟩,0))
 else (noH,110)
inductive HRead (t:BA):qHl × Int→Prop
 | bad (c b:Int):parseR t=([],c,b)→c≠0→HRead t (noH,c)
 | no (l:List Eng.Node):parseR t=(l,0,0)→OkL l→Tree l 0 l.length→(∀n∈l,qF3 1048576 n)→0<l.length→¬(l.getD 0 (ET.dft .node)).kind=7→HRead t (noH,110)
 | obj (l:List Eng.Node) (L:List Nat):parseR t=(l,0,0)→t.size≤262144→readR t=.ok t.size l→Obj l L→L.length≤2000000→(∀n∈l,qF3 1048576 n)→HRead t (hdrV l L)
theorem hread (t:BA):∃x,HRead t x:=by
 rcases parseR_cases t with ⟨l,h1,hs,h2,hne,hll,hT,hz⟩ | ⟨c,b,h1,hc⟩
 ·have hlt:0<l.length:=List.length_pos_iff.2 hne;have hok:OkL l:=⟨by omega,fun n hn=>(hz n hn).okN (by omega)⟩;by_cases h7:(l.getD 0 (ET.dft .node)).kind=7
  ·obtain ⟨L,hO⟩:=obj_read hs h2 hok hT h7 fun d a b h=>oneS_tree hok d true a b h
   have:=hO.len;exact ⟨_,.obj l L h1 hs h2 hO (by omega) hz⟩
  ·exact ⟨_,.no l h1 hok hT hz hlt h7⟩
 ·exact ⟨_,.bad c b h1 hc⟩
theorem p_header {t:BA} {x:qHl × Int} (h:HRead t x):zad_s t=some x:=by
 unfold zad_s;rw [p_Parse,obS];cases h with
 | bad c b h1 hc =>
  rw [h1];dsimp only;rw [deF hc,Bool.not_false,cnT];rfl
 | no l h1 hok hT hz hlt h7 =>
  rw [h1];dsimp only;rw [deT rfl,Bool.not_true,cnF,qAa (by omega),qAa (by omega),qAa (by omega),show Int.toNat 0=0 from rfl,deF h7,Bool.not_false,cnT];rfl
 | obj l L h1 hs h2 hO hL hz =>
  have hlt:=hO.ne;rw [h1];dsimp only;rw [deT rfl,Bool.not_true,cnF,qAa (by omega),qAa (by omega),qAa (by omega),show Int.toNat 0=0 from rfl,deT hO.kind,Bool.not_true,cnF,hO.kids,obS];have hlp:zad_p0 ((upN L).length:Int) 0 (⟨#[]⟩:BA) (⟨#[]⟩:BA) false false (0:Int) (⟨#[]⟩:BA) (⟨#[]⟩:BA) false (⟨#[97,108,103]⟩:BA) (⟨#[107,105,100]⟩:BA) (⟨#[116,121,112]⟩:BA) (upN L) l=_:=hdr_loop hO hL L [] rfl;rw [hlp,obS];unfold hdrV;by_cases hall:L.all (qF5 l)=true
  ·rw [if_pos hall];show (bif ((!(qAw l hAlg L).isSome) || (!(qAw l hKid L).isSome)) then _ else _)=_
   cases hA:(qAw l hAlg L).isSome with
   | false=>rw [if_neg (fun h=>by cases h.2.1)]; rfl
   | true =>
    cases hK:(qAw l hKid L).isSome with
    | false=>rw [if_neg (fun h=>by cases h.2.2)]; rfl
    | true =>
     rw [if_pos ⟨hall,rfl,rfl⟩];show (bif decide (((qEq (txtF l (qAw l hAlg L)):Nat):Int)=0) then _ else _)=_;by_cases h0:qEq (txtF l (qAw l hAlg L))=0
     ·rw [if_pos h0,h0];rfl
     ·rw [if_neg h0,deF (by omega),cnF]
  ·rw [if_neg hall,if_neg (fun h=>hall h.1)];rfl
theorem ofR_loop (s:BA):∀(j k:Nat),j+k=13→1≤k→qEq s=qB6 s j k→zbi_p0 s (k:Int) algN=some (if qB6 s j k=0 then .inr () else .inl (qB6 s j k:Int))
 | 0,k,hj,h1,h=>by
  unfold zbi_p0;refine qAi ?_;unfold qEe;rw [deF (by show ¬(k:Int)<((13:Nat):Int); omega),cnF];rfl
 | j+1,k,hj,h1,h=>by
  have hlen:algN.length=13:=rfl;have hat:algN.getD k (ET.dft .str)=qFd k:=rfl;unfold zbi_p0;by_cases hk:qFd k=s
  ·have e:qB6 s (j+1) k=k:=by unfold qB6; rw [if_pos hk]
   rw [e,if_neg (by omega)];refine qAi ?_;unfold qEe;rw [deT (by omega),cnT,qAa (by omega),Int.toNat_natCast,qAa (by omega),hat,deT hk,cnT]
  ·have e:qB6 s (j+1) k=qB6 s j (k+1):=by rw [qB6,if_neg hk]
   have ih:=ofR_loop s j (k+1) (by omega) (by omega) (by rw [h,e]);unfold zbi_p0 at ih;rw [e,←ih];refine qAo (y:=((k+1:Nat):Int)) ?_;unfold qEe;rw [deT (by omega),cnT,qAa (by omega),Int.toNat_natCast,qAa (by omega),hat,deF hk,cnF];exact qAa (by unfold qAe; omega) _
theorem r_Of (s:BA):zbi_s s=some (qEq s:Int):=by
 unfold zbi_s;have hn:zbj_s=some algN:=rfl;rw [hn,obS];have:=ofR_loop s 12 1 rfl (by decide) rfl;rw [show ((1:Nat):Int)=1 from rfl] at this;rw [this,obS];show Sum.elim _ _ (if qB6 s 12 1=0 then _ else _)=some ((qB6 s 12 1:Nat):Int);by_cases h0:qB6 s 12 1=0
 ·rw [if_pos h0,h0]; rfl
 ·rw [if_neg h0]; rfl
def cntK (l:List Eng.Node) (key:BA) (L:List Nat):Nat:=L.countP fun p=>decide (qB4 l p=key)
theorem cnt_loop {l:List Eng.Node} {L:List Nat} (hO:Obj l L) (hL:L.length≤2000000) (key:BA):∀(post pre:List Nat) (n:Nat),L=pre++post→n≤pre.length→zbl_p0 key (n:Int) (pre.length:Int) l (upN L)=some ((n+cntK l key post:Nat):Int)
 | [],pre,n,h,hn=>by
  unfold zbl_p0;refine qAi ?_;unfold qEf;rw [qCb,deF (by rw [h,List.append_nil]; omega),cnF];rfl
 | p::post,pre,n,h,hn=>by
  have hlen:L.length=pre.length+(post.length+1):=by rw [h,List.length_append,List.length_cons]
  have hp:=hO.lt (p:=p) (by rw [h]; exact List.mem_append_right _ List.mem_cons_self);have hat:(upN L).getD pre.length (ET.dft .i64)=(p:Int):=by rw [h]; exact upN_at pre post p
  have hl1:((pre++[p]).length:Int)=(pre.length:Int)+1:=by rw [List.length_append,List.length_singleton]; omega
  unfold zbl_p0;by_cases hk:qB4 l p=key
  ·have ih:=cnt_loop hO hL key post (pre++[p]) (n+1) (by rw [h]; simp) (by rw [List.length_append,List.length_singleton]; omega);have e:n+cntK l key (p::post)=n+1+cntK l key post:=by
    unfold cntK;rw [List.countP_cons_of_pos (by exact deT hk)];omega
   unfold zbl_p0 at ih;rw [e,←ih,hl1];refine qAo (y:=(((n+1:Nat):Int),(pre.length:Int)+1)) ?_;unfold qEf;dsimp only;rw [qCb,deT (by omega),cnT,qAa (by omega),Int.toNat_natCast,qAa (by omega),hat,Int.toNat_natCast,qAa (by omega),qAa (by omega),qAa (by omega),deT (show (l.getD p (ET.dft .node)).key=key from hk),cnT,qAa (by unfold qAe; omega)];exact qAa (by unfold qAe; omega) _
  ·have ih:=cnt_loop hO hL key post (pre++[p]) n (by rw [h]; simp) (by rw [List.length_append,List.length_singleton]; omega);have e:n+cntK l key (p::post)=n+cntK l key post:=by
    unfold cntK;rw [List.countP_cons_of_neg (by rw [deF hk]; decide)]
   unfold zbl_p0 at ih;rw [e,←ih,hl1];refine qAo (y:=((n:Int),(pre.length:Int)+1)) ?_;unfold qEf;dsimp only;rw [qCb,deT (by omega),cnT,qAa (by omega),Int.toNat_natCast,qAa (by omega),hat,Int.toNat_natCast,qAa (by omega),qAa (by omega),qAa (by omega),deF (show ¬(l.getD p (ET.dft .node)).key=key from hk),cnF];exact qAa (by unfold qAe; omega) _
theorem r_count {l:List Eng.Node} {L:List Nat} (hO:Obj l L) (hL:L.length≤2000000) (key:BA):zbl_s l key=some (cntK l key L:Int):=by
 unfold zbl_s;rw [hO.rkids,obS];have:=cnt_loop hO hL key L [] 0 rfl (Nat.le_refl _);rw [Nat.zero_add] at this;rw [show zbl_p0 key 0 0 l (upN L)=some (cntK l key L:Int) from this];rfl
theorem cnt_find {l:List Eng.Node} {key:BA}:∀ {L:List Nat},Uniq l L→cntK l key L=if (qAw l key L).isSome=true then 1 else 0
 | [],_=>rfl
 | p::r,h=>by
  unfold cntK;by_cases hk:qB4 l p=key
  ·have h0:(r.countP fun q=>decide (qB4 l q=key))=0:=by
    rw [List.countP_eq_zero];intro q hq;have:=h.1 q hq;rw [hk] at this;rw [deF this];decide
   rw [List.countP_cons_of_pos (by exact deT hk),h0];unfold qAw;rw [if_pos (show (l.getD p (ET.dft .node)).key=key from hk)];rfl
  ·rw [List.countP_cons_of_neg (by rw [deF hk]; decide)];have ih:=cnt_find (key:=key) h.2;unfold cntK at ih;rw [ih];conv=>rhs; unfold qAw
   rw [if_neg (show ¬(l.getD p (ET.dft .node)).key=key from hk)]
theorem cnt_all (l:List Eng.Node):∀L:List Nat,L.length=cntK l hAlg L+cntK l hKid L+cntK l hTyp L+L.countP fun p=>!keyH l p
 | []=>rfl
 | p::r=>by
  have ih:=cnt_all l r;unfold cntK at ih ⊢;rw [List.length_cons];simp only [List.countP_cons];unfold keyH;by_cases hA:qB4 l p=hAlg
  ·have hK:¬qB4 l p=hKid:=by rw [hA]; exact ne_AK
   have hT:¬qB4 l p=hTyp:=by rw [hA]; exact ne_AT
   rw [deT hA,deF hK,deF hT];simp only [Bool.or_false,Bool.not_true,if_true,Bool.false_eq_true,if_false];unfold keyH at ih;omega
  ·by_cases hK:qB4 l p=hKid
   ·have hT:¬qB4 l p=hTyp:=by rw [hK]; exact ne_KT
    rw [deF hA,deT hK,deF hT];simp only [Bool.or_false,Bool.false_or,Bool.not_true,if_true,Bool.false_eq_true,if_false];unfold keyH at ih;omega
   ·by_cases hT:qB4 l p=hTyp
    ·rw [deF hA,deF hK,deT hT];simp only [Bool.false_or,Bool.not_true,if_true,Bool.false_eq_true,if_false];unfold keyH at ih;omega
    ·rw [deF hA,deF hK,deF hT];simp only [Bool.or_false,Bool.not_false,if_true,Bool.false_eq_true,if_false];unfold keyH at ih;omega
theorem others_none {l:List Eng.Node} {L:List Nat}:(L.countP fun p=>!keyH l p)=0↔L.all (keyH l)=true:=by
 rw [List.countP_eq_zero,List.all_eq_true];exact ⟨fun h p hp=>by have:=h p hp; simpa using this,fun h p hp=>by rw [h p hp]; decide⟩
def ofF (l:List Eng.Node):Option Nat→Int
 | some p=>(qEq (l.getD p (ET.dft .node)).text:Int)
 | none=>0
theorem ref_loop {l:List Eng.Node} {L:List Nat} (hO:Obj l L) (hL:L.length≤2000000) :
  ∀(post pre:List Nat),L=pre++post→zbk_p0 (pre.length:Int) l (upN L) (ofF l (qAw l hAlg pre)) (txtF l (qAw l hKid pre)) (txtF l (qAw l hTyp pre)) =
   some (if post.all (strH l)=true then .inr (ofF l (qAw l hAlg L),txtF l (qAw l hKid L),txtF l (qAw l hTyp L)) else .inl (110,0,⟨#[]⟩,⟨#[]⟩,false))
 | [],pre,h=>by
  unfold zbk_p0;refine qAi ?_;unfold qCk;rw [qCb,deF (by rw [h,List.append_nil]; omega),cnF,h,List.append_nil];rfl
 | p::post,pre,h=>by
  have hlen:L.length=pre.length+(post.length+1):=by rw [h,List.length_append,List.length_cons]
  have hp:=hO.lt (p:=p) (by rw [h]; exact List.mem_append_right _ List.mem_cons_self);have hat:(upN L).getD pre.length (ET.dft .i64)=(p:Int):=by rw [h]; exact upN_at pre post p
  have hu:=hO.uniq;rw [h] at hu;have hb:=hu.before;have ih:=ref_loop hO hL post (pre++[p]) (by rw [h]; simp);have hl1:((pre++[p]).length:Int)=(pre.length:Int)+1:=by rw [List.length_append,List.length_singleton]; omega
  have hgp:(p::post).all (strH l)=(strH l p && post.all (strH l)):=rfl;rw [hgp];unfold zbk_p0;cases hs:strH l p with
  | false =>
   have hk5:¬(l.getD p (ET.dft .node)).kind=5:=of_decide_eq_false hs;rw [Bool.false_and,if_neg (by decide)];refine qAi ?_;unfold qCk;dsimp only;rw [qCb,deT (by omega),cnT,qAa (by omega),Int.toNat_natCast,qAa (by omega),hat,Int.toNat_natCast,qAa (by omega),qAa (by omega),qAa (by omega),deF hk5,Bool.not_false,cnT]
  | true =>
   have hk5:(l.getD p (ET.dft .node)).kind=5:=of_decide_eq_true hs;rw [Bool.true_and];unfold zbk_p0 at ih;by_cases hA:qB4 l p=hAlg
   ·have hK:¬qB4 l p=hKid:=by rw [hA]; exact ne_AK
    have hT:¬qB4 l p=hTyp:=by rw [hA]; exact ne_AT
    obtain ⟨f1,f2⟩:=find_hit hb hA;rw [f2,qB1 pre hK,qB1 pre hT,hl1] at ih;rw [←ih];refine qAo (y:=((pre.length:Int)+1,(qEq (l.getD p (ET.dft .node)).text:Int),txtF l (qAw l hKid pre),txtF l (qAw l hTyp pre))) ?_;unfold qCk;dsimp only;rw [qCb,deT (by omega),cnT,qAa (by omega),Int.toNat_natCast,qAa (by omega),hat,Int.toNat_natCast,qAa (by omega),qAa (by omega),qAa (by omega),deT hk5,Bool.not_true,cnF,qAa (by omega),qAa (by omega),qAa (by omega),qAa (by omega),qAa (by omega),deT (show (l.getD p (ET.dft .node)).key=⟨#[97,108,103]⟩ from hA),cnT,qAa (by omega),qAa (by omega),qAa (by omega),qAa (by omega),qAa (by omega),r_Of,obS];exact qAa (by unfold qAe; omega) _
   ·by_cases hK:qB4 l p=hKid
    ·have hT:¬qB4 l p=hTyp:=by rw [hK]; exact ne_KT
     obtain ⟨f1,f2⟩:=find_hit hb hK;rw [f2,qB1 pre hA,qB1 pre hT,hl1] at ih;rw [←ih];refine qAo (y:=((pre.length:Int)+1,ofF l (qAw l hAlg pre),(l.getD p (ET.dft .node)).text,txtF l (qAw l hTyp pre))) ?_;unfold qCk;dsimp only;rw [qCb,deT (by omega),cnT,qAa (by omega),Int.toNat_natCast,qAa (by omega),hat,Int.toNat_natCast,qAa (by omega),qAa (by omega),qAa (by omega),deT hk5,Bool.not_true,cnF,qAa (by omega),qAa (by omega),qAa (by omega),qAa (by omega),qAa (by omega),deF (show ¬(l.getD p (ET.dft .node)).key=⟨#[97,108,103]⟩ from hA),cnF,deT (show (l.getD p (ET.dft .node)).key=⟨#[107,105,100]⟩ from hK),cnT,qAa (by omega),qAa (by omega),qAa (by omega),qAa (by omega),qAa (by omega)];exact qAa (by unfold qAe; omega) _
    ·by_cases hT:qB4 l p=hTyp
     ·obtain ⟨f1,f2⟩:=find_hit hb hT;rw [f2,qB1 pre hA,qB1 pre hK,hl1] at ih;rw [←ih];refine qAo (y:=((pre.length:Int)+1,ofF l (qAw l hAlg pre),txtF l (qAw l hKid pre),(l.getD p (ET.dft .node)).text)) ?_;unfold qCk;dsimp only;rw [qCb,deT (by omega),cnT,qAa (by omega),Int.toNat_natCast,qAa (by omega),hat,Int.toNat_natCast,qAa (by omega),qAa (by omega),qAa (by omega),deT hk5,Bool.not_true,cnF,qAa (by omega),qAa (by omega),qAa (by omega),qAa (by omega),qAa (by omega),deF (show ¬(l.getD p (ET.dft .node)).key=⟨#[97,108,103]⟩ from hA),cnF,deF (show ¬(l.getD p (ET.dft .node)).key=⟨#[107,105,100]⟩ from hK),cnF,deT (show (l.getD p (ET.dft .node)).key=⟨#[116,121,112]⟩ from hT),cnT,qAa (by omega),qAa (by omega),qAa (by omega),qAa (by omega),qAa (by omega)];exact qAa (by unfold qAe; omega) _
     ·rw [qB1 pre hA,qB1 pre hK,qB1 pre hT,hl1] at ih;rw [←ih];refine qAo (y:=((pre.length:Int)+1,ofF l (qAw l hAlg pre),txtF l (qAw l hKid pre),txtF l (qAw l hTyp pre))) ?_;unfold qCk;dsimp only;rw [qCb,deT (by omega),cnT,qAa (by omega),Int.toNat_natCast,qAa (by omega),hat,Int.toNat_natCast,qAa (by omega),qAa (by omega),qAa (by omega),deT hk5,Bool.not_true,cnF,qAa (by omega),qAa (by omega),qAa (by omega),qAa (by omega),qAa (by omega),deF (show ¬(l.getD p (ET.dft .node)).key=⟨#[97,108,103]⟩ from hA),cnF,deF (show ¬(l.getD p (ET.dft .node)).key=⟨#[107,105,100]⟩ from hK),cnF,deF (show ¬(l.getD p (ET.dft .node)).key=⟨#[116,121,112]⟩ from hT),cnF];exact qAa (by unfold qAe; omega) _
theorem good_all {l:List Eng.Node} {L:List Nat}:L.all (qF5 l)=(L.all (keyH l) && L.all (strH l)):=by
 rw [Bool.eq_iff_iff,Bool.and_eq_true,List.all_eq_true,List.all_eq_true,List.all_eq_true];unfold qF5;exact ⟨fun h=>⟨fun p hp=>(Bool.and_eq_true _ _ ▸ h p hp:_∧_).1,fun p hp=>(Bool.and_eq_true _ _ ▸ h p hp:_∧_).2⟩,fun h p hp=>by rw [h.1 p hp,h.2 p hp]; rfl⟩
theorem r_header {t:BA} {x:qHl × Int} (h:HRead t x):zbk_s t=some x:=by
 unfold zbk_s;rw [r_Parse,obS];cases h with
 | bad c b h1 hc =>
  rw [h1];dsimp only;rw [deF hc,Bool.not_false,cnT];rfl
 | no l h1 hok hT hz hlt h7 =>
  rw [h1];dsimp only;rw [deT rfl,Bool.not_true,cnF,qAa (by omega),qAa (by omega),qAa (by omega),show Int.toNat 0=0 from rfl,deF h7,Bool.not_false,cnT];rfl
 | obj l L h1 hs h2 hO hL hz =>
  have hlt:=hO.ne;rw [h1];dsimp only;rw [deT rfl,Bool.not_true,cnF,qAa (by omega),qAa (by omega),qAa (by omega),show Int.toNat 0=0 from rfl,deT hO.kind,Bool.not_true,cnF,hO.rkids,obS];have cA:=cnt_find (key:=hAlg) hO.uniq;have cK:=cnt_find (key:=hKid) hO.uniq;have cT:=cnt_find (key:=hTyp) hO.uniq;have call:=cnt_all l L;have eA:=r_count hO hL hAlg;have eK:=r_count hO hL hKid;have eT:=r_count hO hL hTyp;unfold hAlg at eA;unfold hKid at eK;unfold hTyp at eT;have tB:cntK l hTyp L≤1:=by rw [cT]; split <;> omega
  rw [eA,obS];unfold hdrV;show (bif !decide ((cntK l hAlg L:Int)=1) then _ else _)=_;by_cases hA:¬(qAw l hAlg L).isSome=true
  ·rw [if_neg (fun h=>hA h.2.1)];rw [if_neg hA] at cA;rw [deF (by omega)];rfl
  replace hA:=Classical.not_not.1 hA;rw [if_pos hA] at cA;rw [deT (by omega),Bool.not_true,cnF,eK,obS];show (bif !decide ((cntK l hKid L:Int)=1) then _ else _)=_;by_cases hK:¬(qAw l hKid L).isSome=true
  ·rw [if_neg (fun h=>hK h.2.2)];rw [if_neg hK] at cK;rw [deF (by omega)];rfl
  replace hK:=Classical.not_not.1 hK;rw [if_pos hK] at cK;rw [deT (by omega),Bool.not_true,cnF,eT,obS];rw [qCb];refine (qAa (show qAe (2+(cntK l hTyp L:Int)) by unfold qAe; omega) _).trans ?_;show (bif !decide ((L.length:Int)=2+(cntK l hTyp L:Int)) then _ else _)=_;rw [good_all];by_cases hall:¬L.all (keyH l)=true
  ·have:¬(L.countP fun p=>!keyH l p)=0:=fun e=>hall (others_none.1 e)
   rw [if_neg (fun h=>by rw [Bool.eq_false_iff.2 hall,Bool.false_and] at h; cases h.1)];rw [deF (by omega)];rfl
  replace hall:=Classical.not_not.1 hall;have h0:=others_none.2 hall;rw [deT (by omega),Bool.not_true,cnF];have hlp:zbk_p0 0 l (upN L) 0 ⟨#[]⟩ ⟨#[]⟩=_:=ref_loop hO hL L [] rfl;rw [hlp,obS,hall,Bool.true_and];by_cases hst:¬L.all (strH l)=true
  ·rw [if_neg hst,if_neg (fun h=>hst h.1)];rfl
  replace hst:=Classical.not_not.1 hst;rw [if_pos hst,if_pos ⟨hst,hA,hK⟩];obtain ⟨p,hp⟩:=Option.isSome_iff_exists.1 hA;rw [hp];show (bif decide ((qEq (l.getD p (ET.dft .node)).text:Int)=0) then some ((⟨0,⟨#[]⟩,⟨#[]⟩,false⟩:qHl),(111:Int)) else some ((⟨(qEq (l.getD p (ET.dft .node)).text:Int),txtF l (qAw l hKid L),txtF l (qAw l hTyp L),decide ((cntK l hTyp L:Int)=1)⟩:qHl),(0:Int)))=some (if qEq (l.getD p (ET.dft .node)).text=0 then (noH,111) else (⟨qEq (l.getD p (ET.dft .node)).text,txtF l (qAw l hKid L),txtF l (qAw l hTyp L),(qAw l hTyp L).isSome⟩,0));by_cases ho:qEq (l.getD p (ET.dft .node)).text=0
  ·rw [if_pos ho,deT (by omega)];rfl
  ·rw [if_neg ho,deF (by omega),cnF];show some ((⟨(qEq (l.getD p (ET.dft .node)).text:Int),txtF l (qAw l hKid L),txtF l (qAw l hTyp L),decide ((cntK l hTyp L:Int)=1)⟩:qHl),(0:Int))=_;have:decide ((cntK l hTyp L:Int)=1)=(qAw l hTyp L).isSome:=by
    cases hT:(qAw l hTyp L).isSome with
    | true=>rw [hT,if_pos rfl] at cT; exact deT (by omega)
    | false=>rw [hT,if_neg (by decide)] at cT; exact deF (by omega)
   rw [this]
theorem headerReads_plain (t:BA):zbh_s t=some true:=by
 obtain ⟨x,hx⟩:=hread t;unfold zbh_s;rw [p_header hx,obS,r_header hx,obS];simp
end Go.Proofs.YticplgndjpljiaaDoor
namespace Go.Eng
open Go.RowKit
set_option linter.unusedVariables false
theorem reach_of {x:Nat} (h:decide (x≤reachBytes)=true):x≤140737488351232:=by
 have h2:=of_decide_eq_true h;exact h2
theorem size_of_weights {H:Type} {P:Program} {T:TypeId} {s:BA} (h:∀x∈(DataW.lit (.string s.data.toList):DataW H).weights P T,x≤140737488351232):s.size≤140737488351232:=by
 have h2:=h s.data.toList.length (by simp only [DataW.weights]; exact List.mem_singleton.2 rfl);rw [Array.length_toList] at h2;exact h2
structure LowB (w w':World):Prop where
 os:w'.os=w.os
 output:w'.output=w.output
 size:w.heap.size≤w'.heap.size
 block:∀k,k<w.heap.size→w'.heap[k]?=w.heap[k]?
theorem lowB_of_stays {w w':World} (h:Stays (fun _=>False) w w'):LowB w w':=⟨h.os,h.output,h.size,fun k hk=>h.block k hk id⟩
theorem LowB.frame {W w':World} (h:LowB W w') (may:MemPlace→Prop):W.keptBut w' may:=by
 refine ⟨h.os,h.output,fun i hi=>?_⟩;rw [h.block i hi];split <;> simp_all
theorem LowB.same {W w':World} (h:LowB W w') {p:MemPlace} (hp:p.block<W.heap.size):W.sameAt w' p:=by
 cases p with
 | cell b o=>exact World.cell?_of_block (w:=W) (h.block b hp)
 | map b=>exact h.block b hp
theorem LowB.trod {H:Type} {enc:TypeId × Value→H} {P:Program} {t:TypeId} (hl:laidOutB P=true) (hr:P.readableRec t=true) (hrow:t<P.types.size) {W W':World} {v:Value} {d:DataW H} {ps:List MemPlace}
  (h:DataW.Trod enc P W 0 (fun _=>true) true t v d ps) (hb:LowB W W') (hlt:∀x∈ps,x.block<W.heap.size) :
  DataW.Trod enc P W' 0 (fun b=>decide (b<W.heap.size)) true t v d ps :=
 WideElems.Trod_stays hl hr hrow h (fun x hx=>hb.same (hlt x hx)) (fun x hx=>by simpa using hlt x hx)
theorem callS {P:Program} {f:Nat} {C:CS} (h:qAl P f C) {args:List SV} {v:SV} (hc:C args [] (SV × List SB) (fun v hp'=>some (v,hp'))=some (v,[])) (hs:args.all SV.shut=true) (hv:v.shut=true) (w:World) (ht:tabOK noX w) (vs:List Value) (hvs:args.map (SV.den fun _=>undef)=vs) :
  Calls P f vs.toArray w fun e w'=>e=.returned (v.den fun _=>undef)∧LowB w w':=by
 have:=h.2 args [] v [] hc (fun v hv=>SV.shut_lt (List.all_eq_true.1 hs v hv) _) noX w (fun _=>undef) (HpSat.nil _ _ ht _);rw [hvs] at this;exact this.mono fun e w' ⟨ρ',_,_,a,_,_,b⟩=>⟨by rw [a,SV.shut_den hv ρ' fun _=>undef],lowB_of_stays b⟩
end Go.Eng
namespace Go.Proofs
open Go.Shelf
shelf_lay Lays.n260 Nm 260 at Tryd as Tryd.laysSlow
end Go.Proofs
namespace Go.Proofs.YticplgndjpljiaaDoor
open Go.Eng Go.Shelf
set_option linter.unusedVariables false
theorem first_data:(Rows.laid_unicode_utf8_first:DataW Unit)=Lib.firstData:=by kernel_rfl
theorem accept_data:(Rows.laid_unicode_utf8_acceptRanges:DataW Unit)=Lib.acceptData:=by kernel_rfl
theorem cells_strs {H:Type} {enc:TypeId × Value→H} {P:Program} {w:World} {base:Nat} {sp:Nat→Bool} {held:Bool} {fuel:Nat} {t e:TypeId} {n:Nat} {cs:List Value} {zs:List (List UInt8)} {p:List MemPlace}
  (ht:P.underlying t=some (.array n e)) (he:P.underlying e=some .string) (hce:P.cellsOf e=1) (hct:P.cellsOf t=n)
  (h:DataW.trod enc P w base sp held fuel t cs=some (.agg (zs.map fun z=>.lit (.string z)),p)):cs=zs.map fun z=>Value.string ⟨z.toArray⟩:=by
 cases fuel with
 | zero=>simp [DataW.trod] at h
 | succ fuel =>
  simp only [DataW.trod,ht,hce,hct,Nat.mul_one] at h;split at h
  ·rename_i hl;obtain ⟨xs,hm,hx⟩:=Option.map_eq_some_iff.1 h;have hxs:xs.map (·.1)=zs.map fun z=>(DataW.lit (.string z):DataW H):=by
    have:=congrArg Prod.fst hx;simpa using this
   have hxl:xs.length=n:=by simpa using Lib.mapM_length hm
   have hzl:zs.length=n:=by
    have:=congrArg List.length hxs;simp at this;omega
   apply List.ext_getElem?;intro i;by_cases hi:i<n
   ·obtain ⟨b,hb,hf⟩:=Lib.mapM_at hm i i (by simp [hi]);obtain ⟨z,hc,rfl,_⟩:=DataW.trod_string he hf;have h1:cs[i]?=some (.string z):=by
     have:=congrArg (·[0]?) hc;simpa [List.getElem?_take,List.getElem?_drop] using this
    have h2:(xs.map (·.1))[i]?=some (DataW.lit (.string z.data.toList):DataW H):=by simp [hb]
    rw [hxs] at h2;simp only [List.getElem?_map,Option.map_eq_some_iff,DataW.lit.injEq,Lit.string.injEq] at h2;obtain ⟨z',hz',rfl⟩:=h2;simp only [h1,List.getElem?_map,hz',Option.map_some]
   ·rw [List.getElem?_eq_none (by omega),List.getElem?_eq_none (by simp; omega)]
  ·cases h
def namesZ:List (List UInt8):=[[],[72,83,50,53,54],[72,83,51,56,52],[72,83,53,49,50],[82,83,50,53,54],[82,83,51,56,52],[82,83,53,49,50],[80,83,50,53,54],[80,83,51,56,52],[80,83,53,49,50],[69,83,50,53,54],[69,83,51,56,52],[69,100,68,83,65]]
theorem names_cells {W:World} (h:Lib.VarReads Tryd.prog W "signet/keyset.names" Rows.laid_signet_keyset_names):∀k,k<13→W.cell? ⟨0,k,none⟩=some (.string (qFd k)):=by
 intro k hk;obtain ⟨g,t,cs,fuel,p,hg,hty,hvar,hd⟩:=h;have hg':Tryd.prog.globalNamed "signet/keyset.names" = some 0:=by kernel_rfl
 obtain rfl:=Option.some.inj (hg'.symm.trans hg);have hty':(Tryd.prog.globals[0]?).map (·.type)=some 91:=by kernel_rfl
 obtain rfl:=Option.some.inj (hty'.symm.trans hty);have hcs:=cells_strs (n:=13) (e:=9) (zs:=namesZ) (by kernel_rfl) (by kernel_rfl) (by kernel_rfl) (by kernel_rfl) hd;rw [World.var?_cell hg hvar k,←Array.getElem?_toList,hcs];match k,hk with
 | 0,_ | 1,_ | 2,_ | 3,_ | 4,_ | 5,_ | 6,_ | 7,_ | 8,_ | 9,_ | 10,_ | 11,_ | 12,_=>rfl
theorem utf8N_tabs {W:World} (h3:Lib.VarReads Tryd.prog W "unicode/utf8.first" Rows.laid_unicode_utf8_first) (h4:Lib.VarReads Tryd.prog W "unicode/utf8.acceptRanges" Rows.laid_unicode_utf8_acceptRanges) (h5:Lib.VarReads Tryd.prog W "signet/keyset.names" Rows.laid_signet_keyset_names):tabOK noX W:=by
 rw [first_data] at h3;rw [accept_data] at h4;exact ⟨utf8Tabs_of_reads Tryd.laysSlow ⟨by kernel_rfl,by kernel_rfl,by kernel_rfl,by kernel_rfl,by kernel_rfl,by kernel_rfl,by kernel_rfl⟩ h3 h4,names_cells h5,fun h=>h,fun h=>h,fun h=>h⟩
end Go.Proofs.YticplgndjpljiaaDoor
namespace Go.Proofs.YticplgndjpljiaaDoor
open Go.Eng
set_option linter.unusedVariables false
set_option linter.unusedSimpArgs false
theorem headerReads_tabs {W:World} (h:laidMetH Tryd.prog Rows.headerReadsRow.laid W):tabOK noX W:=by
 have h':laidMet Tryd.prog Rows.headerReadsRow.laid W:=h;exact utf8N_tabs (Lib.laidMet.reads h' (List.mem_cons_of_mem _ (List.mem_cons_of_mem _ List.mem_cons_self))) (Lib.laidMet.reads h' List.mem_cons_self) (Lib.laidMet.reads h' (List.mem_cons_of_mem _ List.mem_cons_self))
theorem headerReads_walk (s0:BA) (W:World) (h0:s0.size≤140737488351232) (hT:tabOK noX W):Calls Tryd.prog 3 #[.string s0] W fun e w'=>e=.returned (.bool true)∧LowB W w':=by
 refine callS zbh_val (args:=[.c (.o (.val (.string s0)))]) (v:=.c (.o (.val (.bool true)))) ?_ rfl rfl W hT [.string s0] rfl;show ((zbh_s s0).bind fun r=>some ((.c (.o (.val (.bool r))),[]):SV × List SB))=_;rw [headerReads_plain s0];rfl
end Go.Proofs.YticplgndjpljiaaDoor
