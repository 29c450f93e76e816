/-
  Texts that spell a string, a number, a word: they are read as what they spell. No program.
-/
import Derived.Test.YticplgndjpljiaaDoorKeyOf
import Derived.Test.YticplgndjpljiaaDoorJW
import Derived.Test.YticplgndjpljiaaDoorPShaped
import Derived.Test.YticplgndjpljiaaDoorPTreeS
namespace Go.Proofs.YticplgndjpljiaaDoor
open Go.Eng
set_option linter.unusedVariables false
set_option linter.unusedSimpArgs false
def hAlg:BA:=⟨#[97,108,103]⟩
def hKid:BA:=⟨#[107,105,100]⟩
def hTyp:BA:=⟨#[116,121,112]⟩
def txtF (l:List Eng.Node):Option Nat→BA
 | some p=>(l.getD p (ET.dft .node)).text
 | none=>⟨#[]⟩
def keyH (l:List Eng.Node) (p:Nat):Bool:=decide (qA0 l p=hAlg) || decide (qA0 l p=hKid) || decide (qA0 l p=hTyp)
def strH (l:List Eng.Node) (p:Nat):Bool:=decide ((l.getD p (ET.dft .node)).kind=5)
def qGc (l:List Eng.Node) (p:Nat):Bool:=keyH l p && strH l p
theorem ne_AK:¬hAlg=hKid:=by decide
theorem ne_AT:¬hAlg=hTyp:=by decide
theorem ne_KT:¬hKid=hTyp:=by decide
theorem hdr_loop {l:List Eng.Node} {L:List Nat} (hO:Obj l L) (hL:L.length≤2000000) :
  ∀(post pre:List Nat),L=pre++post→zaf_p0 ((upN L).length:Int) (pre.length:Int) (txtF l (qAx l hAlg pre)) (txtF l (qAx l hKid pre)) (qAx l hAlg pre).isSome (qAx l hKid pre).isSome 0 ⟨#[]⟩ (txtF l (qAx l hTyp pre)) (qAx l hTyp pre).isSome hAlg hKid hTyp (upN L) l =
   some (if post.all (qGc l)=true then .inr (txtF l (qAx l hAlg L),txtF l (qAx l hKid L),(qAx l hAlg L).isSome,(qAx l hKid L).isSome,0,⟨#[]⟩,txtF l (qAx l hTyp L),(qAx l hTyp L).isSome) else .inl (110,0,⟨#[]⟩,⟨#[]⟩,false))
 | [],pre,h=>by
  unfold zaf_p0;refine qAj ?_;unfold qCd;rw [qGt,deF (by rw [h,List.append_nil]; omega),cnF,h,List.append_nil];rfl
 | p::post,pre,h=>by
  have hlen:L.length=pre.length+(post.length+1):=by rw [h,List.length_append,List.length_cons]
  have hp:=hO.lt (p:=p) (by rw [h]; exact List.mem_append_right _ List.mem_cons_self);have hat:(upN L).getD pre.length (ET.dft .i64)=(p:Int):=by rw [h]; exact upN_at pre post p
  have hu:=hO.uniq;rw [h] at hu;have hb:=hu.before;have bad:strH l p=false→∀ {x y:Option (((Int × BA × BA × Bool × Bool × Int × BA × BA × Bool) ⊕ ((Int × Int × BA × BA × Bool) ⊕ (BA × BA × Bool × Bool × Int × BA × BA × Bool))))},(bif (!decide ((l.getD p (ET.dft .node)).kind=5)) then x else y)=x:=fun hs x y=>by
   have:decide ((l.getD p (ET.dft .node)).kind=5)=false:=hs;rw [this];rfl
  have good:strH l p=true→∀ {x y:Option (((Int × BA × BA × Bool × Bool × Int × BA × BA × Bool) ⊕ ((Int × Int × BA × BA × Bool) ⊕ (BA × BA × Bool × Bool × Int × BA × BA × Bool))))},(bif (!decide ((l.getD p (ET.dft .node)).kind=5)) then x else y)=y:=fun hs x y=>by
   have:decide ((l.getD p (ET.dft .node)).kind=5)=true:=hs;rw [this];rfl
  have ih:=hdr_loop hO hL post (pre++[p]) (by rw [h]; simp);have hkey:∀n:BA,(n=(l.getD p (ET.dft .node)).key)↔qA0 l p=n:=fun n=>⟨fun e=>e.symm,fun e=>e.symm⟩
  have hgp:(p::post).all (qGc l)=(qGc l p && post.all (qGc l)):=rfl;rw [hgp];have hl1:((pre++[p]).length:Int)=(pre.length:Int)+1:=by rw [List.length_append,List.length_singleton]; omega
  by_cases hA:qA0 l p=hAlg
  ·have hK:¬qA0 l p=hKid:=by rw [hA]; exact ne_AK
   have hT:¬qA0 l p=hTyp:=by rw [hA]; exact ne_AT
   obtain ⟨f1,f2⟩:=find_hit hb hA;rw [f2,qHs pre hK,qHs pre hT,hl1] at ih;have hkk:keyH l p=true:=by unfold keyH; rw [deT hA]; rfl
   cases hs:strH l p with
   | true =>
    have hg:qGc l p=true:=by unfold qGc; rw [hkk,hs]; rfl
    rw [hg,Bool.true_and,←ih];unfold zaf_p0;refine qAu (y:=((pre.length:Int)+1,(l.getD p (ET.dft .node)).text,txtF l (qAx l hKid pre),true,(qAx l hKid pre).isSome,0,(⟨#[]⟩:BA),txtF l (qAx l hTyp pre),(qAx l hTyp pre).isSome)) ?_;unfold qCd;dsimp only;rw [qGt,deT (by omega),cnT,qAa (by omega),Int.toNat_natCast,qAa (by omega),qAa (by omega),hat,Int.toNat_natCast,qAa (by omega),qAa (by omega),qAa (by omega),deT ((hkey hAlg).2 hA),cnT,
     qAa (fun _=>by omega),qAa (fun _=>by omega),qAa (fun _=>by omega),good hs,qAa (by omega),qAa (by omega),qAa (by omega),qAa (by omega)]
    exact qAa (by unfold qAe; omega) _
   | false =>
    have hg:qGc l p=false:=by unfold qGc; rw [hkk,hs]; rfl
    rw [hg,Bool.false_and,if_neg (by decide)];unfold zaf_p0;refine qAj ?_;unfold qCd;dsimp only;rw [qGt,deT (by omega),cnT,qAa (by omega),Int.toNat_natCast,qAa (by omega),qAa (by omega),hat,Int.toNat_natCast,qAa (by omega),qAa (by omega),qAa (by omega),deT ((hkey hAlg).2 hA),cnT,
     qAa (fun _=>by omega),qAa (fun _=>by omega),qAa (fun _=>by omega),bad hs]
  ·have nA:¬hAlg=(l.getD p (ET.dft .node)).key:=fun e=>hA ((hkey hAlg).1 e)
   by_cases hK:qA0 l p=hKid
   ·have hT:¬qA0 l p=hTyp:=by rw [hK]; exact ne_KT
    obtain ⟨f1,f2⟩:=find_hit hb hK;rw [f2,qHs pre hA,qHs pre hT,hl1] at ih;have hkk:keyH l p=true:=by unfold keyH; rw [deT hK,Bool.or_true]; rfl
    cases hs:strH l p with
    | true =>
     have hg:qGc l p=true:=by unfold qGc; rw [hkk,hs]; rfl
     rw [hg,Bool.true_and,←ih];unfold zaf_p0;refine qAu (y:=((pre.length:Int)+1,txtF l (qAx l hAlg pre),(l.getD p (ET.dft .node)).text,(qAx l hAlg pre).isSome,true,0,(⟨#[]⟩:BA),txtF l (qAx l hTyp pre),(qAx l hTyp pre).isSome)) ?_;unfold qCd;dsimp only;rw [qGt,deT (by omega),cnT,qAa (by omega),Int.toNat_natCast,qAa (by omega),qAa (by omega),hat,Int.toNat_natCast,qAa (by omega),qAa (by omega),qAa (by omega),deF nA,cnF,qAa (by unfold qAe; omega),qAa (by omega),qAa (by omega),qAa (by omega),qAa (by omega),deT ((hkey hKid).2 hK),cnT,
      qAa (fun _=>by omega),qAa (fun _=>by omega),qAa (fun _=>by omega),good hs,qAa (by omega),qAa (by omega),qAa (by omega),qAa (by omega)]
     exact qAa (by unfold qAe; omega) _
    | false =>
     have hg:qGc l p=false:=by unfold qGc; rw [hkk,hs]; rfl
     rw [hg,Bool.false_and,if_neg (by decide)];unfold zaf_p0;refine qAj ?_;unfold qCd;dsimp only;rw [qGt,deT (by omega),cnT,qAa (by omega),Int.toNat_natCast,qAa (by omega),qAa (by omega),hat,Int.toNat_natCast,qAa (by omega),qAa (by omega),qAa (by omega),deF nA,cnF,qAa (by unfold qAe; omega),qAa (by omega),qAa (by omega),qAa (by omega),qAa (by omega),deT ((hkey hKid).2 hK),cnT,
      qAa (fun _=>by omega),qAa (fun _=>by omega),qAa (fun _=>by omega),bad hs]
   ·have nK:¬hKid=(l.getD p (ET.dft .node)).key:=fun e=>hK ((hkey hKid).1 e)
    by_cases hT:qA0 l p=hTyp
    ·obtain ⟨f1,f2⟩:=find_hit hb hT;rw [f2,qHs pre hA,qHs pre hK,hl1] at ih;have hkk:keyH l p=true:=by unfold keyH; rw [deT hT,Bool.or_true]
     cases hs:strH l p with
     | true =>
      have hg:qGc l p=true:=by unfold qGc; rw [hkk,hs]; rfl
      rw [hg,Bool.true_and,←ih];unfold zaf_p0;refine qAu (y:=((pre.length:Int)+1,txtF l (qAx l hAlg pre),txtF l (qAx l hKid pre),(qAx l hAlg pre).isSome,(qAx l hKid pre).isSome,0,(⟨#[]⟩:BA),(l.getD p (ET.dft .node)).text,true)) ?_;unfold qCd;dsimp only;rw [qGt,deT (by omega),cnT,qAa (by omega),Int.toNat_natCast,qAa (by omega),qAa (by omega),hat,Int.toNat_natCast,qAa (by omega),qAa (by omega),qAa (by omega),deF nA,cnF,qAa (by unfold qAe; omega),qAa (by omega),qAa (by omega),qAa (by omega),qAa (by omega),deF nK,cnF,qAa (by unfold qAe; omega),qAa (by omega),qAa (by omega),qAa (by omega),qAa (by omega),deT ((hkey hTyp).2 hT),cnT,
       qAa (fun _=>by omega),qAa (fun _=>by omega),qAa (fun _=>by omega),good hs,qAa (by omega),qAa (by omega),qAa (by omega),qAa (by omega)]
      exact qAa (by unfold qAe; omega) _
     | false =>
      have hg:qGc l p=false:=by unfold qGc; rw [hkk,hs]; rfl
      rw [hg,Bool.false_and,if_neg (by decide)];unfold zaf_p0;refine qAj ?_;unfold qCd;dsimp only;rw [qGt,deT (by omega),cnT,qAa (by omega),Int.toNat_natCast,qAa (by omega),qAa (by omega),hat,Int.toNat_natCast,qAa (by omega),qAa (by omega),qAa (by omega),deF nA,cnF,qAa (by unfold qAe; omega),qAa (by omega),qAa (by omega),qAa (by omega),qAa (by omega),deF nK,cnF,qAa (by unfold qAe; omega),qAa (by omega),qAa (by omega),qAa (by omega),qAa (by omega),deT ((hkey hTyp).2 hT),cnT,
       qAa (fun _=>by omega),qAa (fun _=>by omega),qAa (fun _=>by omega),bad hs]
    ·have nT:¬hTyp=(l.getD p (ET.dft .node)).key:=fun e=>hT ((hkey hTyp).1 e)
     have hkk:keyH l p=false:=by unfold keyH; rw [deF hA,deF hK,deF hT]; rfl
     have hg:qGc l p=false:=by unfold qGc; rw [hkk]; rfl
     rw [hg,Bool.false_and,if_neg (by decide)];unfold zaf_p0;refine qAj ?_;unfold qCd;dsimp only;rw [qGt,deT (by omega),cnT,qAa (by omega),Int.toNat_natCast,qAa (by omega),qAa (by omega),hat,Int.toNat_natCast,qAa (by omega),qAa (by omega),qAa (by omega),deF nA,cnF,qAa (by unfold qAe; omega),qAa (by omega),qAa (by omega),qAa (by omega),qAa (by omega),deF nK,cnF,qAa (by unfold qAe; omega),qAa (by omega),qAa (by omega),qAa (by omega),qAa (by omega),deF nT,cnF,qAa (by unfold qAe; omega),
      qAa (fun e=>by cases e),qAa (fun e=>by cases e),qAa (fun e=>by cases e)]
def noH:qIp:=⟨0,⟨#[]⟩,⟨#[]⟩,false⟩
def hdrV (l:List Eng.Node) (L:List Nat):qIp × Int :=
 if L.all (qGc l)=true∧(qAx l hAlg L).isSome=true∧(qAx l hKid L).isSome=true then
  (if qE3 (txtF l (qAx l hAlg L))=0 then (noH,111) else (⟨qE3 (txtF l (qAx l hAlg L)),txtF l (qAx l hKid L),txtF l (qAx l hTyp L),(qAx l hTyp L).isSome⟩,0))
 else (noH,110)
inductive HRead (t:BA):qIp × Int→Prop
 | bad (c b:Int):parseR t=([],c,b)→c≠0→HRead t (noH,c)
 | no (l:List Eng.Node):parseR t=(l,0,0)→OkL l→Tree l 0 l.length→(∀n∈l,qF8 1048576 n)→0<l.length→¬(l.getD 0 (ET.dft .node)).kind=7→HRead t (noH,110)
 | obj (l:List Eng.Node) (L:List Nat):parseR t=(l,0,0)→t.size≤262144→qGn t=.ok t.size l→Obj l L→L.length≤2000000→(∀n∈l,qF8 1048576 n)→HRead t (hdrV l L)
theorem hread (t:BA):∃x,HRead t x:=by
 rcases parseR_cases t with ⟨l,h1,hs,h2,hne,hll,hT,hz⟩ | ⟨c,b,h1,hc⟩
 ·have hlt:0<l.length:=List.length_pos_iff.2 hne;have hok:OkL l:=⟨by omega,fun n hn=>(hz n hn).okN (by omega)⟩;by_cases h7:(l.getD 0 (ET.dft .node)).kind=7
  ·obtain ⟨L,hO⟩:=obj_read hs h2 hok hT h7 fun d a b h=>oneS_tree hok d true a b h
   have:=hO.len;exact ⟨_,.obj l L h1 hs h2 hO (by omega) hz⟩
  ·exact ⟨_,.no l h1 hok hT hz hlt h7⟩
 ·exact ⟨_,.bad c b h1 hc⟩
theorem p_header {t:BA} {x:qIp × Int} (h:HRead t x):zaf_s t=some x:=by
 unfold zaf_s;rw [p_Parse,obS];cases h with
 | bad c b h1 hc =>
  rw [h1];dsimp only;rw [deF hc,Bool.not_false,cnT];rfl
 | no l h1 hok hT hz hlt h7 =>
  rw [h1];dsimp only;rw [deT rfl,Bool.not_true,cnF,qAa (by omega),qAa (by omega),qAa (by omega),show Int.toNat 0=0 from rfl,deF h7,Bool.not_false,cnT];rfl
 | obj l L h1 hs h2 hO hL hz =>
  have hlt:=hO.ne;rw [h1];dsimp only;rw [deT rfl,Bool.not_true,cnF,qAa (by omega),qAa (by omega),qAa (by omega),show Int.toNat 0=0 from rfl,deT hO.kind,Bool.not_true,cnF,hO.kids,obS];have hlp:zaf_p0 ((upN L).length:Int) 0 (⟨#[]⟩:BA) (⟨#[]⟩:BA) false false (0:Int) (⟨#[]⟩:BA) (⟨#[]⟩:BA) false (⟨#[97,108,103]⟩:BA) (⟨#[107,105,100]⟩:BA) (⟨#[116,121,112]⟩:BA) (upN L) l=_:=hdr_loop hO hL L [] rfl;rw [hlp,obS];unfold hdrV;by_cases hall:L.all (qGc l)=true
  ·rw [if_pos hall];show (bif ((!(qAx l hAlg L).isSome) || (!(qAx l hKid L).isSome)) then _ else _)=_
   cases hA:(qAx l hAlg L).isSome with
   | false=>rw [if_neg (fun h=>by cases h.2.1)]; rfl
   | true =>
    cases hK:(qAx l hKid L).isSome with
    | false=>rw [if_neg (fun h=>by cases h.2.2)]; rfl
    | true =>
     rw [if_pos ⟨hall,rfl,rfl⟩];show (bif decide (((qE3 (txtF l (qAx l hAlg L)):Nat):Int)=0) then _ else _)=_;by_cases h0:qE3 (txtF l (qAx l hAlg L))=0
     ·rw [if_pos h0,h0];rfl
     ·rw [if_neg h0,deF (by omega),cnF]
  ·rw [if_neg hall,if_neg (fun h=>hall h.1)];rfl
def cntK (l:List Eng.Node) (key:BA) (L:List Nat):Nat:=L.countP fun p=>decide (qA0 l p=key)
theorem cnt_find {l:List Eng.Node} {key:BA}:∀ {L:List Nat},Uniq l L→cntK l key L=if (qAx l key L).isSome=true then 1 else 0
 | [],_=>rfl
 | p::r,h=>by
  unfold cntK;by_cases hk:qA0 l p=key
  ·have h0:(r.countP fun q=>decide (qA0 l q=key))=0:=by
    rw [List.countP_eq_zero];intro q hq;have:=h.1 q hq;rw [hk] at this;rw [deF this];decide
   rw [List.countP_cons_of_pos (by exact deT hk),h0];unfold qAx;rw [if_pos (show (l.getD p (ET.dft .node)).key=key from hk)];rfl
  ·rw [List.countP_cons_of_neg (by rw [deF hk]; decide)];have ih:=cnt_find (key:=key) h.2;unfold cntK at ih;rw [ih];conv=>rhs; unfold qAx
   rw [if_neg (show ¬(l.getD p (ET.dft .node)).key=key from hk)]
theorem cnt_all (l:List Eng.Node):∀L:List Nat,L.length=cntK l hAlg L+cntK l hKid L+cntK l hTyp L+L.countP fun p=>!keyH l p
 | []=>rfl
 | p::r=>by
  have ih:=cnt_all l r;unfold cntK at ih ⊢;rw [List.length_cons];simp only [List.countP_cons];unfold keyH;by_cases hA:qA0 l p=hAlg
  ·have hK:¬qA0 l p=hKid:=by rw [hA]; exact ne_AK
   have hT:¬qA0 l p=hTyp:=by rw [hA]; exact ne_AT
   rw [deT hA,deF hK,deF hT];simp only [Bool.or_false,Bool.not_true,if_true,Bool.false_eq_true,if_false];unfold keyH at ih;omega
  ·by_cases hK:qA0 l p=hKid
   ·have hT:¬qA0 l p=hTyp:=by rw [hK]; exact ne_KT
    rw [deF hA,deT hK,deF hT];simp only [Bool.or_false,Bool.false_or,Bool.not_true,if_true,Bool.false_eq_true,if_false];unfold keyH at ih;omega
   ·by_cases hT:qA0 l p=hTyp
    ·rw [deF hA,deF hK,deT hT];simp only [Bool.false_or,Bool.not_true,if_true,Bool.false_eq_true,if_false];unfold keyH at ih;omega
    ·rw [deF hA,deF hK,deF hT];simp only [Bool.or_false,Bool.not_false,if_true,Bool.false_eq_true,if_false];unfold keyH at ih;omega
theorem others_none {l:List Eng.Node} {L:List Nat}:(L.countP fun p=>!keyH l p)=0↔L.all (keyH l)=true:=by
 rw [List.countP_eq_zero,List.all_eq_true];exact ⟨fun h p hp=>by have:=h p hp; simpa using this,fun h p hp=>by rw [h p hp]; decide⟩
theorem good_all {l:List Eng.Node} {L:List Nat}:L.all (qGc l)=(L.all (keyH l) && L.all (strH l)):=by
 rw [Bool.eq_iff_iff,Bool.and_eq_true,List.all_eq_true,List.all_eq_true,List.all_eq_true];unfold qGc;exact ⟨fun h=>⟨fun p hp=>(Bool.and_eq_true _ _ ▸ h p hp:_∧_).1,fun p hp=>(Bool.and_eq_true _ _ ▸ h p hp:_∧_).2⟩,fun h p hp=>by rw [h.1 p hp,h.2 p hp]; rfl⟩
def hexD (n:Int):Int:=if n<10 then 48+n else 87+n
def escB (c:Int):List Int :=
 if c=34∨c=92 then [92,c] else if c=8 then [92,98] else if c=12 then [92,102] else if c=10 then [92,110] else if c=13 then [92,114] else if c=9 then [92,116]
 else if c<32 then [92,117,48,48,hexD (c / 16),hexD (c % 16)] else [c]
def escL (l:List Int):List Int:=l.flatMap escB
def quoL (s:BA):List Int:=34::(escL (qAi s)++[34])
theorem escB_len (c:Int):1≤(escB c).length∧(escB c).length≤6:=by
 unfold escB;repeat' split
 all_goals simp
theorem escL_len:∀l:List Int,(escL l).length≤6*l.length
 | []=>Nat.le_refl _
 | c::l=>by
  have h1:=escB_len c;have h2:=escL_len l;show (escB c++escL l).length≤_;simp only [List.length_append,List.length_cons];omega
theorem qAo (s:BA):(qAi s).length=s.size:=by
 simp [qAi]
theorem qEa {s:BA} {i:Nat} (h:i<s.size):(qAi s)[i]?=some (bAt s i):=by
 rw [bAt_in h];unfold qAi;have h':i<s.data.toList.length:=by rw [Array.length_toList]; exact h
 rw [List.getElem?_map,List.getElem?_eq_getElem h'];rfl
theorem qD6 {s:BA} {i:Nat} (h:i<s.size):(qAi s).drop i=bAt s i::(qAi s).drop (i+1):=by
 have hl:i<(qAi s).length:=by rw [qAo]; exact h
 have:=qEa h;rw [List.getElem?_eq_getElem hl,snJ] at this;rw [List.drop_eq_getElem_cons hl,this]
theorem bytesL_app (a b:BA):qAi (a++b)=qAi a++qAi b:=by
 unfold qAi;rw [ByteArray.data_append,Array.toList_append,List.map_append]
theorem bytesL_ext (s:BA) (a b:Nat):qAi (s.extract a b)=((qAi s).take b).drop a:=by
 unfold qAi;rw [ByteArray.data_extract,Array.toList_extract,List.extract_eq_drop_take',List.map_drop,List.map_take]
theorem bytesL_range (s:BA):∀x∈qAi s,0≤x∧x<256:=by
 intro x hx;simp only [qAi,List.mem_map] at hx;obtain ⟨b,_,rfl⟩:=hx;have:=b.toNat_lt;omega
theorem bytesI_of (s:BA):qA3 (qAi s)=s:=by
 rw [bytesI_eq];unfold qAi;rw [List.map_map];have:((fun n:Int=>UInt8.ofNat n.toNat) ∘ fun b:UInt8=>(b.toNat:Int))=id:=by
  funext b
  show UInt8.ofNat ((b.toNat:Int)).toNat=b;rw [Int.toNat_natCast];exact UInt8.ofNat_toNat
 rw [this,List.map_id]
theorem bytesL_of {l:List Int} (h:∀x∈l,0≤x∧x<256):qAi (qA3 l)=l:=by
 rw [bytesI_eq];unfold qAi;show List.map _ (List.map (fun n:Int=>UInt8.ofNat n.toNat) l).toArray.toList=l;rw [List.map_map];conv=>rhs; rw [←List.map_id l]
 refine List.map_congr_left fun x hx=>?_
 have hx:=h x hx;show ((UInt8.ofNat x.toNat).toNat:Int)=x;have:(UInt8.ofNat x.toNat).toNat=x.toNat:=by
  rw [UInt8.toNat_ofNat'];exact Nat.mod_eq_of_lt (by omega)
 rw [this];omega
theorem escB_range {c:Int} (h:0≤c∧c<256):∀x∈escB c,0≤x∧x<256:=by
 unfold escB hexD;repeat' split
 all_goals intro x hx; simp at hx; omega
theorem escL_range {l:List Int} (h:∀x∈l,0≤x∧x<256):∀x∈escL l,0≤x∧x<256:=by
 intro x hx;unfold escL at hx;rw [List.mem_flatMap] at hx;obtain ⟨c,hc,hx⟩:=hx;exact escB_range (h c hc) x hx
theorem quoL_range (s:BA):∀x∈quoL s,0≤x∧x<256:=by
 intro x hx;simp only [quoL,List.mem_cons,List.mem_append,List.not_mem_nil,or_false] at hx;rcases hx with rfl | hx | rfl
 ·omega
 ·exact escL_range (bytesL_range s) x hx
 ·omega
theorem quoL_len (s:BA):(quoL s).length≤6*s.size+2:=by
 have:=escL_len (qAi s);rw [qAo] at this;simp only [quoL,List.length_cons,List.length_append,List.length_nil];omega
def hexT:BA:=⟨#[48,49,50,51,52,53,54,55,56,57,97,98,99,100,101,102]⟩
theorem p_cc (b:qIe):zby_s b=some ⟨true,b.buf⟩:=by
 obtain ⟨a,l⟩:=b;unfold zby_s;cases a <;> rfl
theorem p_ws (a:Bool) (buf:List Int) (s:BA) (h:buf.length+s.size≤140737488355328):zbx_s ⟨a,buf⟩ s=some (⟨true,buf++qAi s⟩,(s.size:Int),()):=by
 unfold zbx_s;rw [p_cc,obS];exact qAa h _
theorem p_wb (a:Bool) (buf:List Int) (c:Int) (h:buf.length≤140737488355000):zbw_s ⟨a,buf⟩ c=some (⟨true,buf++[c]⟩,()):=by
 unfold zbw_s;rw [p_cc,obS];exact qAa (by simp; omega) _
def escT:BA:=⟨#[8,12,10,13,9,34,92]⟩
def escU:BA:=⟨#[98,102,110,114,116,34,92]⟩
def escS (r:Int):BA:=(⟨#[92]⟩:BA)++(escU.extract (Int.toNat r) (Int.toNat (r+1)))
def escV (c:Int):BA:=((⟨#[92,117,48,48]⟩:BA)++(hexT.extract (Int.toNat (c / 16)) (Int.toNat (((c / 16)+1) % 256))))++(hexT.extract (Int.toNat (qBl .u8 c 15)) (Int.toNat (((qBl .u8 c 15)+1) % 256)))
noncomputable def escChk (c:Int):Bool :=
 match zca_s escT c with
 | some r=>if 0≤r then decide (r+1≤7) && decide (qAi (escS r)=escB c) else
   decide (0≤qBl .u8 c 15∧qBl .u8 c 15≤((qBl .u8 c 15)+1) % 256∧((qBl .u8 c 15)+1) % 256≤16) && decide (0≤c / 16∧c / 16≤((c / 16)+1) % 256∧((c / 16)+1) % 256≤16) && decide (qAi (escV c)=escB c)
 | none=>false
set_option maxRecDepth 100000 in
theorem escChk_all:∀c:Fin 256,c.val<32∨c.val=34∨c.val=92→escChk (c.val:Int)=true:=by decide +kernel
theorem esc_run {c:Int} (h0:0≤c∧c<256) (hc:c<32∨c=34∨c=92):∃r,zca_s escT c=some r ∧
  ((0≤r∧r+1≤7∧qAi (escS r)=escB c)∨(r<0∧(0≤qBl .u8 c 15∧qBl .u8 c 15≤((qBl .u8 c 15)+1) % 256∧((qBl .u8 c 15)+1) % 256≤16)∧(0≤c / 16∧c / 16≤((c / 16)+1) % 256∧((c / 16)+1) % 256≤16)∧qAi (escV c)=escB c)):=by
 have h:=escChk_all ⟨c.toNat,by omega⟩ (by simp only; omega);simp only at h;rw [Int.toNat_of_nonneg h0.1] at h;unfold escChk at h;cases hr:zca_s escT c with
 | none=>rw [hr] at h; cases h
 | some r =>
  rw [hr] at h;dsimp only at h;refine ⟨r,rfl,?_⟩;by_cases h1:0≤r
  ·rw [if_pos h1,Bool.and_eq_true,decide_eq_true_eq,decide_eq_true_eq] at h;exact .inl ⟨h1,h⟩
  ·rw [if_neg h1,Bool.and_eq_true,Bool.and_eq_true,decide_eq_true_eq,decide_eq_true_eq,decide_eq_true_eq] at h;exact .inr ⟨by omega,h.1.1,h.1.2,h.2⟩
theorem qE8 (a b:BA):(a++b).size=a.size+b.size:=by
 rw [ByteArray.size_append]
theorem escS_size {c r:Int} (h:qAi (escS r)=escB c):(escS r).size≤6:=by
 rw [←qAo,h];exact (escB_len c).2
theorem escV_size {c:Int} (h:qAi (escV c)=escB c):(escV c).size≤6:=by
 rw [←qAo,h];exact (escB_len c).2
theorem quo_step {s:BA} (hs:s.size≤3000000) {x f:Nat} (hx:x<s.size) (hf:f≤x) (buf:List Int) (hb:buf.length+6*(s.size - f)≤140737488355000) :
  qE5 s (f:Int) (s.size:Int) (x:Int) true buf=if bAt s x<32∨bAt s x=34∨bAt s x=92 then some (.inl (((x+1:Nat):Int),((x+1:Nat):Int),true,buf++qAi (s.extract f x)++escB (bAt s x))) else some (.inl ((f:Int),((x+1:Nat):Int),true,buf)):=by
 have hr:=qGx s x;have hn:=bAt_nn (s:=s) (i:=(x:Int)) (by omega) (by omega);unfold qE5;rw [deT (by omega),cnT,qAa (by omega)];generalize bAt s (x:Int)=c at *
 have e1:(((decide ((32:Int)≤c)) && (!decide (c=(34:Int)))) && (!decide (c=(92:Int))))=!decide (c<32∨c=34∨c=92):=by
  rw [Bool.eq_iff_iff];simp only [Bool.and_eq_true,Bool.not_eq_true',decide_eq_true_eq,decide_eq_false_iff_not];omega
 rw [e1];by_cases h:c<32∨c=34∨c=92
 ·rw [deT h,Bool.not_true,cnF,if_pos h,qAa (by omega)];have hz:(s.extract f x).size=x - f:=by rw [ByteArray.size_extract]; omega
  rw [show Int.toNat (f:Int)=f from rfl,show Int.toNat (x:Int)=x from rfl,p_ws true buf _ (by omega),obS,qAa (by unfold qAe; omega)];obtain ⟨r,h1,h2⟩:=esc_run (c:=c) (by omega) h;rw [show (⟨#[8,12,10,13,9,34,92]⟩:BA)=escT from rfl,h1,obS];have hbl:(buf++qAi (s.extract f x)).length≤140737488354994:=by
   rw [List.length_append,qAo]; omega
  rcases h2 with ⟨h3,h4,h5⟩ | ⟨h3,h4,h5,h6⟩
  ·have hsz:=escS_size h5;rw [deT h3,cnT,qAa (by unfold qAe; omega),qAa ⟨h3,by omega,h4⟩];have hss:((⟨#[92]⟩:BA)++((⟨#[98,102,110,114,116,34,92]⟩:BA).extract (Int.toNat r) (Int.toNat (r+(1:Int)))))=escS r:=rfl;rw [hss,qAa (by rw [←qE8,hss]; omega),p_ws _ _ _ (by omega),obS,h5];exact qAa (by unfold qAe; omega) _
  ·have hsz:=escV_size h6;rw [deF (by omega),cnF,qAa (by omega),qAa (by omega)];refine (qAa h5 _).trans ?_;have hvv:(((⟨#[92,117,48,48]⟩:BA)++((⟨#[48,49,50,51,52,53,54,55,56,57,97,98,99,100,101,102]⟩:BA).extract (Int.toNat (c / 16)) (Int.toNat (((c / 16)+(1:Int)) % 256))))++((⟨#[48,49,50,51,52,53,54,55,56,57,97,98,99,100,101,102]⟩:BA).extract (Int.toNat (qBl .u8 c (15:Int))) (Int.toNat (((qBl .u8 c (15:Int))+(1:Int)) % 256))))=escV c:=rfl;rw [qAa (by rw [←hvv,qE8,qE8] at hsz; omega)];refine (qAa h4 _).trans ?_;rw [qAa (by rw [←qE8,hvv]; omega),hvv,p_ws _ _ _ (by omega),obS,h6];exact qAa (by unfold qAe; omega) _
 ·rw [deF h,Bool.not_false,cnT,if_neg h];exact qAa (by unfold qAe; omega) _
theorem take_snoc {s:BA} {x f:Nat} (hx:x<s.size) (hf:f≤x):((qAi s).take (x+1)).drop f=((qAi s).take x).drop f++[bAt s x]:=by
 rw [List.take_add_one,qEa hx];show (_++[bAt s x]).drop f=_;rw [List.drop_append_of_le_length (by rw [List.length_take,qAo]; omega)]
theorem quo_loop {s:BA} (hs:s.size≤3000000):∀(j x f:Nat) (buf:List Int),x+j=s.size→f≤x→buf.length+6*(s.size - f)≤140737488355000 →
  ∃(f':Nat) (buf':List Int),f'≤s.size∧zau_p0 s (f:Int) (s.size:Int) (x:Int) true buf=some ((f':Int),true,buf') ∧
   buf'++qAi (s.extract f' s.size)=buf++(((qAi s).take x).drop f++escL ((qAi s).drop x))∧buf'.length+6*(s.size - f')≤buf.length+6*(s.size - f)
 | 0,x,f,buf,h,hf,hb=>by
  refine ⟨f,buf,by omega,?_,?_,Nat.le_refl _⟩
  ·unfold zau_p0;refine qAj ?_;unfold qE5;rw [deF (by simp only; omega),cnF]
  ·have hx:x=s.size:=by omega
   have hnil:(qAi s).drop x=[]:=List.drop_eq_nil_of_le (by rw [qAo]; omega);rw [bytesL_ext,hnil,hx];show _=buf++(_++[]);rw [List.append_nil]
 | j+1,x,f,buf,h,hf,hb=>by
  have hst:=quo_step hs (x:=x) (f:=f) (by omega) hf buf hb;have hd:=qD6 (s:=s) (i:=x) (by omega);by_cases hc:bAt s x<32∨bAt s x=34∨bAt s x=92
  ·rw [if_pos hc] at hst;have hz:(s.extract f x).size=x - f:=by rw [ByteArray.size_extract]; omega
   have he:=escB_len (bAt s x);have hl:(buf++qAi (s.extract f x)++escB (bAt s x)).length=buf.length+(x - f)+(escB (bAt s x)).length:=by
    rw [List.length_append,List.length_append,qAo,hz]
   obtain ⟨f',buf',g1,g2,g3,g4⟩:=quo_loop hs j (x+1) (x+1) (buf++qAi (s.extract f x)++escB (bAt s x)) (by omega) (Nat.le_refl _) (by rw [hl]; omega);refine ⟨f',buf',g1,?_,?_,by rw [hl] at g4; omega⟩
   ·rw [←g2];unfold zau_p0;exact qAu hst
   ·rw [g3,hd,bytesL_ext];have:((qAi s).take (x+1)).drop (x+1)=[]:=List.drop_eq_nil_of_le (by rw [List.length_take]; omega);rw [this];show _=buf++(_++(escB (bAt s x)++escL ((qAi s).drop (x+1))));simp only [List.append_assoc,List.nil_append]
  ·rw [if_neg hc] at hst;obtain ⟨f',buf',g1,g2,g3,g4⟩:=quo_loop hs j (x+1) f buf (by omega) (by omega) hb;refine ⟨f',buf',g1,?_,?_,g4⟩
   ·rw [←g2];unfold zau_p0;exact qAu hst
   ·rw [g3,hd,take_snoc (by omega) hf];have:escB (bAt s x)=[bAt s x]:=by
     unfold escB;rw [if_neg (by omega),if_neg (by omega),if_neg (by omega),if_neg (by omega),if_neg (by omega),if_neg (by omega),if_neg (by omega)]
    show _=buf++(_++(escB (bAt s x)++escL ((qAi s).drop (x+1))));rw [this];simp only [List.append_assoc]
theorem p_quote (a:Bool) (buf:List Int) (s:BA) (hs:s.size≤3000000) (hb:buf.length≤140737450000000):zau_s ⟨a,buf⟩ s=some ⟨true,buf++quoL s⟩:=by
 obtain ⟨f',buf',g1,g2,g3,g4⟩:=quo_loop hs s.size 0 0 (buf++[34]) (by omega) (by omega) (by simp; omega);rw [show ((0:Nat):Int)=0 from rfl] at g2;unfold zau_s;rw [p_wb _ _ _ (by omega),obS,g2,obS];have hz:(s.extract f' s.size).size=s.size - f':=by rw [ByteArray.size_extract]; omega
 simp only [List.length_append,List.length_singleton] at g4;have h1:((s.extract f' s.size)++(⟨#[34]⟩:BA)).size=s.size - f'+1:=by rw [qE8,hz]; rfl
 rw [qAa (by omega)];simp only [Int.toNat_natCast];rw [qAa (by rw [←qE8,h1]; omega),p_ws _ _ _ (by rw [h1]; omega),obS,bytesL_app,←List.append_assoc,g3];simp only [List.take_zero,List.drop_nil,List.nil_append,List.drop_zero];congr 2
 show buf++[34]++escL (qAi s)++qAi ⟨#[34]⟩=buf++quoL s;rw [show qAi (⟨#[34]⟩:BA)=[34] from rfl];simp [quoL]
end Go.Proofs.YticplgndjpljiaaDoor
namespace Go.Proofs.YticplgndjpljiaaDoor
open Go.Eng
set_option linter.unusedVariables false
set_option linter.unusedSimpArgs false
def Has (t:BA):Nat→List Int→Prop
 | a,[]=>a≤t.size
 | a,c::L=>bAt t (a:Int)=c∧Has t (a+1) L
theorem Has.le {t:BA}:∀ {L:List Int} {a:Nat},Has t a L→a+L.length≤t.size
 | [],a,h=>h
 | c::L,a,h=>by
  have:=Has.le h.2;rw [List.length_cons];omega
theorem Has.append {t:BA}:∀ {L M:List Int} {a:Nat},Has t a (L++M)↔Has t a L∧Has t (a+L.length) M
 | [],M,a=>by
  show Has t a M↔a≤t.size∧Has t (a+0) M;exact ⟨fun h=>⟨by have:=h.le; omega,h⟩,fun h=>h.2⟩
 | c::L,M,a=>by
  show (_∧Has t (a+1) (L++M))↔(_∧Has t (a+1) L)∧Has t (a+(L.length+1)) M;rw [Has.append (L:=L),show a+(L.length+1)=a+1+L.length by omega,and_assoc]
theorem has_self {t:BA}:∀(j a:Nat),a+j=t.size→Has t a ((qAi t).drop a)
 | 0,a,h=>by
  rw [List.drop_eq_nil_of_le (by rw [qAo]; omega)];show a≤t.size;omega
 | j+1,a,h=>by
  rw [qD6 (by omega)];exact ⟨rfl,has_self j (a+1) (by omega)⟩
theorem has_all (t:BA):Has t 0 (qAi t):=by
 have:=has_self (t:=t) t.size 0 (by omega);rwa [List.drop_zero] at this
inductive Spells (t s:BA):Nat→Nat→Nat→Nat→Prop
 | nil (a p:Nat):Spells t s a a p p
 | raw {a b p q:Nat}:p<s.size→bAt t (a:Int)=bAt s (p:Int)→32≤bAt s (p:Int)→bAt s (p:Int)<128→bAt s (p:Int)≠34→bAt s (p:Int)≠92→Spells t s (a+1) b (p+1) q→Spells t s a b p q
 | seq {a b p q:Nat}:p<s.size→128≤by8 s p→seqK s p=0→(∀k,k<seqW s p→by8 t (a+k)=by8 s (p+k))→a+seqW s p≤t.size→Spells t s (a+seqW s p) b (p+seqW s p) q→Spells t s a b p q
 | esc {a a' b p q:Nat} {u:Int}:bAt t (a:Int)=92→escR t a=.ok a' u→((qAi s).drop p).take (utfL u).length=utfL u→Spells t s a' b (p+(utfL u).length) q→Spells t s a b p q
theorem take_drop (l:List Int) (p n:Nat):(l.drop p).take n++l.drop (p+n)=l.drop p:=by
 rw [←List.drop_drop,List.take_append_drop]
theorem bytesL_seq {t s:BA} {a p w:Nat} (h:∀k,k<w→by8 t (a+k)=by8 s (p+k)) (ha:a+w≤t.size) (hp:p+w≤s.size):qAi (t.extract a (a+w))=((qAi s).drop p).take w:=by
 have hl:(qAi (t.extract a (a+w))).length=w:=by rw [qAo,ByteArray.size_extract]; omega
 refine List.ext_getElem ?_ fun i h1 h2=>?_
 ·rw [hl,List.length_take,List.length_drop,qAo];omega
 ·have hi:i<w:=by omega
  have e1:=qEa (s:=t.extract a (a+w)) (i:=i) (by rw [ByteArray.size_extract]; omega);rw [List.getElem?_eq_getElem h1,snJ,qD5 t a (a+w) (i:Int) (by omega) (by omega)] at e1;have e2:=qEa (s:=s) (i:=p+i) (by omega);rw [List.getElem?_eq_getElem (by rw [qAo]; omega),snJ] at e2;rw [List.getElem_take,List.getElem_drop,e1,e2];have b1:=qEo (t:=t) (i:=a+i) (by omega);have b2:=qEo (t:=s) (i:=p+i) (by omega);have:=h i hi;rw [show (a:Int)+(i:Int)=((a+i:Nat):Int) by omega];omega
theorem quo_run {t s:BA} {a b p q:Nat} (h:Spells t s a b p q):q=s.size→p≤q→bAt t (b:Int)=34→∀(n:Nat) (acc:List Int),t.size - a<n→a≤b∧quoR t n a acc=.ok (b+1) (acc++(qAi s).drop p):=by
 induction h with
 | nil a p =>
  intro hq hp hb n acc hn;refine ⟨Nat.le_refl _,?_⟩;obtain ⟨n,rfl⟩:∃m,n=m+1:=⟨n - 1,by omega⟩;unfold quoR;rw [if_neg (by omega),if_pos hb,List.drop_eq_nil_of_le (by rw [qAo]; omega),List.append_nil]
 | @raw a b p q hp he h1 h2 h3 h4 hs ih =>
  intro hq hpq hb n acc hn;have ha:=qA6 (t:=t) (a:=a) (by omega);obtain ⟨n,rfl⟩:∃m,n=m+1:=⟨n - 1,by omega⟩;obtain ⟨i1,i2⟩:=ih hq (by omega) hb n (acc++[bAt t (a:Int)]) (by omega);refine ⟨by omega,?_⟩;unfold quoR;rw [if_neg (by omega),if_neg (by omega),if_neg (by omega),if_pos (by omega),i2,qD6 hp,he,List.append_assoc];rfl
 | @seq a b p q hp h8 hk hsame hle hs ih =>
  intro hq hpq hb n acc hn;have hw:=qE9 hp h8 hk;have hx:=seqK_ext (s:=t) (b:=a) hp h8 hk (fun k hk'=>hsame k hk') hle;have h0:=hsame 0 (by omega);simp only [Nat.add_zero] at h0;have ha8:=qEo (t:=t) (i:=a) (by omega);obtain ⟨n,rfl⟩:∃m,n=m+1:=⟨n - 1,by omega⟩;obtain ⟨i1,i2⟩:=ih hq (by omega) hb n (acc++qAi (t.extract a (a+seqW t a))) (by omega);refine ⟨by omega,?_⟩;unfold quoR;rw [if_neg (by omega),if_neg (by omega),if_neg (by omega),if_neg (by omega),if_pos hx.1,hx.2];rw [hx.2] at i2;rw [i2,bytesL_seq hsame hle (by omega),List.append_assoc,take_drop]
 | @esc a a' b p q u h92 he ht hs ih =>
  intro hq hpq hb n acc hn;have hadv:=escR_ok he;have hul:=utfL_len u;have hlen:p+(utfL u).length≤s.size:=by
   have:=congrArg List.length ht;rw [List.length_take,List.length_drop,qAo] at this;omega
  obtain ⟨n,rfl⟩:∃m,n=m+1:=⟨n - 1,by omega⟩;obtain ⟨i1,i2⟩:=ih hq (by omega) hb n (acc++utfL u) (by omega);refine ⟨by omega,?_⟩;unfold quoR;rw [if_neg (by omega),if_neg (by omega),if_pos h92,he];dsimp only;have e:utfL u++(qAi s).drop (p+(utfL u).length)=(qAi s).drop p:=by
   have:=take_drop (qAi s) p (utfL u).length;rw [ht] at this;exact this
  rw [i2,List.append_assoc,e]
def QOK (q:BA→List Int):Prop:=∀(s t:BA) (a:Nat),Lib.validD s.data.toList=true→Has t a (q s)→bAt t (a:Int)=34∧quoR t (t.size+1) (a+1) []=.ok (a+(q s).length) (qAi s)
theorem qok_of {q:BA→List Int} {m:BA→List Int} (hq:∀s,q s=34::(m s++[34])) (h:∀(s t:BA) (a:Nat),Lib.validD s.data.toList=true→Has t a (m s)→Spells t s a (a+(m s).length) 0 s.size):QOK q:=by
 intro s t a hv hh;rw [hq] at hh;obtain ⟨h1,h2⟩:=hh;rw [Has.append] at h2;have h3:=h s t (a+1) hv h2.1;have hle:=h2.1.le;have h4:=(quo_run h3 rfl (Nat.zero_le _) h2.2.1 (t.size+1) [] (by omega)).2;rw [List.nil_append,List.drop_zero] at h4;refine ⟨h1,?_⟩;rw [h4,hq,List.length_cons,List.length_append,List.length_singleton];congr 1
 omega
theorem hexS_D {n:Int} (h:0≤n∧n<16):hexS (hexD n)=n:=by
 unfold hexS hexD;repeat' split
 all_goals omega
theorem escR_two {t:BA} {a:Nat} {c:Int} (h1:bAt t ((a+1:Nat):Int)=c) (h0:0≤c) (hu:c≠117) (hs:0≤qF7 c):escR t a=.ok (a+2) (qF7 c):=by
 unfold escR;rw [h1,if_neg (by omega),if_neg hu,if_neg (by omega)]
theorem fourR_says {t:BA} {f a:Nat} {d0 d1 d2 d3:Int} (h0:hexS (bAt t (a:Int))=d0) (h1:hexS (bAt t ((a+1:Nat):Int))=d1) (h2:hexS (bAt t ((a+1+1:Nat):Int))=d2) (h3:hexS (bAt t ((a+1+1+1:Nat):Int))=d3)
  (p0:0≤d0) (p1:0≤d1) (p2:0≤d2) (p3:0≤d3) (half:Bool) (hh:half=true→d0=13∧12≤d1) (hn:half=false→¬(d0=13∧12≤d1)):qG2 t half f 4 0 a 0=.ok (a+4) (4096*d0+256*d1+16*d2+d3):=by
 have nn:∀ {i:Nat} {d:Int},hexS (bAt t (i:Int))=d→0≤d→¬bAt t (i:Int)<0:=fun {i d} h hd hlt=>by
  unfold hexS at h;rw [if_neg (by omega),if_neg (by omega),if_neg (by omega)] at h;omega
 have hb:∀(i:Nat) (u d:Int),0≤d→(i=0→half=true→d=13)→(i=1→half=true→12≤d)→(i=1→half=false→¬(u=13∧12≤d))→¬qHb half i u d:=by
  intro i u d hd q1 q2 q3 hbad;unfold qHb at hbad;rcases hbad with h | ⟨hh',h⟩ | ⟨hh',h1,h2,h3⟩
  ·omega
  ·rcases h with ⟨h1,h2⟩ | ⟨h1,h2⟩
   ·exact h2 (q1 h1 hh')
   ·have:=q2 h1 hh'; omega
  ·exact q3 h1 hh' ⟨h2,h3⟩
 unfold qG2;rw [if_neg (nn h0 p0),h0,if_neg (hb 0 0 d0 p0 (fun _ h=>(hh h).1) (fun h=>by omega) (fun h=>by omega))];unfold qG2;rw [if_neg (nn h1 p1),h1,if_neg (hb 1 _ d1 p1 (fun h=>by omega) (fun _ h=>(hh h).2) (fun _ h hc=>hn h ⟨by omega,hc.2⟩))];unfold qG2;rw [if_neg (nn h2 p2),h2,if_neg (hb 2 _ d2 p2 (fun h=>by omega) (fun h=>by omega) (fun h=>by omega))];unfold qG2;rw [if_neg (nn h3 p3),h3,if_neg (hb 3 _ d3 p3 (fun h=>by omega) (fun h=>by omega) (fun h=>by omega))];unfold qG2;congr 1
 omega
theorem escR_unit {t:BA} {a:Nat} {u:Int} (hu:bAt t ((a+1:Nat):Int)=117) (hf:qG2 t false a 4 0 (a+2) 0=.ok (a+6) u) (hs:u<55296∨57343<u):escR t a=.ok (a+6) u:=by
 unfold escR;rw [hu,if_neg (by decide),if_pos rfl,hf];dsimp only;rw [if_pos hs]
theorem utfL_one {c:Int} (h:c<128):utfL c=[c]:=by unfold utfL; rw [if_pos h]
theorem drop_take_one {s:BA} {p:Nat} (hp:p<s.size):((qAi s).drop p).take 1=[bAt s (p:Int)]:=by
 rw [qD6 hp];rfl
theorem has_seq {t s:BA}:∀(w a p:Nat) (R:List Int),p+w≤s.size→(∀k,k<w→128≤by8 s (p+k))→Has t a (escL ((qAi s).drop p))→(∀k,k<w→by8 t (a+k)=by8 s (p+k))∧a+w≤t.size∧Has t (a+w) (escL ((qAi s).drop (p+w)))
 | 0,a,p,R,hp,h8,h=>⟨fun k hk=>by omega,by have:=h.le; omega,h⟩
 | w+1,a,p,R,hp,h8,h=>by
  have h80:=h8 0 (by omega);simp only [Nat.add_zero] at h80;have hb:=qEo (t:=s) (i:=p) (by omega);rw [qD6 (by omega)] at h;have e:escL (bAt s (p:Int)::(qAi s).drop (p+1))=bAt s (p:Int)::escL ((qAi s).drop (p+1)):=by
   show escB (bAt s (p:Int))++_=_;unfold escB;rw [if_neg (by omega),if_neg (by omega),if_neg (by omega),if_neg (by omega),if_neg (by omega),if_neg (by omega),if_neg (by omega)];rfl
  rw [e] at h;obtain ⟨h1,h2⟩:=h;have ha:=qA6 (t:=t) (a:=a) (by omega);have ht:=qEo (t:=t) (i:=a) ha;obtain ⟨i1,i2,i3⟩:=has_seq w (a+1) (p+1) R (by omega) (fun k hk=>by rw [show p+1+k=p+(k+1) by omega]; exact h8 (k+1) (by omega)) h2;refine ⟨fun k hk=>?_,by omega,by rw [show a+(w+1)=a+1+w by omega,show p+(w+1)=p+1+w by omega]; exact i3⟩;cases k with
  | zero=>simp only [Nat.add_zero]; omega
  | succ k =>
   have:=i1 k (by omega);rw [show a+(k+1)=a+1+k by omega,show p+(k+1)=p+1+k by omega];exact this
theorem contN_high {n:Nat} {b:Nat→Nat}:∀ {m i lo hi:Nat},128≤lo→qE0 n b m i lo hi=0→∀k,i≤k→k<i+m→128≤b k
 | 0,_,_,_,_,_,k,h1,h2=>by omega
 | m+1,i,lo,hi,hlo,h,k,h1,h2=>by
  unfold qE0 at h;split at h
  ·cases h
  ·split at h
   ·cases h
   ·by_cases hk:k=i
    ·subst hk; omega
    ·exact contN_high (by decide) h k (by omega) (by omega)
theorem accLo_ge {x:Nat} (h:x=0∨x=1∨x=2∨x=3∨x=4):128≤Lib.accLo x:=by
 rcases h with h | h | h | h | h <;> rw [h] <;> decide
theorem seq_high {s:BA} {p:Nat} (hp:p<s.size) (h8:128≤by8 s p) (hk:seqK s p=0):∀k,k<seqW s p→128≤by8 s (p+k):=by
 intro k hkw;by_cases h0:k=0
 ·subst h0; exact h8
 ·unfold seqK at hk;unfold seqW at hkw;split at hk
  ·cases hk
  ·rename_i h1;have hf:=firstT_low ⟨by8 s p,by8_lt s p⟩ h8;simp only at hf;refine contN_high ?_ hk k (by omega) (by omega);refine accLo_ge ?_;rcases Lib.firstT_cases (by8 s p) with g | g | g | g | g | g | g | g | g <;> rw [g] at h1 hf ⊢ <;> first | omega | (exact (h1 rfl).elim) | (exact (hf rfl).elim)
theorem esc_spells {t s:BA}:∀(j a p:Nat),s.size - p≤j→p≤s.size→Lib.validD (s.data.toList.drop p)=true→Has t a (escL ((qAi s).drop p))→Spells t s a (a+(escL ((qAi s).drop p)).length) p s.size
 | 0,a,p,h1,h2,hv,hh=>by
  have:p=s.size:=by omega
  subst this;rw [List.drop_eq_nil_of_le (by rw [qAo]; omega)];exact Spells.nil a s.size
 | j+1,a,p,h1,h2,hv,hh=>by
  by_cases hp:p<s.size
  ·have hb:=qEo (t:=s) (i:=p) hp;by_cases h8:by8 s p<128
   ·rw [validD_low hp h8] at hv;have hdrop:=qD6 hp;have hE:escL ((qAi s).drop p)=escB (bAt s (p:Int))++escL ((qAi s).drop (p+1)):=by rw [hdrop]; rfl
    rw [hE] at hh ⊢;rw [Has.append] at hh;obtain ⟨g1,g2⟩:=hh;have ih:=esc_spells j (a+(escB (bAt s (p:Int))).length) (p+1) (by omega) (by omega) hv g2;rw [List.length_append,←Nat.add_assoc];have e1:=drop_take_one hp;generalize hc:bAt s (p:Int)=c at *
    have hcr:0≤c∧c<128:=by omega
    have two:∀x:Int,escB c=[92,x]→0≤x→x≠117→qF7 x=c→Spells t s a (a+(escB c).length+(escL ((qAi s).drop (p+1))).length) p s.size:=fun x hx h0 hu hsx=>by
     rw [hx] at g1 ih ⊢;obtain ⟨k1,k2,_⟩:=g1;refine Spells.esc (u:=qF7 x) k1 (escR_two k2 h0 hu (by omega)) ?_ ?_
     ·rw [hsx,utfL_one (by omega)];exact e1
     ·rw [hsx,utfL_one (by omega)];exact ih
    by_cases c1:c=34∨c=92
    ·refine two c (by unfold escB; rw [if_pos c1]) (by omega) (by omega) ?_;unfold qF7;rw [if_pos (by omega)]
    ·by_cases c2:c=8
     ·exact two 98 (by unfold escB; rw [if_neg c1,if_pos c2]) (by decide) (by decide) (by rw [c2]; decide)
     ·by_cases c3:c=12
      ·exact two 102 (by unfold escB; rw [if_neg c1,if_neg c2,if_pos c3]) (by decide) (by decide) (by rw [c3]; decide)
      ·by_cases c4:c=10
       ·exact two 110 (by unfold escB; rw [if_neg c1,if_neg c2,if_neg c3,if_pos c4]) (by decide) (by decide) (by rw [c4]; decide)
       ·by_cases c5:c=13
        ·exact two 114 (by unfold escB; rw [if_neg c1,if_neg c2,if_neg c3,if_neg c4,if_pos c5]) (by decide) (by decide) (by rw [c5]; decide)
        ·by_cases c6:c=9
         ·exact two 116 (by unfold escB; rw [if_neg c1,if_neg c2,if_neg c3,if_neg c4,if_neg c5,if_pos c6]) (by decide) (by decide) (by rw [c6]; decide)
         ·by_cases c7:c<32
          ·have hx:escB c=[92,117,48,48,hexD (c / 16),hexD (c % 16)]:=by unfold escB; rw [if_neg c1,if_neg c2,if_neg c3,if_neg c4,if_neg c5,if_neg c6,if_pos c7]
           rw [hx] at g1 ih ⊢;obtain ⟨k1,k2,k3,k4,k5,k6,_⟩:=g1;have hf:=fourR_says (t:=t) (f:=a) (a:=a+2) (d0:=0) (d1:=0) (d2:=c / 16) (d3:=c % 16) (by rw [show ((a+2:Nat):Int)=((a+1+1:Nat):Int) by omega,k3]; rfl) (by rw [show ((a+2+1:Nat):Int)=((a+1+1+1:Nat):Int) by omega,k4]; rfl)
            (by rw [show ((a+2+1+1:Nat):Int)=((a+1+1+1+1:Nat):Int) by omega,k5]; exact hexS_D (by omega)) (by rw [show ((a+2+1+1+1:Nat):Int)=((a+1+1+1+1+1:Nat):Int) by omega,k6]; exact hexS_D (by omega))
            (by omega) (by omega) (by omega) (by omega) false (fun h=>by cases h) (fun _=>by omega)
           rw [show 4096*(0:Int)+256*0+16*(c / 16)+c % 16=c by omega,show a+2+4=a+6 by omega] at hf;refine Spells.esc (u:=c) k1 (escR_unit k2 hf (by omega)) ?_ ?_
           ·rw [utfL_one (by omega)];exact e1
           ·rw [utfL_one (by omega)];exact ih
          ·have hx:escB c=[c]:=by unfold escB; rw [if_neg c1,if_neg c2,if_neg c3,if_neg c4,if_neg c5,if_neg c6,if_neg c7]
           rw [hx] at g1 ih ⊢;exact Spells.raw hp (by rw [hc]; exact g1.1) (by omega) (by omega) (by omega) (by omega) ih
   ·have hv2:=qH9 hp (by omega:128≤by8 s p);rw [hv] at hv2;by_cases hk:seqK s p=0
    ·rw [if_pos hk] at hv2;have hw:=qE9 hp (by omega) hk;obtain ⟨i1,i2,i3⟩:=has_seq (t:=t) (s:=s) (seqW s p) a p [] (by omega) (seq_high hp (by omega) hk) hh;have ih:=esc_spells j (a+seqW s p) (p+seqW s p) (by omega) (by omega) hv2.symm i3;have hlen:∀(w p:Nat),p+w≤s.size→(∀k,k<w→128≤by8 s (p+k))→(escL ((qAi s).drop p)).length=w+(escL ((qAi s).drop (p+w))).length:=by
      intro w;induction w with
      | zero=>intro p _ _; simp
      | succ w ihw =>
       intro p hp' h8';have h80:=h8' 0 (by omega);simp only [Nat.add_zero] at h80;have hb':=qEo (t:=s) (i:=p) (by omega);rw [qD6 (by omega)];have e:escL (bAt s (p:Int)::(qAi s).drop (p+1))=bAt s (p:Int)::escL ((qAi s).drop (p+1)):=by
        show escB (bAt s (p:Int))++_=_;unfold escB;rw [if_neg (by omega),if_neg (by omega),if_neg (by omega),if_neg (by omega),if_neg (by omega),if_neg (by omega),if_neg (by omega)];rfl
       rw [e,List.length_cons,ihw (p+1) (by omega) (fun k hk=>by rw [show p+1+k=p+(k+1) by omega]; exact h8' (k+1) (by omega)),show p+1+w=p+(w+1) by omega];omega
     rw [hlen (seqW s p) p (by omega) (seq_high hp (by omega) hk),←Nat.add_assoc];exact Spells.seq hp (by omega) hk i1 i2 ih
    ·rw [if_neg hk] at hv2;cases hv2
  ·have:p=s.size:=by omega
   subst this;rw [List.drop_eq_nil_of_le (by rw [qAo]; omega)];exact Spells.nil a s.size
theorem quoL_ok:QOK quoL:=qok_of (m:=fun s=>escL (qAi s)) (fun s=>rfl) fun s t a hv hh=>by
 have:=esc_spells (t:=t) (s:=s) s.size a 0 (by omega) (by omega) (by rw [List.drop_zero]; exact hv) (by rw [List.drop_zero]; exact hh);rwa [List.drop_zero] at this
end Go.Proofs.YticplgndjpljiaaDoor
