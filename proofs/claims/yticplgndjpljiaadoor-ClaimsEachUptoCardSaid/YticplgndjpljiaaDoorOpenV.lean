/-
  Arguments that lead to memory (lists of texts, of numbers, of nodes), told as the engine's views; sizes by their bulk.
-/
import Derived.Below
import Derived.Carry
import Derived.ProofKit
import Derived.Deep.Slices
import Derived.Deep.Fields
import Derived.ChangeSame
import Derived.SliceStrings
import Derived.SizedLaws
import Derived.Test.YticplgndjpljiaaDoorPClaims
import Derived.Test.YticplgndjpljiaaDoorJC
import Derived.Test.YticplgndjpljiaaDoorPFind
import Derived.Test.YticplgndjpljiaaDoorEngN
import Derived.Test.YticplgndjpljiaaDoorRows
namespace Go.Proofs.YticplgndjpljiaaDoor
open Go.Eng
set_option linter.unusedVariables false
set_option linter.unusedSimpArgs false
def plP (a b:Int):Int:=if 0<b∧9223372036854775807 - b<a then 9223372036854775807 else if b<0∧a < -9223372036854775808 - b then -9223372036854775808 else a+b
theorem plus_is {a b:Int} (ha:qAe a) (hb : -601≤b∧b≤601):zaf_s a b=some (plP a b):=by
 unfold qAe at ha
 unfold zaf_s plP
 rw [qAb (fun h=>by rw [decide_eq_true_eq] at h; unfold qAe; omega)]
 by_cases h1:0<b∧9223372036854775807 - b<a
 ·rw [if_pos h1,deT h1.1,deT h1.2]
  rfl
 ·rw [if_neg h1]
  have e1:(decide (0<b) && decide (9223372036854775807 - b<a))=false:=by
   rw [Bool.eq_false_iff]
   intro h
   rw [Bool.and_eq_true,decide_eq_true_eq,decide_eq_true_eq] at h
   exact h1 h
  rw [e1,cnF,qAb (fun h=>by rw [decide_eq_true_eq] at h; unfold qAe; omega)]
  by_cases h2:b<0∧a < -9223372036854775808 - b
  ·rw [if_pos h2,deT h2.1,deT h2.2]
   rfl
  ·rw [if_neg h2]
   have e2:(decide (b<0) && decide (a < -9223372036854775808 - b))=false:=by
    rw [Bool.eq_false_iff]
    intro h
    rw [Bool.and_eq_true,decide_eq_true_eq,decide_eq_true_eq] at h
    exact h2 h
   rw [e2,cnF]
   exact qAb (by unfold qAe; omega) _
def expB (c:qGn) (L now:Int):Bool:=c.exp_.has && decide (c.exp_.at_≤now - L)
def nbfB (c:qGn) (L now:Int):Bool:=c.nbf.has && decide (now+L<c.nbf.at_)
def iatB (c:qGn) (L now:Int):Bool:=c.iat.has && decide (now+L<c.iat.at_)
def clP (c:qGn) (L now:Int):Int:=bif expB c L now then 134 else bif nbfB c L now then 135 else bif iatB c L now then 136 else 0
structure OkC (c:qGn):Prop where
 e:qAe c.exp_.at_
 n:qAe c.nbf.at_
 i:qAe c.iat.at_
theorem late_is {x:qGs} (hx:qAe x.at_) {L now:Int} (hL:0≤L∧L≤600) (hn:qAe now):(x.has && (decide (now<plP x.at_ (0 - L))))=(x.has && decide (now+L<x.at_)):=by
 congr 1
 unfold qAe at hx hn
 unfold plP
 apply Bool.eq_iff_iff.2
 rw [decide_eq_true_eq,decide_eq_true_eq]
 split
 ·omega
 ·split <;> omega
theorem clock_is {c:qGn} (hc:OkC c) {L now:Int} (hL:0≤L∧L≤600) (hn:qAe now):zab_s c L now=some (clP c L now):=by
 have he:=hc.e
 have hn':=hn
 have l1:=late_is hc.n hL hn
 have l2:=late_is hc.i hL hn
 unfold qAe at he hn'
 unfold zab_s
 rw [deF (show ¬L<0 by omega),deF (show ¬600<L by omega),Bool.or_self,cnF,qAb (fun _=>by unfold qAe; omega),plus_is hn (by omega),obS,qAb (fun _=>by unfold qAe; omega),plus_is hc.n (by omega),plus_is hc.i (by omega)]
 have e1:((c.exp_.has && (decide (c.exp_.at_≤plP now (0 - L)))) && (!((decide (now<((-9223372036854775808:Int)+L))) && (decide (c.exp_.at_=(-9223372036854775808:Int))))))=expB c L now:=by
  unfold expB
  rw [Bool.and_assoc]
  congr 1
  unfold plP
  apply Bool.eq_iff_iff.2
  rw [Bool.and_eq_true,decide_eq_true_eq,decide_eq_true_eq,Bool.not_eq_true',Bool.and_eq_false_iff,decide_eq_false_iff_not,decide_eq_false_iff_not]
  split
  ·omega
  ·split <;> omega
 rw [e1]
 unfold clP nbfB iatB
 rw [←l1,←l2]
 cases expB c L now with
 | true=>rfl
 | false =>
  rw [cnF,cnF,qAb (fun _=>by unfold qAe; omega),qAb (fun _=>by unfold qAe; omega)]
  cases c.nbf.has <;> cases c.iat.has <;> simp only [cnT,cnF,Bool.true_and,Bool.false_and,obS] <;> (try rfl)
  ·cases decide (now<plP c.iat.at_ (0 - L)) <;> rfl
  ·cases decide (now<plP c.nbf.at_ (0 - L)) <;> rfl
  ·cases decide (now<plP c.nbf.at_ (0 - L)) <;> cases decide (now<plP c.iat.at_ (0 - L)) <;> rfl
def mx (a b:Int):Int:=if b > a then b else a
def qFx (c:qGn) (L:Int):Int :=
 bif c.iat.has then mx (bif c.nbf.has then mx (-9223372036854775808) (plP c.nbf.at_ (0 - L)) else -9223372036854775808) (plP c.iat.at_ (0 - L)) else bif c.nbf.has then mx (-9223372036854775808) (plP c.nbf.at_ (0 - L)) else -9223372036854775808
theorem open_p1 {c:qGn} (hc:OkC c) {L:Int} (hL:0≤L∧L≤600):zac_p1 L (-9223372036854775808) ([(⟨c.nbf.has,c.nbf.at_⟩:Eng.Tm),(⟨c.iat.has,c.iat.at_⟩:Eng.Tm)].length:Int) 0 [(⟨c.nbf.has,c.nbf.at_⟩:Eng.Tm),(⟨c.iat.has,c.iat.at_⟩:Eng.Tm)]=some (qFx c L):=by
 rw [show ([(⟨c.nbf.has,c.nbf.at_⟩:Eng.Tm),(⟨c.iat.has,c.iat.at_⟩:Eng.Tm)].length:Int)=2 from rfl]
 unfold zac_p1
 rw [qAs (y:=((bif c.nbf.has then mx (-9223372036854775808) (plP c.nbf.at_ (0 - L)) else -9223372036854775808),(1:Int))),qAs (y:=(qFx c L,(2:Int))),qAi (o:=qFx c L)]
 ·rfl
 ·unfold qEz
  dsimp only
  rw [deT (by decide),cnT]
  refine (qAb (show (0:Int)≤1∧(1:Int)<2 by decide) _).trans ((qAb (show (1:Nat)<2 by decide) _).trans ?_)
  show (bif c.iat.has then gd (qAe (0 - L)) ((zaf_s c.iat.at_ (0 - L)).bind _) else _)=_
  unfold qFx
  cases c.iat.has with
  | true =>
   rw [cnT,cnT,qAb (by unfold qAe; omega),plus_is hc.i (by omega),obS]
   exact qAb (by unfold qAe; decide) _
  | false=>exact qAb (by unfold qAe; decide) _
 ·unfold qEz
  dsimp only
  rw [deT (by decide),cnT]
  refine (qAb (show (0:Int)≤0∧(0:Int)<2 by decide) _).trans ((qAb (show (0:Nat)<2 by decide) _).trans ?_)
  show (bif c.nbf.has then gd (qAe (0 - L)) ((zaf_s c.nbf.at_ (0 - L)).bind _) else _)=_
  cases c.nbf.has with
  | true =>
   rw [cnT,cnT,qAb (by unfold qAe; omega),plus_is hc.n (by omega),obS]
   exact qAb (by unfold qAe; decide) _
  | false=>exact qAb (by unfold qAe; decide) _
theorem open_is {c:qGn} (hc:OkC c) {L:Int} (hL:0≤L∧L≤600):∃w:qG5,zac_s c L=some (w,0) ∧
  ((w=⟨true,0,0⟩∧∀now,qAe now→clP c L now≠0)∨(w.empty=false∧qAe w.from_∧qAe w.to_∧w.from_≤w.to_∧(∀now,qAe now→(clP c L now=0↔w.from_≤now∧now≤w.to_))∧(w.to_<9223372036854775807→clP c L (w.to_+1)=134))):=by
 have cz:∀now,clP c L now=0↔expB c L now=false∧nbfB c L now=false∧iatB c L now=false:=fun now=>by
  unfold clP
  cases expB c L now <;> cases nbfB c L now <;> cases iatB c L now <;> decide
 have hfr:qAe (qFx c L)∧∀now,qAe now→((nbfB c L now=false∧iatB c L now=false)↔qFx c L≤now):=by
  have h1:=hc.n
  have h2:=hc.i
  unfold qAe at h1 h2 ⊢
  unfold nbfB iatB qFx mx plP
  cases c.nbf.has <;> cases c.iat.has <;> simp only [cnT,cnF,Bool.true_and,Bool.false_and,decide_eq_false_iff_not,true_and,and_true]
  ·exact ⟨by omega,fun now hn=>⟨fun _=>by omega,fun _=>trivial⟩⟩
  ·refine ⟨?_,fun now hn=>?_⟩
   ·repeat' split
    all_goals omega
   ·repeat' split
    all_goals omega
  ·refine ⟨?_,fun now hn=>?_⟩
   ·repeat' split
    all_goals omega
   ·repeat' split
    all_goals omega
  ·refine ⟨?_,fun now hn=>?_⟩
   ·repeat' split
    all_goals omega
   ·repeat' split
    all_goals omega
 have p0:∀hi:Int,zac_p0 L (-9223372036854775808) hi c.nbf.has c.nbf.at_ c.iat.has c.iat.at_=some (if hi<qFx c L then (0,true,0,0) else (0,false,qFx c L,hi)):=fun hi=>by
  unfold zac_p0
  rw [open_p1 hc hL,obS]
  by_cases h:hi<qFx c L
  ·rw [deT h,if_pos h]; rfl
  ·rw [deF h,if_neg h]; rfl
 have fin:∀hi:Int,qAe hi→(∀now,qAe now→(expB c L now=false↔now≤hi))→(hi<9223372036854775807→expB c L (hi+1)=true)→∃w:qG5,some ((⟨(if hi<qFx c L then (0,true,0,0) else (0,false,qFx c L,hi):Int × Bool × Int × Int).2.1,(if hi<qFx c L then (0,true,0,0) else (0,false,qFx c L,hi):Int × Bool × Int × Int).2.2.1,(if hi<qFx c L then (0,true,0,0) else (0,false,qFx c L,hi):Int × Bool × Int × Int).2.2.2⟩:qG5),(if hi<qFx c L then (0,true,0,0) else (0,false,qFx c L,hi):Int × Bool × Int × Int).1)=some (w,(0:Int)) ∧
   ((w=⟨true,0,0⟩∧∀now,qAe now→clP c L now≠0)∨(w.empty=false∧qAe w.from_∧qAe w.to_∧w.from_≤w.to_∧(∀now,qAe now→(clP c L now=0↔w.from_≤now∧now≤w.to_))∧(w.to_<9223372036854775807→clP c L (w.to_+1)=134))):=fun hi hto hex hnx=>by
  by_cases h:hi<qFx c L
  ·rw [if_pos h]
   refine ⟨_,rfl,.inl ⟨rfl,fun now hn h0=>?_⟩⟩
   obtain ⟨a1,a2⟩:=(cz now).1 h0
   have b1:=(hex now hn).1 a1
   have b2:=(hfr.2 now hn).1 a2
   omega
  ·rw [if_neg h]
   refine ⟨_,rfl,.inr ⟨rfl,hfr.1,hto,by show qFx c L≤hi; omega,fun now hn=>?_,fun h=>?_⟩⟩
   ·rw [cz,hex now hn,hfr.2 now hn]
    exact And.comm
   ·show clP c L (hi+1)=134
    unfold clP
    rw [hnx h]
    rfl
 have he:=hc.e
 unfold zac_s
 rw [deF (show ¬L<0 by omega),deF (show ¬600<L by omega),Bool.or_self,cnF]
 cases hh:c.exp_.has with
 | true =>
  rw [cnT]
  by_cases h0:c.exp_.at_ = -9223372036854775808∧L=0
  ·rw [deT h0.1,deT h0.2,Bool.and_self,cnT]
   refine ⟨_,rfl,.inl ⟨rfl,fun now hn hz=>?_⟩⟩
   have:=((cz now).1 hz).1
   unfold expB at this
   rw [hh,Bool.true_and,decide_eq_false_iff_not] at this
   unfold qAe at hn
   omega
  ·have e1:(decide (c.exp_.at_ = -9223372036854775808) && decide (L=0))=false:=by
    rw [Bool.eq_false_iff]
    intro h
    rw [Bool.and_eq_true,decide_eq_true_eq,decide_eq_true_eq] at h
    exact h0 h
   rw [e1,cnF,qAb (by unfold qAe; omega),plus_is he (by omega),obS,p0,obS]
   unfold qAe at he
   refine fin _ ?_ (fun now hn=>?_) fun h=>?_
   ·unfold plP qAe
    repeat' split
    all_goals omega
   ·unfold expB plP
    unfold qAe at hn
    rw [hh,Bool.true_and,decide_eq_false_iff_not]
    repeat' split
    all_goals omega
   ·unfold expB
    rw [hh,Bool.true_and,decide_eq_true_eq]
    unfold plP at h ⊢
    revert h
    repeat' split
    all_goals omega
 | false =>
  rw [cnF,p0,obS]
  refine fin _ (by unfold qAe; decide) (fun now hn=>?_) fun h=>by omega
  unfold expB
  unfold qAe at hn
  rw [hh,Bool.false_and]
  exact ⟨fun _=>by omega,fun _=>rfl⟩
theorem zero_of {c:qGn} {L now:Int} (h:clP c L now=0):expB c L now=false∧nbfB c L now=false∧iatB c L now=false:=by
 unfold clP at h
 revert h
 cases expB c L now <;> cases nbfB c L now <;> cases iatB c L now <;> decide
theorem getD_str {l:List ByteArray} {i:Nat} (h:i<l.length):l.getD i (ET.dft .str)=l[i]:=by simp [List.getD,h]
theorem index_loop (v:ByteArray) (l:List ByteArray) (hl:l.length≤3000000):∀(j i:Nat),i+j=l.length →
  (∃k:Nat,zcd_p0 v (l.length:Int) (i:Int) l=some (.inl (k:Int))∧v∈l.drop i)∨(zcd_p0 v (l.length:Int) (i:Int) l=some (.inr ())∧¬v∈l.drop i)
 | 0,i,h=>by
  refine .inr ⟨?_,?_⟩
  ·unfold zcd_p0
   refine qAi ?_
   unfold qDf
   rw [deF (by omega),cnF]
  ·rw [List.drop_eq_nil_of_le (by omega)]
   exact fun h=>by cases h
 | j+1,i,h=>by
  have hi:i<l.length:=by omega
  have hd:l.drop i=l[i]::l.drop (i+1):=List.drop_eq_getElem_cons hi
  by_cases he:v=l[i]
  ·refine .inl ⟨i,?_,?_⟩
   ·unfold zcd_p0
    refine qAi ?_
    unfold qDf
    rw [deT (by omega),cnT,qAb (by omega),qAb (by omega),Int.toNat_natCast,getD_str hi,deT he,cnT]
   ·rw [hd,he]; exact List.mem_cons_self
  ·have hst:qDf v (l.length:Int) (i:Int) l=some (.inl ((i+1:Nat):Int)):=by
    unfold qDf
    rw [deT (by omega),cnT,qAb (by omega),qAb (by omega),Int.toNat_natCast,getD_str hi,deF he,cnF]
    exact qAb (by unfold qAe; omega) _
   have hm:v∈l.drop i↔v∈l.drop (i+1):=by rw [hd,List.mem_cons]; simp [he]
   have ih:=index_loop v l hl j (i+1) (by omega)
   rw [hm]
   unfold zcd_p0 at ih ⊢
   rw [qAs hst]
   exact ih
noncomputable def inB (l:List ByteArray) (v:ByteArray):Bool:=(zcc_s l v).getD false
theorem contains_is (l:List ByteArray) (hl:l.length≤3000000) (v:ByteArray):zcc_s l v=some (inB l v)∧(inB l v=true↔v∈l):=by
 have h:=index_loop v l hl l.length 0 (by omega)
 rw [List.drop_zero,show ((0:Nat):Int)=0 from rfl] at h
 have key:∃b,zcc_s l v=some b∧(b=true↔v∈l):=by
  unfold zcc_s zcd_s
  rcases h with ⟨k,h,hm⟩ | ⟨h,hm⟩
  ·refine ⟨true,?_,fun _=>hm,fun _=>rfl⟩
   rw [h,obS,Sum.elim_inl,obS,deT (by omega)]
  ·refine ⟨false,?_,fun h=>(by cases h),fun h=>(hm h).elim⟩
   rw [h,obS,Sum.elim_inr,obS,deF (by omega)]
 obtain ⟨b,h1,h2⟩:=key
 have:inB l v=b:=by unfold inB; rw [h1]; rfl
 rw [this]
 exact ⟨h1,h2⟩
theorem need_is {v:List Eng.Node} {m:ByteArray→Int} (hm:∀n,zao_s v 0 n=some (m n)) (l:List ByteArray) (hl:l.length≤3000000):∀(j i:Nat),i+j=l.length →
  zaa_p0 (l.length:Int) (i:Int) v l=some (if (l.drop i).all (fun n=>decide (0≤m n))=true then .inr () else .inl 137)
 | 0,i,h=>by
  rw [List.drop_eq_nil_of_le (by omega)]
  unfold zaa_p0
  refine qAi ?_
  unfold qDw
  rw [deF (by omega),cnF]
  rfl
 | j+1,i,h=>by
  have hi:i<l.length:=by omega
  have hd:l.drop i=l[i]::l.drop (i+1):=List.drop_eq_getElem_cons hi
  rw [hd,List.all_cons]
  by_cases hr:m l[i]<0
  ·rw [deF (show ¬0≤m l[i] by omega),Bool.false_and,if_neg (by decide)]
   unfold zaa_p0
   refine qAi ?_
   unfold qDw
   rw [deT (by omega),cnT,qAb (by omega),qAb (by omega),Int.toNat_natCast,getD_str hi,hm,obS,deT hr,cnT]
  ·rw [deT (show 0≤m l[i] by omega),Bool.true_and,←need_is hm l hl j (i+1) (by omega)]
   unfold zaa_p0
   rw [qAs (y:=((i+1:Nat):Int))]
   unfold qDw
   rw [deT (by omega),cnT,qAb (by omega),qAb (by omega),Int.toNat_natCast,getD_str hi,hm,obS,deF hr,cnF]
   exact qAb (by unfold qAe; omega) _
noncomputable def chP (m:ByteArray→Int) (c:qGn) (p:qGv):Int :=
 bif !(p.need.all fun n=>decide (0≤m n)) then 137 else bif p.hasIss && !(c.hasIss && decide (c.iss=p.iss)) then 132 else bif p.hasAud then (bif c.hasAud && inB c.aud p.aud then 0 else 133) else bif c.hasAud then 133 else 0
theorem check_is {c:qGn} {p:qGv} {m:ByteArray→Int} (hm:∀n,zao_s c.value 0 n=some (m n)) (h2:c.aud.length≤3000000) (h3:p.need.length≤3000000):zaa_s c p=some (chP m c p):=by
 have h:=need_is hm p.need h3 p.need.length 0 (by omega)
 rw [List.drop_zero,show ((0:Nat):Int)=0 from rfl] at h
 unfold zaa_s chP
 rw [h,obS,(contains_is c.aud h2 p.aud).1]
 cases (p.need.all fun n=>decide (0≤m n)) with
 | false=>rfl
 | true =>
  rw [if_pos rfl,Sum.elim_inr,Bool.not_true,cnF]
  cases (p.hasIss && !(c.hasIss && decide (c.iss=p.iss))) with
  | true=>rfl
  | false =>
   rw [cnF,cnF]
   cases p.hasAud <;> cases c.hasAud <;> try rfl
   cases inB c.aud p.aud <;> rfl
theorem p_parse_ok {t:ByteArray} {l:List Eng.Node} {L:List Nat} (hs:t.size≤262144) (hr:readR t=.ok t.size l) (h7:(l.getD 0 (ET.dft .node)).kind=7) (hO:Obj l L) (hkd:∀n∈l,1≤n.kind∧n.kind≤7) (hL:L.length≤2000000) (hall:L.all (goodB l)=true):zad_s t=some (fullC l L,0):=by
 have hp:parseR t=(l,0,0):=by
  unfold parseR
  rw [if_neg (by omega),hr]
  rfl
 have hlt:=hO.ne
 have hlp:=claims_loop hO hkd hL L [] rfl
 have hlp':zad_p0 ((upN L).length:Int) 0 l ⟨#[]⟩ false ⟨#[]⟩ false false ⟨#[]⟩ false false 0 false 0 false 0 (upN L) [] []=some (if L.all (goodB l)=true then .inr (tupC (cOf l L)) else .inl (131,⟨#[]⟩,false,⟨#[]⟩,false,false,⟨#[]⟩,false,false,0,false,0,false,0,[],[])):=hlp
 unfold zad_s
 rw [p_Parse,obS,hp]
 dsimp only
 rw [deT rfl,Bool.not_true,cnF,qAb (by omega),qAb (by omega),qAb (by omega)]
 rw [show Int.toNat 0=0 from rfl,deT h7,Bool.not_true,cnF,hO.kids,obS,hlp',obS,if_pos hall]
 rfl
def awT:ByteArray:=⟨#[123,34,105,115,115,34,58,34,97,34,44,34,97,117,100,34,58,91,34,120,34,44,34,121,34,93,44,34,101,120,112,34,58,49,48,44,34,110,34,58,49,125]⟩
def awV:List Eng.Node:=[⟨7,⟨#[]⟩,⟨#[]⟩,false,0,4⟩,⟨5,nIss,⟨#[97]⟩,false,0,0⟩,⟨6,nAud,⟨#[]⟩,false,0,2⟩,⟨5,⟨#[]⟩,⟨#[120]⟩,false,0,0⟩,⟨5,⟨#[]⟩,⟨#[121]⟩,false,0,0⟩,⟨4,nExp,⟨#[49,48]⟩,true,10,0⟩,⟨4,⟨#[110]⟩,⟨#[49]⟩,true,1,0⟩]
def awC:qGn:=⟨awV,⟨#[97]⟩,true,⟨#[]⟩,false,[⟨#[120]⟩,⟨#[121]⟩],true,⟨#[]⟩,false,⟨true,10⟩,⟨false,0⟩,⟨false,0⟩⟩
theorem aw_read:readR awT=.ok awT.size awV:=by kernel_rfl
theorem aw_size:awT.size=42:=by decide
theorem aw_all {p:Eng.Node→Prop} (h:∀n,n=awV.getD 0 (ET.dft .node)∨n=awV.getD 1 (ET.dft .node)∨n=awV.getD 2 (ET.dft .node)∨n=awV.getD 3 (ET.dft .node)∨n=awV.getD 4 (ET.dft .node)∨n=awV.getD 5 (ET.dft .node)∨n=awV.getD 6 (ET.dft .node)→p n):∀n∈awV,p n:=fun n hn=>by
 refine h n ?_
 simp only [awV,List.mem_cons,List.not_mem_nil,or_false] at hn
 exact hn
theorem aw_kind:∀n∈awV,1≤n.kind∧n.kind≤7:=aw_all fun n hn=>by
 rcases hn with rfl | rfl | rfl | rfl | rfl | rfl | rfl <;> decide
theorem aw_ok:OkL awV:=⟨by decide,aw_all fun n hn=>by
 rcases hn with rfl | rfl | rfl | rfl | rfl | rfl | rfl <;> exact ⟨by decide,by decide,by unfold qAe; decide⟩⟩
theorem aw_tree:Tree awV 0 7:=readR_tree aw_read
theorem aw_leaf {a:Nat} {n:Eng.Node} (h:awV[a]?=some n) (h0:n.kids=0):Tree awV a (a+1):=Tree.mk h (by omega) (by
 rw [h0]
 exact Trees.nil _ (by have:=(List.getElem?_eq_some_iff.1 h).1; omega))
theorem aw_two:Trees awV 2 3 5:=Trees.app (aw_leaf (a:=3) rfl rfl) (aw_leaf (a:=4) rfl rfl)
theorem aw_aud:Tree awV 2 5:=Tree.mk (n:=⟨6,nAud,⟨#[]⟩,false,0,2⟩) rfl (by decide) aw_two
theorem aw_pl:qDa awV 4 1 [1,2,5,6] 7:=⟨2,[2,5,6],rfl,aw_leaf (a:=1) rfl rfl,5,[5,6],rfl,aw_aud,6,[6],rfl,aw_leaf (a:=5) rfl rfl,7,[],rfl,aw_leaf (a:=6) rfl rfl,rfl,rfl⟩
theorem aw_pl2:qDa awV 2 3 [3,4] 5:=⟨4,[4],rfl,aw_leaf (a:=3) rfl rfl,5,[],rfl,aw_leaf (a:=4) rfl rfl,rfl,rfl⟩
theorem aw_sub:subP awV 2=[3,4]:=by
 unfold subP
 rw [j_kids (a:=2) (nd:=⟨6,nAud,⟨#[]⟩,false,0,2⟩) aw_ok.1 rfl (by decide) aw_two aw_pl2]
 exact upN_back _
theorem aw_obj:Obj awV [1,2,5,6]:=by
 obtain ⟨L,hO⟩:=obj_read (by rw [aw_size]; decide) aw_read aw_ok aw_tree rfl fun d a b h=>oneS_tree aw_ok d true a b h
 obtain ⟨nd,h1,h2,h3⟩:=aw_tree.node
 obtain rfl:nd=⟨7,⟨#[]⟩,⟨#[]⟩,false,0,4⟩:=by cases h1; rfl
 have hk:=j_kids aw_ok.1 h1 h2 h3 aw_pl
 have hk':=hO.kids
 rw [show ((0:Nat):Int)=0 from rfl] at hk
 rw [hk] at hk'
 have e:=congrArg (List.map Int.toNat) (Option.some.inj hk')
 rw [upN_back,upN_back] at e
 rw [e]
 exact hO
theorem aw_good:[1,2,5,6].all (goodB awV)=true:=by
 have g2:goodB awV 2=true:=by
  show audB awV 2=true
  unfold audB
  rw [if_pos (show (awV.getD 2 (ET.dft .node)).kind=6 from rfl),aw_sub]
  rfl
 simp only [List.all_cons,List.all_nil,Bool.and_true,Bool.and_eq_true]
 exact ⟨rfl,g2,rfl,rfl⟩
theorem aw_full:fullC awV [1,2,5,6]=awC:=by
 have ha:audO awV (qB8 awV nAud [1,2,5,6])=[⟨#[120]⟩,⟨#[121]⟩]:=by
  show audO awV (some 2)=_
  rw [audO_six (show (awV.getD 2 (ET.dft .node)).kind=6 from rfl),aw_sub]
  rfl
 unfold fullC cOf
 dsimp only
 rw [ha]
 rfl
theorem aw_parse:zad_s awT=some (awC,0):=by
 rw [p_parse_ok (by rw [aw_size]; decide) aw_read rfl aw_obj aw_kind (by decide) aw_good,aw_full]
theorem aw_okC:OkC awC:=⟨by unfold qAe; decide,by unfold qAe; decide,by unfold qAe; decide⟩
theorem awake_is:zbm_s=some true:=by
 have hm:∀n,zao_s awC.value 0 n=some (memI (qB8 awV n [1,2,5,6])):=fun n=>(aw_obj.mem n).1
 have c1:=check_is (c:=awC) (p:=⟨[],⟨#[97]⟩,true,⟨#[121]⟩,true,⟨#[]⟩,false,0,[⟨#[110]⟩]⟩) hm (by decide) (by decide)
 have c2:=check_is (c:=awC) (p:=⟨[],⟨#[]⟩,false,⟨#[]⟩,false,⟨#[]⟩,false,0,[]⟩) hm (by decide) (by decide)
 have hin:inB awC.aud ⟨#[121]⟩=true:=(contains_is awC.aud (by decide) ⟨#[121]⟩).2.2 (List.mem_cons_of_mem _ List.mem_cons_self)
 have e1:chP (fun n=>memI (qB8 awV n [1,2,5,6])) awC ⟨[],⟨#[97]⟩,true,⟨#[121]⟩,true,⟨#[]⟩,false,0,[⟨#[110]⟩]⟩=0:=by
  unfold chP
  rw [show inB awC.aud (⟨[],⟨#[97]⟩,true,⟨#[121]⟩,true,⟨#[]⟩,false,0,[⟨#[110]⟩]⟩:qGv).aud=true from hin]
  rfl
 have e2:chP (fun n=>memI (qB8 awV n [1,2,5,6])) awC ⟨[],⟨#[]⟩,false,⟨#[]⟩,false,⟨#[]⟩,false,0,[]⟩=133:=rfl
 rw [e1] at c1
 rw [e2] at c2
 have k1:=clock_is aw_okC (L:=5) (now:=14) (by decide) (by unfold qAe; decide)
 have k2:=clock_is aw_okC (L:=5) (now:=15) (by decide) (by unfold qAe; decide)
 have z1:clP awC 5 14=0:=rfl
 have z2:clP awC 5 15=134:=rfl
 obtain ⟨w,o1,o2⟩:=open_is aw_okC (L:=5) (by decide)
 have hw:w.empty=false∧w.to_=14:=by
  rcases o2 with ⟨_,h⟩ | ⟨h1,h2,h3,h4,h5,_⟩
  ·exact (h 14 (by unfold qAe; decide) z1).elim
  ·have q1:=(h5 14 (by unfold qAe; decide)).1 z1
   have q2:¬(w.from_≤15∧15≤w.to_):=fun h=>by
    have:=(h5 15 (by unfold qAe; decide)).2 h
    rw [z2] at this
    cases this
   exact ⟨h1,by omega⟩
 unfold zbm_s
 rw [show (⟨#[123,34,105,115,115,34,58,34,97,34,44,34,97,117,100,34,58,91,34,120,34,44,34,121,34,93,44,34,101,120,112,34,58,49,48,44,34,110,34,58,49,125]⟩:ByteArray)=awT from rfl,aw_parse,obS]
 dsimp only
 rw [o1,obS]
 dsimp only
 rw [hw.1,hw.2,c1,c2,k1,k2,z1,z2]
 rfl
theorem j_member_total (v:List Eng.Node) (hv:v.length≤2000000) (a:Int) (key:ByteArray):∃r,zao_s v a key=some r:=by
 by_cases ha:a<0∨(v.length:Int)≤a
 ·exact ⟨_,(member_out ha key).1⟩
 ·obtain ⟨b,rfl⟩:=Int.eq_ofNat_of_zero_le (show 0≤a by omega)
  have loop:∀(m next i:Nat),v.length - next≤m→i≤next→next≤v.length→∃r,zao_p0 (b:Int) key (next:Int) (i:Int) v=some r:=by
   intro m
   induction m with
   | zero =>
    intro next i h1 h3 h4
    refine ⟨.inr (),?_⟩
    unfold zao_p0
    refine qAi ?_
    unfold qB2
    dsimp only
    rw [qAb (by omega),qAb (by omega),qAb (by omega),deF (show ¬(next:Int)<v.length by omega),Bool.and_false,cnF]
   | succ m ih =>
    intro next i h1 h3 h4
    cases hc:((decide ((i:Int)<(v.getD (Int.toNat (b:Int)) (ET.dft .node)).kids) && decide ((0:Int)≤next)) && decide ((next:Int)<v.length)) with
    | false =>
     refine ⟨.inr (),?_⟩
     unfold zao_p0
     refine qAi ?_
     unfold qB2
     dsimp only
     rw [qAb (by omega),qAb (by omega),qAb (by omega),hc,cnF]
    | true =>
     have hlt:next<v.length:=by
      rw [Bool.and_eq_true] at hc
      have:=of_decide_eq_true hc.2
      omega
     by_cases hkey:(v.getD (Int.toNat (next:Int)) (ET.dft .node)).key=key
     ·refine ⟨.inl (next:Int),?_⟩
      unfold zao_p0
      refine qAi ?_
      unfold qB2
      dsimp only
      rw [qAb (by omega),qAb (by omega),qAb (by omega),hc,cnT,qAb (by omega),qAb (by omega),qAb (by omega),deT hkey,cnT]
     ·obtain ⟨r,r1,r2,_⟩:=jBehind_some v hv next
      obtain ⟨c,rfl,c1,c2⟩:=r2 hlt
      obtain ⟨y,hy⟩:=ih c (i+1) (by omega) (by omega) c2
      refine ⟨y,?_⟩
      unfold zao_p0 at hy ⊢
      rw [qAs (y:=((c:Int),((i+1:Nat):Int))) ?_]
      ·exact hy
      ·unfold qB2
       dsimp only
       rw [qAb (by omega),qAb (by omega),qAb (by omega),hc,cnT,qAb (by omega),qAb (by omega),qAb (by omega),deF hkey,cnF,r1,obS]
       exact (qAb (by unfold qAe; omega) _).trans rfl
  obtain ⟨r,hr⟩:=loop v.length (b+1) 0 (by omega) (by omega) (by omega)
  rw [show ((b+1:Nat):Int)=(b:Int)+1 by omega,show ((0:Nat):Int)=0 from rfl] at hr
  unfold zao_s
  rw [qAb (fun _=>by omega),qAb (fun _=>by omega),qAb (fun _=>by omega)]
  cases ((decide ((b:Int)<0) || decide ((v.length:Int)≤b)) || (!decide ((v.getD (Int.toNat (b:Int)) (ET.dft .node)).kind=7))) with
  | true=>exact ⟨_,rfl⟩
  | false =>
   rw [cnF,qAb (by unfold qAe; omega),hr,obS]
   cases r <;> exact ⟨_,rfl⟩
theorem by_trim:∀(m:Nat) (o:List Int),o.length=m→m≤100000→∃k,k≤m∧zbs_p1 o=some (o.take k)∧(0<k→0<o.getD (k - 1) (ET.dft .i64))
 | 0,o,h,hm=>by
  refine ⟨0,by omega,?_,fun h=>by omega⟩
  have:o=[]:=List.eq_nil_of_length_eq_zero h
  subst this
  unfold zbs_p1
  refine qAi ?_
  unfold qD4
  rw [qAb (fun h=>by simp at h),qAb (fun h=>by simp at h),qAb (fun h=>by simp at h)]
  rfl
 | m+1,o,h,hm=>by
  have hlen:Int.toNat ((o.length:Int) - 1)=m:=by omega
  by_cases hc:o.getD m (ET.dft .i64)≤0
  ·obtain ⟨k,k1,k2,k3⟩:=by_trim m (o.take m) (by rw [List.length_take]; omega) (by omega)
   refine ⟨k,by omega,?_,fun hk=>?_⟩
   ·unfold zbs_p1 at k2 ⊢
    rw [qAs (y:=o.take m) ?_,k2,List.take_take,Nat.min_eq_left k1]
    unfold qD4
    rw [qAb (fun _=>by unfold qAe; omega),qAb (fun _=>by omega),qAb (fun _=>by omega),hlen,deT (show (0:Int)<o.length by omega),deT hc,Bool.and_self,cnT,qAb (by unfold qAe; omega),qAb (by omega)]
   ·have:=k3 hk
    rw [List.getD_eq_getElem?_getD,List.getElem?_take_of_lt (by omega)] at this
    rw [List.getD_eq_getElem?_getD]
    exact this
  ·refine ⟨m+1,Nat.le_refl _,?_,fun _=>by rw [Nat.add_sub_cancel]; omega⟩
   rw [List.take_of_length_le (by omega)]
   unfold zbs_p1
   refine qAi ?_
   unfold qD4
   rw [qAb (fun _=>by unfold qAe; omega),qAb (fun _=>by omega),qAb (fun _=>by omega),hlen,deF hc,Bool.and_false,cnF]
theorem getD_mem {o:List Int} {k:Nat} (h:k<o.length):o.getD k (ET.dft .i64)∈o:=by
 rw [List.getD_eq_getElem?_getD,List.getElem?_eq_getElem h]
 exact List.getElem_mem h
theorem by_loop {v:List Eng.Node} (hv:OkL v):∀(j i:Nat) (o:List Int),i+j=v.length→o.length≤65536→(∀x∈o,qAe x)→∃y,zbs_p0 (i:Int) v o=some y
 | 0,i,o,h,ho,hi=>by
  refine ⟨.inr (),?_⟩
  unfold zbs_p0
  refine qAi ?_
  unfold qD0
  dsimp only
  rw [deF (by omega),cnF]
 | j+1,i,o,h,ho,hi=>by
  have hlen:=hv.1
  obtain ⟨k,k1,k2,k3⟩:=by_trim o.length o rfl (by omega)
  obtain ⟨n,_,hmem,hget⟩:=nd_some (v:=v) (a:=i) (by omega)
  have hkids:=(hv.2 n hmem).kids
  have p2:∀q:List Int,q.length=k→(∀x∈q,qAe x)→∃z,zbs_p2 (i:Int) v q=some z∧(z=.inl true∨∃q',z=.inr q'∧q'.length≤65536∧∀x∈q',qAe x):=by
   intro q hq hx
   unfold zbs_p2
   rw [qAb (by omega),Int.toNat_natCast,qAb (by omega),qAb (by omega),hget,qAb (by simp only [List.length_singleton]; omega)]
   by_cases h6:(65536:Int)<(q++[n.kids]).length
   ·rw [deT h6,cnT]
    exact ⟨_,rfl,.inl rfl⟩
   ·rw [deF h6,cnF]
    refine ⟨_,rfl,.inr ⟨_,rfl,by omega,fun x hx'=>?_⟩⟩
    rcases List.mem_append.1 hx' with h | h
    ·exact hx x h
    ·rw [List.mem_singleton] at h
     rw [h]; exact hkids
  have hstep:∃y,qD0 (i:Int) v o=some y∧((∃z,y=.inr z)∨∃q,y=.inl (((i+1:Nat):Int),q)∧q.length≤65536∧∀x∈q,qAe x):=by
   unfold qD0
   rw [deT (by omega),cnT,k2,obS]
   have hk8:(o.take k).length=k:=by rw [List.length_take]; omega
   have htk:∀x∈o.take k,qAe x:=fun x hx=>hi x (List.mem_of_mem_take hx)
   have fin:∀q:List Int,q.length=k→(∀x∈q,qAe x)→∃y,((zbs_p2 (i:Int) v q).bind fun o9=>(Sum.elim (fun (o9_0:Bool)=>some (.inr (.inl o9_0))) (fun (o9_1:(List Int))=>gd (qAe ((i:Int)+1)) <| some (.inl (((i:Int)+1),o9_1)))) o9:Option ((Int × (List Int)) ⊕ (Bool ⊕ Unit)))=some y∧((∃z,y=.inr z)∨∃q,y=.inl (((i+1:Nat):Int),q)∧q.length≤65536∧∀x∈q,qAe x):=by
    intro q hq hx
    obtain ⟨z,z1,z2⟩:=p2 q hq hx
    rw [z1,obS]
    rcases z2 with rfl | ⟨q',rfl,q1,q2⟩
    ·exact ⟨_,rfl,.inl ⟨_,rfl⟩⟩
    ·exact ⟨_,qAb (by unfold qAe; omega) _,.inr ⟨q',rfl,q1,q2⟩⟩
   by_cases h0:0<k
   ·rw [hk8,deT (by omega),cnT]
    have hkt:Int.toNat ((k:Int) - 1)=k - 1:=by omega
    have hgd:(o.take k).getD (k - 1) (ET.dft .i64)=o.getD (k - 1) (ET.dft .i64):=by
     rw [List.getD_eq_getElem?_getD,List.getElem?_take_of_lt (by omega),←List.getD_eq_getElem?_getD]
    have hpos:=k3 h0
    have hin:=hi _ (getD_mem (o:=o) (k:=k - 1) (by omega))
    unfold qAe at hin
    rw [qAb (by unfold qAe; omega),qAb (by unfold qAe; omega),qAb (by omega),hkt,hgd,qAb (by omega),qAb (by unfold qAe; omega),qAb (by omega),qAb (by omega)]
    refine fin _ (by rw [List.length_set,hk8]) fun x hx=>?_
    rcases List.mem_or_eq_of_mem_set hx with h | rfl
    ·exact htk x h
    ·unfold qAe; omega
   ·rw [hk8,deF (by omega),cnF]
    exact fin _ hk8 htk
  obtain ⟨y,h1,h2⟩:=hstep
  rcases h2 with ⟨z,rfl⟩ | ⟨q,rfl,q1,q2⟩
  ·refine ⟨z,?_⟩
   unfold zbs_p0
   exact qAi h1
  ·obtain ⟨y,hy⟩:=by_loop hv j (i+1) q (by omega) q1 q2
   refine ⟨y,?_⟩
   unfold zbs_p0 at hy ⊢
   rw [qAs h1]
   exact hy
theorem beyond_total {v:List Eng.Node} (hv:OkL v):∃b,zbs_s v=some b:=by
 obtain ⟨y,hy⟩:=by_loop hv v.length 0 [] (by omega) (by simp) (fun x hx=>by cases hx)
 unfold zbs_s
 rw [show ((0:Nat):Int)=0 from rfl] at hy
 rw [hy,obS]
 cases y <;> exact ⟨_,rfl⟩
theorem each_p0 {v:List Eng.Node} {m:ByteArray→Int} (hm:∀n,zao_s v 0 n=some (m n)) (l:List ByteArray) (hl:l.length≤3000000):∀(j i:Nat) (ms:Bool),i+j=l.length →
  zbl_p0 ms (i:Int) v l=some (ms || !(l.drop i).all (fun n=>decide (0≤m n)))
 | 0,i,ms,h=>by
  rw [List.drop_eq_nil_of_le (by omega)]
  unfold zbl_p0
  refine qAi ?_
  unfold qFb
  dsimp only
  rw [deF (by omega),cnF,List.all_nil,Bool.not_true,Bool.or_false]
 | j+1,i,ms,h=>by
  have hi:i<l.length:=by omega
  have hd:l.drop i=l[i]::l.drop (i+1):=List.drop_eq_getElem_cons hi
  have e:(ms || !((decide (0≤m l[i])) && (l.drop (i+1)).all (fun n=>decide (0≤m n))))=((ms || decide (m l[i]<0)) || !(l.drop (i+1)).all (fun n=>decide (0≤m n))):=by
   have:decide (m l[i]<0)=!decide (0≤m l[i]):=by
    apply Bool.eq_iff_iff.2
    rw [decide_eq_true_eq,Bool.not_eq_true',decide_eq_false_iff_not]
    omega
   rw [this,Bool.not_and,Bool.or_assoc]
  rw [hd,List.all_cons,e,←each_p0 hm l hl j (i+1) _ (by omega)]
  unfold zbl_p0
  rw [qAs (y:=((ms || decide (m l[i]<0)),((i+1:Nat):Int)))]
  unfold qFb
  dsimp only
  rw [deT (by omega),cnT,qAb (fun _=>by omega),qAb (fun _=>by omega),Int.toNat_natCast,getD_str hi,hm,obS]
  exact qAb (by unfold qAe; omega) _
theorem each_p1 (x:ByteArray) (l:List ByteArray) (hl:l.length≤3000000):∀(j i:Nat) (b:Bool),i+j=l.length →
  zbl_p1 b (i:Int) l x=some (b || (l.drop i).any (fun s=>decide (s=x)))
 | 0,i,b,h=>by
  rw [List.drop_eq_nil_of_le (by omega)]
  unfold zbl_p1
  refine qAi ?_
  unfold qE3
  dsimp only
  rw [deF (by omega),cnF,List.any_nil,Bool.or_false]
 | j+1,i,b,h=>by
  have hi:i<l.length:=by omega
  have hd:l.drop i=l[i]::l.drop (i+1):=List.drop_eq_getElem_cons hi
  rw [hd,List.any_cons,←Bool.or_assoc,←each_p1 x l hl j (i+1) _ (by omega)]
  unfold zbl_p1
  rw [qAs (y:=((b || decide (l[i]=x)),((i+1:Nat):Int)))]
  unfold qE3
  dsimp only
  rw [deT (by omega),cnT,qAb (fun _=>by omega),qAb (fun _=>by omega),Int.toNat_natCast,getD_str hi]
  exact qAb (by unfold qAe; omega) _
theorem inB_any (l:List ByteArray) (hl:l.length≤3000000) (x:ByteArray):l.any (fun s=>decide (s=x))=inB l x:=by
 apply Bool.eq_iff_iff.2
 rw [(contains_is l hl x).2,List.any_eq_true]
 constructor
 ·rintro ⟨s,h1,h2⟩
  rw [decide_eq_true_eq] at h2
  rw [←h2]
  exact h1
 ·exact fun h=>⟨x,h,deT rfl⟩
theorem claimsEach_plain {c:qGn} {p:qGv} (hv:OkL c.value) (h2:c.aud.length≤3000000) (h3:p.need.length≤3000000):zbl_s c p=some true:=by
 obtain ⟨b,hb⟩:=beyond_total hv
 have hm:∀n,zao_s c.value 0 n=some ((zao_s c.value 0 n).getD 0):=fun n=>by
  obtain ⟨r,hr⟩:=j_member_total c.value hv.1 0 n
  rw [hr]
  rfl
 generalize hmm:(fun n=>(zao_s c.value 0 n).getD 0)=m at *
 have hm:∀n,zao_s c.value 0 n=some (m n):=fun n=>by rw [hm n,←hmm]
 unfold zbl_s
 rw [awake_is,obS,Bool.not_true,cnF,hb,obS]
 cases b with
 | true=>rfl
 | false =>
  rw [cnF,ref_Shaped hv,obS]
  cases decide (oneS c.value 32 false 0=some c.value.length) with
  | false=>rfl
  | true =>
   rw [Bool.not_true,cnF]
   have p0:=each_p0 hm p.need h3 p.need.length 0 false (by omega)
   have p1:=each_p1 p.aud c.aud h2 c.aud.length 0 false (by omega)
   rw [List.drop_zero,show ((0:Nat):Int)=0 from rfl,Bool.false_or] at p0 p1
   rw [inB_any c.aud h2] at p1
   rw [check_is (c:=⟨c.value,c.iss,c.hasIss,c.sub,c.hasSub,c.aud,false,c.jti,c.hasJti,c.exp_,c.nbf,c.iat⟩) (p:=⟨[],⟨#[]⟩,false,⟨#[]⟩,false,⟨#[]⟩,false,0,p.need⟩) hm h2 h3,obS,
    check_is (c:=⟨c.value,c.iss,c.hasIss,c.sub,c.hasSub,c.aud,false,c.jti,c.hasJti,c.exp_,c.nbf,c.iat⟩) (p:=⟨[],p.iss,p.hasIss,⟨#[]⟩,false,⟨#[]⟩,false,0,[]⟩) hm h2 (Nat.zero_le _),obS,
    check_is (c:=c) (p:=⟨[],⟨#[]⟩,false,p.aud,p.hasAud,⟨#[]⟩,false,0,[]⟩) hm h2 (Nat.zero_le _),obS,p0,obS,p1,obS,check_is hm h2 h3,obS]
   unfold chP
   dsimp only
   rw [List.all_nil]
   generalize (p.need.all fun n=>decide (0≤m n))=A
   generalize inB c.aud p.aud=I
   generalize decide (c.iss=p.iss)=D
   cases A <;> cases p.hasIss <;> cases c.hasIss <;> cases D <;> cases p.hasAud <;> cases c.hasAud <;> cases I <;> rfl
end Go.Proofs.YticplgndjpljiaaDoor
namespace Go.Eng
open Go.RowKit
set_option linter.unusedVariables false
theorem i64_of_wf {a:Int} (h:(Lit.int .i64 a).wf=true) : -9223372036854775808≤a∧a≤9223372036854775807:=by
 simp [Lit.wf,IntKind.min,IntKind.max,IntKind.signed,IntKind.bits] at h
 exact h
structure LowB (w w':World):Prop where
 os:w'.os=w.os
 output:w'.output=w.output
 size:w.heap.size≤w'.heap.size
 block:∀k,k<w.heap.size→w'.heap[k]?=w.heap[k]?
theorem lowB_of_stays {w w':World} (h:Stays (fun _=>False) w w'):LowB w w':=⟨h.os,h.output,h.size,fun k hk=>h.block k hk id⟩
theorem LowB.frame {W w':World} (h:LowB W w') (may:MemPlace→Prop):W.keptBut w' may:=by
 refine ⟨h.os,h.output,fun i hi=>?_⟩
 rw [h.block i hi]
 split <;> simp_all
theorem LowB.same {W w':World} (h:LowB W w') {p:MemPlace} (hp:p.block<W.heap.size):W.sameAt w' p:=by
 cases p with
 | cell b o=>exact World.cell?_of_block (w:=W) (h.block b hp)
 | map b=>exact h.block b hp
theorem LowB.trod {H:Type} {enc:TypeId × Value→H} {P:Program} {t:TypeId} (hl:laidOutB P=true) (hr:P.readableRec t=true) (hrow:t<P.types.size) {W W':World} {v:Value} {d:DataW H} {ps:List MemPlace}
  (h:DataW.Trod enc P W 0 (fun _=>true) true t v d ps) (hb:LowB W W') (hlt:∀x∈ps,x.block<W.heap.size) :
  DataW.Trod enc P W' 0 (fun b=>decide (b<W.heap.size)) true t v d ps :=
 WideElems.Trod_stays hl hr hrow h (fun x hx=>hb.same (hlt x hx)) (fun x hx=>by simpa using hlt x hx)
end Go.Eng
namespace Go.Proofs.YticplgndjpljiaaDoor
open Go.RowKit Go.ChangeShapes Go.WideShapes Go.Deep Go.Eng
set_option linter.unusedVariables false
set_option maxRecDepth 100000
theorem callV {P:Program} {f:Nat} {C:CS} (h:qAn P f C) {args:List SV} {hp hp':List SB} {v:SV} (hc:C args hp (SV × List SB) (fun v hp'=>some (v,hp'))=some (v,hp')) (ha:∀x∈args,x.lt hp.length) (hv:v.shut=true) (w:World) {ρ:Nat→Value} (hs:HpSat noX w w ρ hp) (vs:List Value) (hvs:args.map (SV.den ρ)=vs) :
  Calls P f vs.toArray w fun e w'=>e=.returned (v.den fun _=>undef)∧LowB w w':=by
 have:=h.2 args hp v hp' hc ha noX w ρ hs
 rw [hvs] at this
 exact this.mono fun e w' ⟨ρ',_,_,a,_,_,b⟩=>⟨by rw [a,SV.shut_den hv ρ' fun _=>undef],lowB_of_stays b⟩
def ViewsOK (w:World):List Value→List SB→Prop
 | [],[]=>True
 | v::vs,.view t l::hp=>qCr noX w w t v l∧ViewsOK w vs hp
 | _,_=>False
theorem viewsOK_at {w:World}:∀ {vs:List Value} {hp:List SB},ViewsOK w vs hp→∀(i:Nat) (sb:SB),hp[i]?=some sb→∃t l,sb=.view t l∧qCr noX w w t (vs.getD i undef) l
 | [],[],_,i,sb,h=>by simp at h
 | v::vs,.view t l::hp,h,i,sb,hi=>by
  cases i with
  | zero =>
   simp at hi
   exact ⟨t,l,hi.symm,h.1⟩
  | succ i =>
   obtain ⟨t',l',h1,h2⟩:=viewsOK_at h.2 i sb (by simpa using hi)
   exact ⟨t',l',h1,by simpa using h2⟩
 | [],_::_,h,_,_,_=>h.elim
 | _::_,[],h,_,_,_=>h.elim
 | _::_,.cells ..::_,h,_,_,_=>h.elim
 | _::_,.row ..::_,h,_,_,_=>h.elim
 | _::_,.part ..::_,h,_,_,_=>h.elim
 | _::_,.dead::_,h,_,_,_=>h.elim
theorem views_sat {w:World} {vs:List Value} {hp:List SB} (h:ViewsOK w vs hp) (ht:tabOK noX w):HpSat noX w w (fun i=>vs.getD i undef) hp:=by
 have key:=viewsOK_at h
 refine ⟨fun i hi=>?_,fun i sb hi=>?_,fun i sb hi=>?_,fun i j sb sb' b _ hi hj e1 _ _ _=>?_,ht⟩
 ·obtain ⟨t,l,_,a,cap,hv,_⟩:=key i hp[i] (by simp [hi])
  show qDq (vs.getD i undef)
  rw [hv]
  trivial
 ·obtain ⟨t,l,rfl,hv⟩:=key i sb hi
  exact hv
 ·obtain ⟨t,l,rfl,hv⟩:=key i sb hi
  trivial
 ·obtain ⟨t,l,rfl,hv⟩:=key i sb hi
  cases e1
section
variable {H:Type} {enc:TypeId × Value→H} {W:World} {sp:Nat→Bool} {held:Bool} {r:Reach} {b0:Nat}
theorem bulkAll_mem:∀ {l:List (DataW H)} {d:DataW H},d∈l→Rows.uptoBulk d≤Rows.uptoBulkAll l
 | x::l,d,h=>by
  simp only [Rows.uptoBulkAll]
  rcases List.mem_cons.1 h with rfl | h
  ·omega
  ·have:=bulkAll_mem h
   omega
theorem bulk_pos (d:DataW H):1≤Rows.uptoBulk d:=by
 cases d with
 | lit l=>cases l <;> simp [Rows.uptoBulk]
 | _=>all_goals simp [Rows.uptoBulk]
theorem bulkAll_len:∀(l:List (DataW H)),l.length≤Rows.uptoBulkAll l
 | []=>by simp
 | x::l=>by
  have h1:=bulk_pos x
  have h2:=bulkAll_len l
  simp only [Rows.uptoBulkAll,List.length_cons]
  omega
theorem view_mk {t:ET} {a:Addr} {len cap:Nat} {N:Nat→t.T} (hl:len≤cap) (hb:0<len→a.block<W.heap.size)
  (hc:∀i,i<len→∀j u,(t.enc (N i))[j]?=some u→W.cell? (a.add (i*t.sz+j))=some u):qCr noX W W t (.slice (some a) len cap) ((List.range len).map N):=by
 refine ⟨some a,cap,by simp,by simpa using hl,fun p u hu=>⟨a,rfl,?_⟩⟩
 have hlt:p<((List.range len).map N).length*t.sz:=by
  have:=(List.getElem?_eq_some_iff.1 hu).1
  rwa [qA7 t.enc_len] at this
 simp only [List.length_map,List.length_range] at hlt
 have hsz:=t.sz_pos
 have hi:p / t.sz<len:=(Nat.div_lt_iff_lt_mul hsz).2 hlt
 have hj:p % t.sz<t.sz:=Nat.mod_lt _ hsz
 have he:(t.enc (((List.range len).map N).getD (p / t.sz) t.dft))[p % t.sz]?=some (t.enc (N (p / t.sz)))[p % t.sz]!:=by
  have e1:((List.range len).map N).getD (p / t.sz) t.dft=N (p / t.sz):=by simp [List.getD,hi]
  rw [e1,List.getElem?_eq_getElem (by rw [t.enc_len]; exact hj),List.getElem!_eq_getElem?_getD,List.getElem?_eq_getElem (by rw [t.enc_len]; exact hj)]
  rfl
 have h1:=qEw t.enc_len t.dft ((List.range len).map N) (p / t.sz) (p % t.sz) _ (by simpa using hi) he
 have e2:p / t.sz*t.sz+p % t.sz=p:=Nat.div_add_mod' p t.sz
 rw [e2,hu] at h1
 have h2:=hc (p / t.sz) hi (p % t.sz) u (by
  have e1:((List.range len).map N).getD (p / t.sz) t.dft=N (p / t.sz):=by simp [List.getD,hi]
  rw [e1] at he
  rw [he,←Option.some.inj h1])
 rw [e2] at h2
 exact ⟨h2,.inl ⟨hb (Nat.lt_of_le_of_lt (Nat.zero_le _) hi),id⟩⟩
theorem view_nil {t:ET}:qCr noX W W t (.slice none 0 0) []:=⟨none,0,rfl,Nat.le_refl _,fun j u h=>by simp at h⟩
theorem choose_ltV {α:Type} [Inhabited α] {n:Nat} {P:Nat→α→Prop} (h:∀i,i<n→∃x,P i x):∃f:Nat→α,∀i,i<n→P i (f i):=by
 classical
 refine ⟨fun i=>if hi:i<n then (h i hi).choose else default,fun i hi=>?_⟩
 simp only [hi,dif_pos]
 exact (h i hi).choose_spec
structure NodeB (B:Nat) (n:Eng.Node):Prop where
 kind:qAe n.kind
 key:n.key.size≤B
 text:n.text.size≤B
 int:qAe n.int
 kids:qAe n.kids
instance:Inhabited Eng.Node:=⟨⟨0,.empty,.empty,false,0,0⟩⟩
theorem qEo {fuel B:Nat} {c:Value} {y:DataW H × List MemPlace} (h:DataW.trod enc Tryd.prog W 0 sp held fuel 29 [c]=some y) (hz:Rows.uptoBulk y.1≤B) :
  ∃(v:Value) (xs:List ByteArray),[c]=[v]∧qCr noX W W .str v xs∧(∀s∈xs,s.size≤B)∧xs.length≤B:=by
 have hlt:=DataW.trod_lt _ _ _ _ h
 rcases open_slice Tryd.underlying29 h with ⟨hcs,_⟩ | ⟨a,len,cap,m,fu,D,Pl,hcs,_,hl,hm,hmm,rfl,hel⟩
 ·exact ⟨_,[],hcs,view_nil,by simp,by simp⟩
 ·have hlm:len≤m:=by rw [hmm]; split <;> omega
  rw [show Tryd.prog.cellsOf 9=1 by kernel_rfl] at hel
  simp only [Rows.uptoBulk] at hz
  have each:∀i,i<len→∃x:ByteArray,x.size≤B∧∀j u,(ET.str.enc x)[j]?=some u→W.cell? (a.add (i*1+j))=some u:=by
   intro i hi
   obtain ⟨cs',hcells,htr⟩:=hel i (by omega)
   obtain ⟨x,e,hd,_⟩:=DataW.trod_string Tryd.underlying9 htr
   have hd1:D i=.lit (.string x.data.toList):=congrArg Prod.fst hd
   subst e
   obtain ⟨_,hcl,hat⟩:=World.cells?_some hcells
   refine ⟨x,?_,fun j u hj=>?_⟩
   ·have h1:=bulkAll_mem (H:=H) (l:=(List.range len).map D) (List.mem_map.2 ⟨i,List.mem_range.2 hi,rfl⟩)
    rw [hd1] at h1
    simp only [Rows.uptoBulk,Array.length_toList] at h1
    have:x.size=x.data.size:=rfl
    omega
   ·have hj1:j<1:=by
     have:=(List.getElem?_eq_some_iff.1 hj).1
     simpa [ET.enc] using this
    have:=hat j hj1
    rw [Go.Deep.add_add] at this
    rw [this]
    exact hj
  obtain ⟨N,hN⟩:=choose_ltV (α:=ByteArray) each
  refine ⟨_,(List.range len).map N,hcs,view_mk (t:=.str) hl (fun h0=>?_) (fun i hi=>(hN i hi).2),fun s hs=>?_,?_⟩
  ·exact hlt (.cell a.block a.off) (by
    simp only [MemPlace.row,List.mem_append,List.mem_map,List.mem_range]
    exact .inl ⟨0,by rw [show Tryd.prog.cellsOf 9=1 by kernel_rfl]; omega,by simp⟩)
  ·obtain ⟨i,hi,rfl⟩:=List.mem_map.1 hs
   exact (hN i (List.mem_range.1 hi)).1
  ·have h1:=bulkAll_len (H:=H) ((List.range len).map D)
   simp only [List.length_map,List.length_range] at h1 ⊢
   omega
theorem openV_node_cells {fuel B:Nat} {l:List Value} {y:DataW H × List MemPlace} (h:DataW.trod enc Tryd.prog W 0 sp held fuel 46 l=some y) (hz:Rows.uptoBulk y.1≤B) :
  ∃x:Eng.Node,l=ET.node.enc x∧NodeB B x:=by
 obtain ⟨xs,n,_,hx,hll,hlen,hg⟩:=DataW.trod_struct Tryd.underlying46 h
 rw [show Tryd.prog.cellsOf 46=6 by kernel_rfl] at hll
 match l,hll,xs,hlen with
 | [c0,c1,c2,c3,c4,c5],_,[y0,y1,y2,y3,y4,y5],_ =>
  subst hx
  have g0:DataW.trod enc Tryd.prog W 0 sp held n 44 [c0]=some y0:=by simpa [show Tryd.prog.cellsOf 44=1 by kernel_rfl] using hg 0 _ rfl
  have g1:DataW.trod enc Tryd.prog W 0 sp held n 9 [c1]=some y1:=by simpa [show Tryd.prog.cellsOf 9=1 by kernel_rfl] using hg 1 _ rfl
  have g2:DataW.trod enc Tryd.prog W 0 sp held n 9 [c2]=some y2:=by simpa [show Tryd.prog.cellsOf 9=1 by kernel_rfl] using hg 2 _ rfl
  have g3:DataW.trod enc Tryd.prog W 0 sp held n 4 [c3]=some y3:=by simpa [show Tryd.prog.cellsOf 4=1 by kernel_rfl] using hg 3 _ rfl
  have g4:DataW.trod enc Tryd.prog W 0 sp held n 2 [c4]=some y4:=by simpa [show Tryd.prog.cellsOf 2=1 by kernel_rfl] using hg 4 _ rfl
  have g5:DataW.trod enc Tryd.prog W 0 sp held n 3 [c5]=some y5:=by simpa [show Tryd.prog.cellsOf 3=1 by kernel_rfl] using hg 5 _ rfl
  obtain ⟨a0,e0,d0,i0⟩:=DataW.trod_int Tryd.underlying44 g0
  obtain ⟨a1,e1,d1,i1⟩:=DataW.trod_string Tryd.underlying9 g1
  obtain ⟨a2,e2,d2,i2⟩:=DataW.trod_string Tryd.underlying9 g2
  obtain ⟨a3,e3,d3⟩:=DataW.trod_bool Tryd.underlying4 g3
  obtain ⟨a4,e4,d4,i4⟩:=DataW.trod_int Tryd.underlying2 g4
  obtain ⟨a5,e5,d5,i5⟩:=DataW.trod_int Tryd.underlying3 g5
  simp only [List.cons.injEq,and_true] at e0 e1 e2 e3 e4 e5
  subst e0 e1 e2 e3 e4 e5
  subst d0 d1 d2 d3 d4 d5
  simp only [List.map_cons,List.map_nil,Rows.uptoBulk,Rows.uptoBulkAll,Array.length_toList] at hz
  have q1:a1.size=a1.data.size:=rfl
  have q2:a2.size=a2.data.size:=rfl
  exact ⟨⟨a0,a1,a2,a3,a4,a5⟩,rfl,Go.Eng.i64_of_wf i0,by show a1.size≤B; omega,by show a2.size≤B; omega,Go.Eng.i64_of_wf i4,Go.Eng.i64_of_wf i5⟩
theorem openV_nodes_cells {fuel B:Nat} {c:Value} {y:DataW H × List MemPlace} (h:DataW.trod enc Tryd.prog W 0 sp held fuel 40 [c]=some y) (hz:Rows.uptoBulk y.1≤B) :
  ∃(v:Value) (xs:List Eng.Node),[c]=[v]∧qCr noX W W .node v xs∧(∀n∈xs,NodeB B n)∧xs.length≤B:=by
 have hlt:=DataW.trod_lt _ _ _ _ h
 rcases open_slice Tryd.underlying40 h with ⟨hcs,_⟩ | ⟨a,len,cap,m,fu,D,Pl,hcs,_,hl,hm,hmm,rfl,hel⟩
 ·exact ⟨_,[],hcs,view_nil,by simp,by simp⟩
 ·have hlm:len≤m:=by rw [hmm]; split <;> omega
  rw [show Tryd.prog.cellsOf 46=6 by kernel_rfl] at hel
  simp only [Rows.uptoBulk] at hz
  have each:∀i,i<len→∃x:Eng.Node,NodeB B x∧∀j u,(ET.node.enc x)[j]?=some u→W.cell? (a.add (i*6+j))=some u:=by
   intro i hi
   obtain ⟨cs',hcells,htr⟩:=hel i (by omega)
   have h1:=bulkAll_mem (H:=H) (l:=(List.range len).map D) (List.mem_map.2 ⟨i,List.mem_range.2 hi,rfl⟩)
   obtain ⟨x,rfl,hok⟩:=openV_node_cells (B:=B) htr (by show Rows.uptoBulk (D i)≤B; omega)
   obtain ⟨_,hcl,hat⟩:=World.cells?_some hcells
   refine ⟨x,hok,fun j u hj=>?_⟩
   have hj6:j<6:=by
    have:=(List.getElem?_eq_some_iff.1 hj).1
    simpa [ET.enc] using this
   have:=hat j hj6
   rw [hj,Go.Deep.add_add] at this
   exact this
  obtain ⟨N,hN⟩:=choose_ltV (α:=Eng.Node) each
  refine ⟨_,(List.range len).map N,hcs,view_mk (t:=.node) hl (fun h0=>?_) (fun i hi=>(hN i hi).2),fun s hs=>?_,?_⟩
  ·exact hlt (.cell a.block a.off) (by
    simp only [MemPlace.row,List.mem_append,List.mem_map,List.mem_range]
    exact .inl ⟨0,by rw [show Tryd.prog.cellsOf 46=6 by kernel_rfl]; omega,by simp⟩)
  ·obtain ⟨i,hi,rfl⟩:=List.mem_map.1 hs
   exact (hN i (List.mem_range.1 hi)).1
  ·have h1:=bulkAll_len (H:=H) ((List.range len).map D)
   simp only [List.length_map,List.length_range] at h1 ⊢
   omega
end
end Go.Proofs.YticplgndjpljiaaDoor
