/-
  Texts of a claim.
-/
import Derived.Test.YtnifdcmeffnpaaaGreatDoorDecRel
import Derived.Test.YtnifdcmeffnpaaaGreatDoorGC
namespace Go.Proofs.YtnifdcmeffnpaaaGreatDoor
open Go.Eng
set_option linter.unusedVariables false
set_option linter.unusedSimpArgs false
theorem dV_range (s:BA) (i:Nat):0≤dV s i∧dV s i<256:=by unfold dV; omega
structure DKey where
 ds:List Int
 pow:Int
def Dig (l:List Int):Prop:=∀d∈l,0≤d∧d≤9
def LastNZ:List Int→Prop
 | []=>True
 | [d]=>d≠0
 | _::l=>LastNZ l
structure Norm (a:DKey):Prop where
 dig:Dig a.ds
 last:LastNZ a.ds
 first:∀d,a.ds.head?=some d→d≠0
end Go.Proofs.YtnifdcmeffnpaaaGreatDoor
namespace Go.Proofs.YtnifdcmeffnpaaaGreatDoor
open Go.Eng
set_option linter.unusedVariables false
set_option linter.unusedSimpArgs false
end Go.Proofs.YtnifdcmeffnpaaaGreatDoor
namespace Go.Proofs.YtnifdcmeffnpaaaGreatDoor
open Go.Eng
set_option linter.unusedVariables false
set_option linter.unusedSimpArgs false
end Go.Proofs.YtnifdcmeffnpaaaGreatDoor
namespace Go.Proofs.YtnifdcmeffnpaaaGreatDoor
open Go.Eng
set_option linter.unusedVariables false
set_option linter.unusedSimpArgs false
def chr (d:Int):UInt8:=UInt8.ofNat ((48+d) % 256).toNat
def byteD (l:List Int):List UInt8:=l.map chr
def dotF (F:List Int):List UInt8:=if F=[] then [] else 46::byteD F
structure NumTxt (t:BA) (W F:List Int):Prop where
 txt:t.data.toList=byteD W++dotF F
 dw:Dig W
 df:Dig F
 ne:W≠[]
 head:W.head?≠some 0∨W.length=1
section
variable {t:BA} {W F:List Int} (h:NumTxt t W F)
include h
end
end Go.Proofs.YtnifdcmeffnpaaaGreatDoor
namespace Go.Proofs.YtnifdcmeffnpaaaGreatDoor
open Go.Eng
set_option linter.unusedVariables false
set_option linter.unusedSimpArgs false
theorem p_digit (s:BA) (k:Nat):zbv_s s k=some (digS s k):=by
 unfold zbv_s;refine (qAa (fun h=>by have:=of_decide_eq_true h; omega) _).trans ?_;refine (qAa (fun h=>by have:=of_decide_eq_true (Bool.and_eq_true _ _ ▸ h).1; omega) _).trans ?_;congr 1
 unfold digS;by_cases hlt:(k:Int)<s.size
 ·simp [hlt]
 ·have:=qBo hlt;simp [hlt,this]
theorem p_many (s:BA) (hsz:s.size<4000000000000000000) (k:Nat) (hk:k≤s.size):zbw_s s k=some (qCi s k:Int):=by
 unfold zbw_s zbw_p0;rw [qC7 (fun x:Int=>∃j:Nat,x=j∧j≤s.size∧qCi s j=qCi s k) (fun x=>s.size - x.toNat) (fun _=>(qCi s k:Int)) ?_ (x:=(k:Int)) ⟨k,rfl,hk,rfl⟩]
 ·rfl
 rintro _ ⟨j,rfl,hj,hm⟩
 unfold zbw_p0_step;rw [p_digit,obS];cases hd:digS s j with
 | true =>
  left;have hlt:=qFr hd;refine ⟨((j+1:Nat):Int),?_,⟨j+1,rfl,by omega,by rw [←hm,qDo hd]⟩,by omega,rfl⟩;refine (qAa (by unfold qAe; omega) _).trans ?_;rfl
 | false =>
  right;show some (Sum.inr (j:Int))=_;rw [←hm,qEz hd]
theorem dV_ne (s:BA) (i:Nat) (h:i<s.size):((!decide (bAt s i=48)):Bool)=decide (dV s i≠0):=by
 have h1:=qCy s i;have h2:=bAt_nn (s:=s) (i:=i) (by omega) (by omega);rw [←decide_not,decide_eq_decide];unfold dV;omega
theorem bias_or (a:Prop) [Decidable a] (n:Nat):(decide a || decide ((0:Int)<(n:Int)))=decide (a∨0<n):=by
 rw [Bool.eq_iff_iff];simp
section
variable (s:BA) (hsz:s.size<1000000000)
include hsz
theorem p_ref3 (a k:Nat) (hak:a≤k) (hk:k≤s.size):zbt_p3 s k a []=some (lead (qBw s a (k - a))):=by
 unfold zbt_p3;rw [qC7 (fun x:Int × List Int=>∃j:Nat,x=(((a+j:Nat):Int),lead (qBw s a j))∧a+j≤k) (fun x=>k - x.1.toNat) (fun _=>lead (qBw s a (k - a))) ?_ (x:=((a:Int),[])) ⟨0,rfl,by omega⟩];rintro _ ⟨j,rfl,hj⟩
 unfold zbt_p3_step;have hl:=lead_le (qBw s a j);rw [dsFrom_length] at hl;by_cases hlt:a+j<k
 ·left;have hs:=lead_snoc (qBw s a j) (dV s (a+j));rw [←dsFrom_succ] at hs;have hr:=dV_range s (a+j);refine ⟨(((a+(j+1):Nat):Int),lead (qBw s a (j+1))),?_,⟨j+1,rfl,by omega⟩,by simp only; omega,rfl⟩;simp only;rw [deT (by omega),cnT];refine (qAa (by omega) _).trans ?_;rw [dV_ne s (a+j) (by omega),bias_or,hs];by_cases hc:dV s (a+j)≠0∨0<(lead (qBw s a j)).length
  ·rw [deT hc,cnT,if_pos hc];refine (qAa (by omega) _).trans ?_;refine (qAa (by unfold qAe; have:=hr; unfold dV at this; omega) _).trans ?_;refine (qAa (by simp only [List.length_singleton]; omega) _).trans ?_;refine (qAa (by unfold qAe; omega) _).trans ?_;rfl
  ·rw [deF hc,cnF,if_neg hc];refine (qAa (by unfold qAe; omega) _).trans ?_;have:lead (qBw s a j)=[]:=by
    apply List.eq_nil_of_length_eq_zero;omega
   rw [this];rfl
 ·right;simp only;rw [deF (by omega),cnF,show k - a=j by omega]
theorem p_ref2 (a:Nat) (ha:a≤s.size):zbt_p2 s a=some (if decide (qCi s a=a)=true then .inl (false,[],[]) else .inr ((qCi s a:Int),lead (qBw s a (qCi s a - a)))):=by
 unfold zbt_p2;rw [p_many s (by omega) a ha,obS];have:decide ((qCi s a:Int)=(a:Int))=decide (qCi s a=a):=by rw [decide_eq_decide]; omega
 rw [this];cases hd:decide (qCi s a=a) with
 | true=>rfl
 | false =>
  simp only [cnF];rw [p_ref3 s hsz a (qCi s a) (manyS_ge s a) (manyS_le s a ha)];rfl
end
theorem p_ref5 (t:BA) (ht:t.size<4000000000) (o:Int) (ho : -4000000000≤o∧o≤4000000000):zbt_p5 t 0 o []=some (o - ((t.size:Int) - (lead (qBw t 0 t.size)).length),lead (qBw t 0 t.size)):=by
 unfold zbt_p5;rw [qC7 (fun x:Int × Int × List Int=>∃j:Nat,x=((j:Int),o - ((j:Int) - (lead (qBw t 0 j)).length),lead (qBw t 0 j))∧j≤t.size) (fun x=>t.size - x.1.toNat) (fun _=>(o - ((t.size:Int) - (lead (qBw t 0 t.size)).length),lead (qBw t 0 t.size))) ?_ (x:=((0:Int),o,[])) ⟨0,by simp [qBw,lead],by omega⟩];rintro _ ⟨j,rfl,hj⟩
 unfold zbt_p5_step;have hl:=lead_le (qBw t 0 j);rw [dsFrom_length] at hl;by_cases hlt:j<t.size
 ·left;have hs:=lead_snoc (qBw t 0 j) (dV t (0+j));rw [←dsFrom_succ] at hs;rw [Nat.zero_add] at hs;have hr:=dV_range t j;refine ⟨(((j+1:Nat):Int),o - (((j+1:Nat):Int) - (lead (qBw t 0 (j+1))).length),lead (qBw t 0 (j+1))),?_,⟨j+1,rfl,by omega⟩,by simp only; omega,rfl⟩;simp only;rw [deT (by omega),cnT];refine (qAa (by omega) _).trans ?_;refine (qAa (by unfold qAe; have:=hr; unfold dV at this; omega) _).trans ?_;have e:(!decide ((bAt t (j:Int) - 48) % 256=0))=decide (dV t j≠0):=by rw [←decide_not]; rfl
  rw [e,bias_or,hs];by_cases hc:dV t j≠0∨0<(lead (qBw t 0 j)).length
  ·rw [deT hc,cnT,if_pos hc];refine (qAa (by simp only [List.length_singleton]; omega) _).trans ?_;refine (qAa (by unfold qAe; omega) _).trans ?_;congr 3
   rw [List.length_append,List.length_singleton];congr 1
   omega
  ·rw [deF hc,cnF,if_neg hc];have:lead (qBw t 0 j)=[]:=by
    apply List.eq_nil_of_length_eq_zero;omega
   rw [this];refine (qAa (by unfold qAe; simp only [List.length_nil]; omega) _).trans ?_;refine (qAa (by unfold qAe; omega) _).trans ?_;congr 3
   simp only [List.length_nil];congr 1
   omega
 ·right;simp only;rw [deF (by omega),cnF,show t.size=j by omega]
theorem p_ref6 (l0:List Int) (hl:l0.length<4000000000):zbt_p6 l0=some (trail l0):=by
 unfold zbt_p6;rw [qC7 (fun l:List Int=>l.length≤l0.length∧trail l=trail l0) (fun l=>l.length) (fun _=>trail l0) ?_ (x:=l0) ⟨by omega,rfl⟩];rintro l ⟨hle,ht⟩
 unfold zbt_p6_step;rcases List.eq_nil_or_concat l with rfl | ⟨m,d,rfl⟩
 ·right;refine (qAa (fun h=>by simp at h) _).trans ?_;refine (qAa (fun h=>by simp at h) _).trans ?_;refine (qAa (fun h=>by simp at h) _).trans ?_;rw [←ht];rfl
 ·rw [List.concat_eq_append] at hle ht ⊢;have hz:(m++[d]).length=m.length+1:=by simp
  rw [hz] at hle;have hN:Int.toNat (((m++[d]).length:Int) - 1)=m.length:=by rw [hz]; omega
  have hg:(m++[d]).getD m.length (ET.dft .i64)=d:=by simp
  rw [hN,hg,hz];rw [deT (show (0:Int)<((m.length+1:Nat):Int) by omega)];by_cases hd:d=0
  ·left;subst hd;refine ⟨m,?_,⟨by omega,by rw [←ht,trail_snoc_zero]⟩,by omega,rfl⟩;refine (qAa (fun _=>by unfold qAe; omega) _).trans ?_;refine (qAa (fun _=>by omega) _).trans ?_;refine (qAa (fun _=>by omega) _).trans ?_;simp only [decide_true,Bool.and_true,cnT];refine (qAa (by unfold qAe; omega) _).trans ?_;refine (qAa (by omega) _).trans ?_;simp
  ·right;refine (qAa (fun _=>by unfold qAe; omega) _).trans ?_;refine (qAa (fun _=>by omega) _).trans ?_;refine (qAa (fun _=>by omega) _).trans ?_;rw [deF hd];simp only [Bool.and_false,cnF];rw [←ht,trail_snoc m d hd]
def rnum (r:RNum):qHe:=⟨r.minus,r.digits,r.off,r.down,r.exp,r.plain,r.text⟩
section
variable (s:BA) (hsz:s.size<1000000000)
include hsz
theorem allS_size:(allS s).size≤s.size+s.size:=by
 unfold allS;split <;> simp <;> omega
theorem p_ref4 (a:Nat) (o:Int) (ho : -4000000000≤o∧o≤4000000000):zbt_p4 s a (allS s) o=some (if decide (a=s.size)=true then (true,o - (((allS s).size:Int) - (lead (qBw (allS s) 0 (allS s).size)).length),(qCw s).digits) else (false,o,[])):=by
 have hz:=allS_size s hsz;have hl:=lead_le (qBw (allS s) 0 (allS s).size);rw [dsFrom_length] at hl;unfold zbt_p4;have:(!decide ((a:Int)=(s.size:Int)))=!decide (a=s.size):=by congr 1; rw [decide_eq_decide]; omega
 rw [this];cases hd:decide (a=s.size) with
 | false=>rfl
 | true =>
  simp only [Bool.not_true,cnF,if_true];rw [p_ref5 (allS s) (by omega) o ho,obS];simp only;rw [p_ref6 _ (by omega),obS];rfl
theorem p_ref1 (hbd:badA s=false) (hdk:(dotS s && decide (atK s=atB s+1))=false):zbt_p1 s (atC s) (allS s) ((atB s:Int) - atA s) false (!dotS s)=some (qB0 s,(qBd s).off,(qBd s).down,(qBd s).plain,(qBd s).digits,(qBd s).exp):=by
 have hC:=atC_le s;have hA:=atA_le s;have hB:=atB_le s;have hAB:=atA_le_atB s;have hro:qB0 s=(!(expS s && decide (atF s=atE s)) && decide (atG s=s.size)):=by
  unfold qB0;rw [hbd,hdk];rfl
 have hexp:(decide ((atC s:Int)<(s.size:Int)) && (decide (bAt s (atC s)=101) || decide (bAt s (atC s)=69)))=expS s:=by
  unfold expS;by_cases h:atC s<s.size
  ·simp [h]
  ·have:bAt s (atC s) = -1:=qBo (by omega);simp [this]
 unfold zbt_p1;refine (qAa (fun h=>by have:=of_decide_eq_true h; omega) _).trans ?_;refine (qAa (fun _ h=>by have:=of_decide_eq_true h; omega) _).trans ?_;rw [hexp];cases he:expS s with
 | false =>
  have hG:atG s=atC s:=by simp [atG,he]
  have h3:(expS s && decide (atF s=atE s))=false:=by simp [he]
  simp only [cnF];rw [p_ref4 s hsz (atC s) _ (by omega),obS,hro,h3,hG];cases hd:decide (atC s=s.size) with
  | false =>
   rw [readAll_4 hbd hdk h3 (by rw [hG]; exact hd)];simp [qCw,he]
  | true =>
   have:qB0 s=true:=by rw [hro,h3,hG,hd]; rfl
   rw [readAll_ok this];simp [qCw,he]
 | true =>
  have hCl:=atC_lt he;have hEl:=atE_le he;have hF:=atF_le he;have hsg:(decide ((atC s:Int)+1<(s.size:Int)) && (decide (bAt s ((atC s:Int)+1)=43) || decide (bAt s ((atC s:Int)+1)=45)))=sgnS s:=by
   unfold sgnS;by_cases h:(atC s:Int)+1<s.size
   ·simp [h]
   ·have:bAt s ((atC s:Int)+1) = -1:=qBo h;simp [this]
  have hG:atG s=atF s:=by simp [atG,he]
  have common:∀(dn:Bool),dn=decide (bAt s ((atC s:Int)+1)=45)→((zbt_p2 s (atE s)).bind fun o83=>(Sum.elim (fun (o83_0:Bool × (List Int) × (List Int)) =>
    some (o83_0.1,((atB s:Int) - atA s),dn,false,o83_0.2.1,o83_0.2.2)) (fun (o83_1:Int × (List Int)) =>
    (zbt_p4 s o83_1.1 (allS s) ((atB s:Int) - atA s)).bind fun o86 =>
    some (o86.1,o86.2.1,dn,false,o86.2.2,o83_1.2))) o83)=some (qB0 s,(qBd s).off,(qBd s).down,(qBd s).plain,(qBd s).digits,(qBd s).exp):=by
   intro dn hdn;subst hdn;rw [p_ref2 s hsz (atE s) hEl,obS];show (Sum.elim _ _ (if decide (atF s=atE s)=true then _ else _))=_;cases hd:decide (atF s=atE s) with
   | true =>
    have h3:(expS s && decide (atF s=atE s))=true:=by rw [he,hd]; rfl
    rw [readAll_3 hbd hdk h3,hro,h3];simp [qCw,he]
   | false =>
    have h3:(expS s && decide (atF s=atE s))=false:=by rw [he,hd]; rfl
    simp only [Bool.false_eq_true,if_false,Sum.elim_inr];show ((zbt_p4 s (atF s:Int) _ _).bind _)=_;rw [p_ref4 s hsz (atF s) _ (by omega),obS,hro,h3,hG];cases hq:decide (atF s=s.size) with
    | false =>
     rw [readAll_4 hbd hdk h3 (by rw [hG]; exact hq)];simp [qCw,he,atF]
    | true =>
     have:qB0 s=true:=by rw [hro,h3,hG,hq]; rfl
     rw [readAll_ok this];simp [qCw,he,atF]
  simp only [cnT];refine (qAa (by unfold qAe; omega) _).trans ?_;refine (qAa (fun h=>by have:=of_decide_eq_true h; omega) _).trans ?_;refine (qAa (fun _ h=>by have:=of_decide_eq_true h; omega) _).trans ?_;rw [hsg];cases hs:sgnS s with
  | true =>
   have hsl:=sgn_lt hs;have hE:(atC s:Int)+1+1=(atE s:Int):=by simp [atE,hs]; omega
   simp only [cnT];refine (qAa (by omega) _).trans ?_;refine (qAa (by unfold qAe; omega) _).trans ?_;rw [hE];exact common _ rfl
  | false =>
   have hnd:¬bAt s ((atC s:Int)+1)=45:=fun e=>by simp [sgnS,e] at hs
   have hE:(atC s:Int)+1=(atE s:Int):=by simp [atE,hs]
   simp only [cnF];have:=common false (by simp [hnd]);rw [←hE] at this;exact this
theorem p_ref0:zbt_p0 s (atA s) 0 false true (⟨#[]⟩:BA)=some (qB0 s,(qBd s).off,(qBd s).down,(qBd s).plain,(qBd s).text,(qBd s).digits,(qBd s).exp):=by
 have hC:=atC_le s;have hA:=atA_le s;have hB:=atB_le s;have hAB:=atA_le_atB s;unfold zbt_p0;rw [p_many s (by omega) (atA s) hA,obS];show gd (decide ((atB s:Int)=(atA s:Int))=false→_) _=_;have e1:decide ((atB s:Int)=(atA s:Int))=decide (atB s=atA s):=by rw [decide_eq_decide]; omega
 have e2:decide ((atA s:Int)+1<(atB s:Int))=decide (atA s+1<atB s):=by rw [decide_eq_decide]; omega
 have hbad:(decide (atB s=atA s) || decide (bAt s (atA s)=48) && decide (atA s+1<atB s))=badA s:=rfl
 refine (qAa (fun h=>by have:=of_decide_eq_false h; omega) _).trans ?_;refine (qAa (fun _ _=>by unfold qAe; omega) _).trans ?_;show (bif (decide ((atB s:Int)=(atA s:Int)) || decide (bAt s (atA s)=48) && decide ((atA s:Int)+1<(atB s:Int))) then _ else _)=_
 rw [e1,e2,hbad];cases hbd:badA s with
 | true =>
  have hro:qB0 s=false:=by simp [qB0,hbd]
  rw [readAll_1 hbd,hro];rfl
 | false =>
  simp only [cnF];show gd ((0:Int)≤(atA s:Int)∧(atA s:Int)≤(atB s:Int)∧(atB s:Int)≤(s.size:Int)) _=_;refine (qAa (by omega) _).trans ?_;refine (qAa (by show (0:Int)≤(atA s:Int)∧(atA s:Int)≤(atB s:Int)∧(atB s:Int)≤(s.size:Int); omega) _).trans ?_;refine (qAa (by show qAe ((atB s:Int) - atA s); unfold qAe; omega) _).trans ?_;refine (qAa (fun h=>by have:=of_decide_eq_true h; show (0:Int)≤(atB s:Int)∧(atB s:Int)<(s.size:Int); exact ⟨by omega,this⟩) _).trans ?_;show (bif decide ((atB s:Int)<(s.size:Int)) && decide (bAt s (atB s)=46) then _ else _)=_;have hdot:(decide ((atB s:Int)<(s.size:Int)) && decide (bAt s (atB s)=46))=dotS s:=by
   unfold dotS;by_cases h:atB s<s.size
   ·simp [h]
   ·have:bAt s (atB s) = -1:=qBo (by omega);simp [this]
  rw [hdot];cases hd:dotS s with
  | false =>
   have hc:atC s=atB s:=by simp [atC,hd]
   have ha:allS s=s.extract (atA s) (atB s):=by simp [allS,hd]
   have hdk:(dotS s && decide (atK s=atB s+1))=false:=by rw [hd]; rfl
   have h1:=p_ref1 s hsz hbd hdk;rw [hc,ha,hd] at h1;simp only [cnF];show ((zbt_p1 s (atB s:Int) (s.extract (Int.toNat (atA s:Int)) (Int.toNat (atB s:Int))) ((atB s:Int) - atA s) false true).bind _)=_;rw [Int.toNat_natCast,Int.toNat_natCast];have h1':zbt_p1 s (atB s:Int) (s.extract (atA s) (atB s)) ((atB s:Int) - atA s) false true=_:=h1;rw [h1',obS];have ht:(qBd s).text=s.extract (atA s) (atB s):=by
    unfold qBd;rw [hbd,hdk];simp only [Bool.false_eq_true,if_false];split
    ·rfl
    ·split <;> rfl
   rw [ht];rfl
  | true =>
   have hBl:=atB_lt hd;have hKl:=atK_le hd;have hKg:=atK_ge s;have hc:atC s=atK s:=by simp [atC,hd]
   have ha:allS s=s.extract (atA s) (atB s)++s.extract (atB s+1) (atK s):=by simp [allS,hd]
   simp only [cnT];show gd (qAe ((atB s:Int)+1)) _=_;refine (qAa (by unfold qAe; omega) _).trans ?_;show ((zbw_s s ((atB s+1:Nat):Int)).bind _)=_;rw [p_many s (by omega) (atB s+1) (by omega),obS];refine (qAa (by show qAe ((atB s:Int)+1); unfold qAe; omega) _).trans ?_;show (bif decide ((atK s:Int)=(atB s:Int)+1) then _ else _)=_;have e3:decide ((atK s:Int)=(atB s:Int)+1)=decide (atK s=atB s+1):=by rw [decide_eq_decide]; omega
   rw [e3];cases hk:decide (atK s=atB s+1) with
   | true =>
    have hdk:(dotS s && decide (atK s=atB s+1))=true:=by rw [hd,hk]; rfl
    have hro:qB0 s=false:=by simp only [qB0,hbd,hdk,Bool.not_true,Bool.not_false,Bool.and_false,Bool.false_and]
    rw [readAll_2 hbd hdk,hro];rfl
   | false =>
    have hdk:(dotS s && decide (atK s=atB s+1))=false:=by rw [hd,hk]; rfl
    have h1:=p_ref1 s hsz hbd hdk;rw [hc,ha,hd] at h1;simp only [cnF];refine (qAa (by show qAe ((atB s:Int)+1); unfold qAe; omega) _).trans ?_;refine (qAa (by show (0:Int)≤(atB s:Int)+1∧(atB s:Int)+1≤(atK s:Int)∧(atK s:Int)≤(s.size:Int); omega) _).trans ?_;have hx:(s.extract (atA s) (atB s)).size≤s.size:=by rw [ByteArray.size_extract]; omega
    have hy:(s.extract (atB s+1) (atK s)).size≤s.size:=by rw [ByteArray.size_extract]; omega
    show gd ((s.extract (Int.toNat (atA s:Int)) (Int.toNat (atB s:Int))).size+(s.extract (Int.toNat ((atB s+1:Nat):Int)) (Int.toNat (atK s:Int))).size≤9223372036854775807) ((zbt_p1 s (atK s:Int) (s.extract (Int.toNat (atA s:Int)) (Int.toNat (atB s:Int))++s.extract (Int.toNat ((atB s+1:Nat):Int)) (Int.toNat (atK s:Int))) ((atB s:Int) - atA s) false false).bind _)=_;rw [Int.toNat_natCast,Int.toNat_natCast,Int.toNat_natCast,Int.toNat_natCast];refine (qAa (by omega) _).trans ?_;have h1':zbt_p1 s (atK s:Int) (s.extract (atA s) (atB s)++s.extract (atB s+1) (atK s)) ((atB s:Int) - atA s) false false=_:=h1;rw [h1',obS];have ht:(qBd s).text=s.extract (atA s) (atB s):=by
     unfold qBd;rw [hbd,hdk];simp only [Bool.false_eq_true,if_false];split
     ·rfl
     ·split <;> rfl
    rw [ht];rfl
theorem p_Read:zbt_s s=some (rnum (qBd s),qB0 s):=by
 have hm:(qBd s).minus=decide (bAt s 0=45):=by
  unfold qBd;split
  ·rfl
  ·split
   ·rfl
   ·split
    ·rfl
    ·split <;> rfl
 have h0:=p_ref0 s hsz;unfold zbt_s;refine (qAa (fun h=>by have:=of_decide_eq_true h; omega) _).trans ?_;have e:(decide ((0:Int)<(s.size:Int)) && decide (bAt s 0=45))=decide (bAt s 0=45):=by
  by_cases h:0<s.size
  ·simp [h]
  ·have:bAt s 0 = -1:=qBo (by omega);simp [this]
 rw [e];by_cases h:bAt s 0=45
 ·have ha:atA s=1:=by simp [atA,h]
  rw [ha] at h0;rw [deT h,cnT];refine (qAa (by unfold qAe; omega) _).trans ?_;have h0':zbt_p0 s ((0:Int)+1) 0 false true (⟨#[]⟩:BA)=_:=h0;rw [h0',obS];unfold rnum;rw [hm,deT h]
 ·have ha:atA s=0:=by simp [atA,h]
  rw [ha] at h0;rw [deF h,cnF];have h0':zbt_p0 s (0:Int) 0 false true (⟨#[]⟩:BA)=_:=h0;rw [h0',obS];unfold rnum;rw [hm,deF h]
end
end Go.Proofs.YtnifdcmeffnpaaaGreatDoor
