/-
  Functions as the engine reads them (printed by gen.py).
-/
import Derived.Shelf.Unicode.DecodeSlow
import Derived.WalkKit
import Derived.Below
import Derived.BigQuiet
import Derived.Shelf.Unicode.ValidAny
import Derived.Shelf.Unicode.DecodeAny
import Derived.Shelf.Lay
import Derived.Ground.NamesProg
import Derived.Test.YtpobbbpphnnnhaaGreatDoorDecRel
import Derived.Test.YtpobbbpphnnnhaaGreatDoorGC
import Derived.Test.YtpobbbpphnnnhaaGreatDoorEngO
import Derived.Test.YtpobbbpphnnnhaaGreatDoorProg
namespace Go.Proofs.YtpobbbpphnnnhaaGreatDoor
open Go.Eng
set_option linter.unusedVariables false
set_option linter.unusedSimpArgs false
theorem dV_range (s:BA) (i:Nat):0≤dV s i∧dV s i<256:=by unfold dV; omega
structure DKey where
 ds:List Int
 pow:Int
def Dig (l:List Int):Prop:=∀d∈l,0≤d∧d≤9
def LastNZ:List Int→Prop
 | []=>True
 | [d]=>d≠0
 | _::l=>LastNZ l
structure Norm (a:DKey):Prop where
 dig:Dig a.ds
 last:LastNZ a.ds
 first:∀d,a.ds.head?=some d→d≠0
end Go.Proofs.YtpobbbpphnnnhaaGreatDoor
namespace Go.Proofs.YtpobbbpphnnnhaaGreatDoor
open Go.Eng
set_option linter.unusedVariables false
set_option linter.unusedSimpArgs false
end Go.Proofs.YtpobbbpphnnnhaaGreatDoor
namespace Go.Proofs.YtpobbbpphnnnhaaGreatDoor
open Go.Eng
set_option linter.unusedVariables false
set_option linter.unusedSimpArgs false
end Go.Proofs.YtpobbbpphnnnhaaGreatDoor
namespace Go.Proofs.YtpobbbpphnnnhaaGreatDoor
open Go.Eng
set_option linter.unusedVariables false
set_option linter.unusedSimpArgs false
def chr (d:Int):UInt8:=UInt8.ofNat ((48+d) % 256).toNat
def byteD (l:List Int):List UInt8:=l.map chr
def dotF (F:List Int):List UInt8:=if F=[] then [] else 46::byteD F
structure NumTxt (t:BA) (W F:List Int):Prop where
 txt:t.data.toList=byteD W++dotF F
 dw:Dig W
 df:Dig F
 ne:W≠[]
 head:W.head?≠some 0∨W.length=1
section
variable {t:BA} {W F:List Int} (h:NumTxt t W F)
include h
end
end Go.Proofs.YtpobbbpphnnnhaaGreatDoor
namespace Go.Proofs.YtpobbbpphnnnhaaGreatDoor
open Go.Eng
set_option linter.unusedVariables false
set_option linter.unusedSimpArgs false
theorem p_digit (s:BA) (k:Nat):zcu_s s k=some (digS s k):=by
 unfold zcu_s;refine (qAb (fun h=>by have:=of_decide_eq_true h; omega) _).trans ?_;refine (qAb (fun h=>by have:=of_decide_eq_true (Bool.and_eq_true _ _ ▸ h).1; omega) _).trans ?_;congr 1
 unfold digS;by_cases hlt:(k:Int)<s.size
 ·simp [hlt]
 ·have:=qBm hlt;simp [hlt,this]
theorem p_many (s:BA) (hsz:s.size<4000000000000000000) (k:Nat) (hk:k≤s.size):zcv_s s k=some (qD9 s k:Int):=by
 unfold zcv_s zcv_p0;rw [qDn (fun x:Int=>∃j:Nat,x=j∧j≤s.size∧qD9 s j=qD9 s k) (fun x=>s.size - x.toNat) (fun _=>(qD9 s k:Int)) ?_ (x:=(k:Int)) ⟨k,rfl,hk,rfl⟩]
 ·rfl
 rintro _ ⟨j,rfl,hj,hm⟩
 unfold zcv_p0_step;rw [p_digit,obS];cases hd:digS s j with
 | true =>
  left;have hlt:=digS_lt hd;refine ⟨((j+1:Nat):Int),?_,⟨j+1,rfl,by omega,by rw [←hm,qG9 hd]⟩,by omega,rfl⟩;refine (qAb (by unfold qAf; omega) _).trans ?_;rfl
 | false =>
  right;show some (Sum.inr (j:Int))=_;rw [←hm,manyS_no hd]
theorem dV_ne (s:BA) (i:Nat) (h:i<s.size):((!decide (bAt s i=48)):Bool)=decide (dV s i≠0):=by
 have h1:=qCv s i;have h2:=bAt_nn (s:=s) (i:=i) (by omega) (by omega);rw [←decide_not,decide_eq_decide];unfold dV;omega
theorem bias_or (a:Prop) [Decidable a] (n:Nat):(decide a || decide ((0:Int)<(n:Int)))=decide (a∨0<n):=by
 rw [Bool.eq_iff_iff];simp
section
variable (s:BA) (hsz:s.size<1000000000)
include hsz
theorem p_ref3 (a k:Nat) (hak:a≤k) (hk:k≤s.size):zcs_p3 s k a []=some (lead (qB0 s a (k - a))):=by
 unfold zcs_p3;rw [qDn (fun x:Int × List Int=>∃j:Nat,x=(((a+j:Nat):Int),lead (qB0 s a j))∧a+j≤k) (fun x=>k - x.1.toNat) (fun _=>lead (qB0 s a (k - a))) ?_ (x:=((a:Int),[])) ⟨0,rfl,by omega⟩];rintro _ ⟨j,rfl,hj⟩
 unfold zcs_p3_step;have hl:=lead_le (qB0 s a j);rw [dsFrom_length] at hl;by_cases hlt:a+j<k
 ·left;have hs:=lead_snoc (qB0 s a j) (dV s (a+j));rw [←dsFrom_succ] at hs;have hr:=dV_range s (a+j);refine ⟨(((a+(j+1):Nat):Int),lead (qB0 s a (j+1))),?_,⟨j+1,rfl,by omega⟩,by simp only; omega,rfl⟩;simp only;rw [deT (by omega),cnT];refine (qAb (by omega) _).trans ?_;rw [dV_ne s (a+j) (by omega),bias_or,hs];by_cases hc:dV s (a+j)≠0∨0<(lead (qB0 s a j)).length
  ·rw [deT hc,cnT,if_pos hc];refine (qAb (by omega) _).trans ?_;refine (qAb (by unfold qAf; have:=hr; unfold dV at this; omega) _).trans ?_;refine (qAb (by simp only [List.length_singleton]; omega) _).trans ?_;refine (qAb (by unfold qAf; omega) _).trans ?_;rfl
  ·rw [deF hc,cnF,if_neg hc];refine (qAb (by unfold qAf; omega) _).trans ?_;have:lead (qB0 s a j)=[]:=by
    apply List.eq_nil_of_length_eq_zero;omega
   rw [this];rfl
 ·right;simp only;rw [deF (by omega),cnF,show k - a=j by omega]
theorem p_ref2 (a:Nat) (ha:a≤s.size):zcs_p2 s a=some (if decide (qD9 s a=a)=true then .inl (false,[],[]) else .inr ((qD9 s a:Int),lead (qB0 s a (qD9 s a - a)))):=by
 unfold zcs_p2;rw [p_many s (by omega) a ha,obS];have:decide ((qD9 s a:Int)=(a:Int))=decide (qD9 s a=a):=by rw [decide_eq_decide]; omega
 rw [this];cases hd:decide (qD9 s a=a) with
 | true=>rfl
 | false =>
  simp only [cnF];rw [p_ref3 s hsz a (qD9 s a) (manyS_ge s a) (manyS_le s a ha)];rfl
end
theorem p_ref5 (t:BA) (ht:t.size<4000000000) (o:Int) (ho : -4000000000≤o∧o≤4000000000):zcs_p5 t 0 o []=some (o - ((t.size:Int) - (lead (qB0 t 0 t.size)).length),lead (qB0 t 0 t.size)):=by
 unfold zcs_p5;rw [qDn (fun x:Int × Int × List Int=>∃j:Nat,x=((j:Int),o - ((j:Int) - (lead (qB0 t 0 j)).length),lead (qB0 t 0 j))∧j≤t.size) (fun x=>t.size - x.1.toNat) (fun _=>(o - ((t.size:Int) - (lead (qB0 t 0 t.size)).length),lead (qB0 t 0 t.size))) ?_ (x:=((0:Int),o,[])) ⟨0,by simp [qB0,lead],by omega⟩];rintro _ ⟨j,rfl,hj⟩
 unfold zcs_p5_step;have hl:=lead_le (qB0 t 0 j);rw [dsFrom_length] at hl;by_cases hlt:j<t.size
 ·left;have hs:=lead_snoc (qB0 t 0 j) (dV t (0+j));rw [←dsFrom_succ] at hs;rw [Nat.zero_add] at hs;have hr:=dV_range t j;refine ⟨(((j+1:Nat):Int),o - (((j+1:Nat):Int) - (lead (qB0 t 0 (j+1))).length),lead (qB0 t 0 (j+1))),?_,⟨j+1,rfl,by omega⟩,by simp only; omega,rfl⟩;simp only;rw [deT (by omega),cnT];refine (qAb (by omega) _).trans ?_;refine (qAb (by unfold qAf; have:=hr; unfold dV at this; omega) _).trans ?_;have e:(!decide ((bAt t (j:Int) - 48) % 256=0))=decide (dV t j≠0):=by rw [←decide_not]; rfl
  rw [e,bias_or,hs];by_cases hc:dV t j≠0∨0<(lead (qB0 t 0 j)).length
  ·rw [deT hc,cnT,if_pos hc];refine (qAb (by simp only [List.length_singleton]; omega) _).trans ?_;refine (qAb (by unfold qAf; omega) _).trans ?_;congr 3
   rw [List.length_append,List.length_singleton];congr 1
   omega
  ·rw [deF hc,cnF,if_neg hc];have:lead (qB0 t 0 j)=[]:=by
    apply List.eq_nil_of_length_eq_zero;omega
   rw [this];refine (qAb (by unfold qAf; simp only [List.length_nil]; omega) _).trans ?_;refine (qAb (by unfold qAf; omega) _).trans ?_;congr 3
   simp only [List.length_nil];congr 1
   omega
 ·right;simp only;rw [deF (by omega),cnF,show t.size=j by omega]
theorem p_ref6 (l0:List Int) (hl:l0.length<4000000000):zcs_p6 l0=some (trail l0):=by
 unfold zcs_p6;rw [qDn (fun l:List Int=>l.length≤l0.length∧trail l=trail l0) (fun l=>l.length) (fun _=>trail l0) ?_ (x:=l0) ⟨by omega,rfl⟩];rintro l ⟨hle,ht⟩
 unfold zcs_p6_step;rcases List.eq_nil_or_concat l with rfl | ⟨m,d,rfl⟩
 ·right;refine (qAb (fun h=>by simp at h) _).trans ?_;refine (qAb (fun h=>by simp at h) _).trans ?_;refine (qAb (fun h=>by simp at h) _).trans ?_;rw [←ht];rfl
 ·rw [List.concat_eq_append] at hle ht ⊢;have hz:(m++[d]).length=m.length+1:=by simp
  rw [hz] at hle;have hN:Int.toNat (((m++[d]).length:Int) - 1)=m.length:=by rw [hz]; omega
  have hg:(m++[d]).getD m.length (ET.dft .i64)=d:=by simp
  rw [hN,hg,hz];rw [deT (show (0:Int)<((m.length+1:Nat):Int) by omega)];by_cases hd:d=0
  ·left;subst hd;refine ⟨m,?_,⟨by omega,by rw [←ht,trail_snoc_zero]⟩,by omega,rfl⟩;refine (qAb (fun _=>by unfold qAf; omega) _).trans ?_;refine (qAb (fun _=>by omega) _).trans ?_;refine (qAb (fun _=>by omega) _).trans ?_;simp only [decide_true,Bool.and_true,cnT];refine (qAb (by unfold qAf; omega) _).trans ?_;refine (qAb (by omega) _).trans ?_;simp
  ·right;refine (qAb (fun _=>by unfold qAf; omega) _).trans ?_;refine (qAb (fun _=>by omega) _).trans ?_;refine (qAb (fun _=>by omega) _).trans ?_;rw [deF hd];simp only [Bool.and_false,cnF];rw [←ht,trail_snoc m d hd]
def rnum (r:RNum):qH5:=⟨r.minus,r.digits,r.off,r.down,r.exp,r.plain,r.text⟩
section
variable (s:BA) (hsz:s.size<1000000000)
include hsz
theorem allS_size:(allS s).size≤s.size+s.size:=by
 unfold allS;split <;> simp <;> omega
theorem p_ref4 (a:Nat) (o:Int) (ho : -4000000000≤o∧o≤4000000000):zcs_p4 s a (allS s) o=some (if decide (a=s.size)=true then (true,o - (((allS s).size:Int) - (lead (qB0 (allS s) 0 (allS s).size)).length),(readS s).digits) else (false,o,[])):=by
 have hz:=allS_size s hsz;have hl:=lead_le (qB0 (allS s) 0 (allS s).size);rw [dsFrom_length] at hl;unfold zcs_p4;have:(!decide ((a:Int)=(s.size:Int)))=!decide (a=s.size):=by congr 1; rw [decide_eq_decide]; omega
 rw [this];cases hd:decide (a=s.size) with
 | false=>rfl
 | true =>
  simp only [Bool.not_true,cnF,if_true];rw [p_ref5 (allS s) (by omega) o ho,obS];simp only;rw [p_ref6 _ (by omega),obS];rfl
theorem p_ref1 (hbd:badA s=false) (hdk:(dotS s && decide (atK s=atB s+1))=false):zcs_p1 s (atC s) (allS s) ((atB s:Int) - atA s) false (!dotS s)=some (qB1 s,(qBc s).off,(qBc s).down,(qBc s).plain,(qBc s).digits,(qBc s).exp):=by
 have hC:=atC_le s;have hA:=atA_le s;have hB:=atB_le s;have hAB:=atA_le_atB s;have hro:qB1 s=(!(expS s && decide (atF s=atE s)) && decide (atG s=s.size)):=by
  unfold qB1;rw [hbd,hdk];rfl
 have hexp:(decide ((atC s:Int)<(s.size:Int)) && (decide (bAt s (atC s)=101) || decide (bAt s (atC s)=69)))=expS s:=by
  unfold expS;by_cases h:atC s<s.size
  ·simp [h]
  ·have:bAt s (atC s) = -1:=qBm (by omega);simp [this]
 unfold zcs_p1;refine (qAb (fun h=>by have:=of_decide_eq_true h; omega) _).trans ?_;refine (qAb (fun _ h=>by have:=of_decide_eq_true h; omega) _).trans ?_;rw [hexp];cases he:expS s with
 | false =>
  have hG:atG s=atC s:=by simp [atG,he]
  have h3:(expS s && decide (atF s=atE s))=false:=by simp [he]
  simp only [cnF];rw [p_ref4 s hsz (atC s) _ (by omega),obS,hro,h3,hG];cases hd:decide (atC s=s.size) with
  | false =>
   rw [readAll_4 hbd hdk h3 (by rw [hG]; exact hd)];simp [readS,he]
  | true =>
   have:qB1 s=true:=by rw [hro,h3,hG,hd]; rfl
   rw [readAll_ok this];simp [readS,he]
 | true =>
  have hCl:=atC_lt he;have hEl:=atE_le he;have hF:=atF_le he;have hsg:(decide ((atC s:Int)+1<(s.size:Int)) && (decide (bAt s ((atC s:Int)+1)=43) || decide (bAt s ((atC s:Int)+1)=45)))=sgnS s:=by
   unfold sgnS;by_cases h:(atC s:Int)+1<s.size
   ·simp [h]
   ·have:bAt s ((atC s:Int)+1) = -1:=qBm h;simp [this]
  have hG:atG s=atF s:=by simp [atG,he]
  have common:∀(dn:Bool),dn=decide (bAt s ((atC s:Int)+1)=45)→((zcs_p2 s (atE s)).bind fun o83=>(Sum.elim (fun (o83_0:Bool × (List Int) × (List Int)) =>
    some (o83_0.1,((atB s:Int) - atA s),dn,false,o83_0.2.1,o83_0.2.2)) (fun (o83_1:Int × (List Int)) =>
    (zcs_p4 s o83_1.1 (allS s) ((atB s:Int) - atA s)).bind fun o86 =>
    some (o86.1,o86.2.1,dn,false,o86.2.2,o83_1.2))) o83)=some (qB1 s,(qBc s).off,(qBc s).down,(qBc s).plain,(qBc s).digits,(qBc s).exp):=by
   intro dn hdn;subst hdn;rw [p_ref2 s hsz (atE s) hEl,obS];show (Sum.elim _ _ (if decide (atF s=atE s)=true then _ else _))=_;cases hd:decide (atF s=atE s) with
   | true =>
    have h3:(expS s && decide (atF s=atE s))=true:=by rw [he,hd]; rfl
    rw [readAll_3 hbd hdk h3,hro,h3];simp [readS,he]
   | false =>
    have h3:(expS s && decide (atF s=atE s))=false:=by rw [he,hd]; rfl
    simp only [Bool.false_eq_true,if_false,Sum.elim_inr];show ((zcs_p4 s (atF s:Int) _ _).bind _)=_;rw [p_ref4 s hsz (atF s) _ (by omega),obS,hro,h3,hG];cases hq:decide (atF s=s.size) with
    | false =>
     rw [readAll_4 hbd hdk h3 (by rw [hG]; exact hq)];simp [readS,he,atF]
    | true =>
     have:qB1 s=true:=by rw [hro,h3,hG,hq]; rfl
     rw [readAll_ok this];simp [readS,he,atF]
  simp only [cnT];refine (qAb (by unfold qAf; omega) _).trans ?_;refine (qAb (fun h=>by have:=of_decide_eq_true h; omega) _).trans ?_;refine (qAb (fun _ h=>by have:=of_decide_eq_true h; omega) _).trans ?_;rw [hsg];cases hs:sgnS s with
  | true =>
   have hsl:=sgn_lt hs;have hE:(atC s:Int)+1+1=(atE s:Int):=by simp [atE,hs]; omega
   simp only [cnT];refine (qAb (by omega) _).trans ?_;refine (qAb (by unfold qAf; omega) _).trans ?_;rw [hE];exact common _ rfl
  | false =>
   have hnd:¬bAt s ((atC s:Int)+1)=45:=fun e=>by simp [sgnS,e] at hs
   have hE:(atC s:Int)+1=(atE s:Int):=by simp [atE,hs]
   simp only [cnF];have:=common false (by simp [hnd]);rw [←hE] at this;exact this
theorem p_ref0:zcs_p0 s (atA s) 0 false true (⟨#[]⟩:BA)=some (qB1 s,(qBc s).off,(qBc s).down,(qBc s).plain,(qBc s).text,(qBc s).digits,(qBc s).exp):=by
 have hC:=atC_le s;have hA:=atA_le s;have hB:=atB_le s;have hAB:=atA_le_atB s;unfold zcs_p0;rw [p_many s (by omega) (atA s) hA,obS];show gd (decide ((atB s:Int)=(atA s:Int))=false→_) _=_;have e1:decide ((atB s:Int)=(atA s:Int))=decide (atB s=atA s):=by rw [decide_eq_decide]; omega
 have e2:decide ((atA s:Int)+1<(atB s:Int))=decide (atA s+1<atB s):=by rw [decide_eq_decide]; omega
 have hbad:(decide (atB s=atA s) || decide (bAt s (atA s)=48) && decide (atA s+1<atB s))=badA s:=rfl
 refine (qAb (fun h=>by have:=of_decide_eq_false h; omega) _).trans ?_;refine (qAb (fun _ _=>by unfold qAf; omega) _).trans ?_;show (bif (decide ((atB s:Int)=(atA s:Int)) || decide (bAt s (atA s)=48) && decide ((atA s:Int)+1<(atB s:Int))) then _ else _)=_
 rw [e1,e2,hbad];cases hbd:badA s with
 | true =>
  have hro:qB1 s=false:=by simp [qB1,hbd]
  rw [readAll_1 hbd,hro];rfl
 | false =>
  simp only [cnF];show gd ((0:Int)≤(atA s:Int)∧(atA s:Int)≤(atB s:Int)∧(atB s:Int)≤(s.size:Int)) _=_;refine (qAb (by omega) _).trans ?_;refine (qAb (by show (0:Int)≤(atA s:Int)∧(atA s:Int)≤(atB s:Int)∧(atB s:Int)≤(s.size:Int); omega) _).trans ?_;refine (qAb (by show qAf ((atB s:Int) - atA s); unfold qAf; omega) _).trans ?_;refine (qAb (fun h=>by have:=of_decide_eq_true h; show (0:Int)≤(atB s:Int)∧(atB s:Int)<(s.size:Int); exact ⟨by omega,this⟩) _).trans ?_;show (bif decide ((atB s:Int)<(s.size:Int)) && decide (bAt s (atB s)=46) then _ else _)=_;have hdot:(decide ((atB s:Int)<(s.size:Int)) && decide (bAt s (atB s)=46))=dotS s:=by
   unfold dotS;by_cases h:atB s<s.size
   ·simp [h]
   ·have:bAt s (atB s) = -1:=qBm (by omega);simp [this]
  rw [hdot];cases hd:dotS s with
  | false =>
   have hc:atC s=atB s:=by simp [atC,hd]
   have ha:allS s=s.extract (atA s) (atB s):=by simp [allS,hd]
   have hdk:(dotS s && decide (atK s=atB s+1))=false:=by rw [hd]; rfl
   have h1:=p_ref1 s hsz hbd hdk;rw [hc,ha,hd] at h1;simp only [cnF];show ((zcs_p1 s (atB s:Int) (s.extract (Int.toNat (atA s:Int)) (Int.toNat (atB s:Int))) ((atB s:Int) - atA s) false true).bind _)=_;rw [Int.toNat_natCast,Int.toNat_natCast];have h1':zcs_p1 s (atB s:Int) (s.extract (atA s) (atB s)) ((atB s:Int) - atA s) false true=_:=h1;rw [h1',obS];have ht:(qBc s).text=s.extract (atA s) (atB s):=by
    unfold qBc;rw [hbd,hdk];simp only [Bool.false_eq_true,if_false];split
    ·rfl
    ·split <;> rfl
   rw [ht];rfl
  | true =>
   have hBl:=atB_lt hd;have hKl:=atK_le hd;have hKg:=atK_ge s;have hc:atC s=atK s:=by simp [atC,hd]
   have ha:allS s=s.extract (atA s) (atB s)++s.extract (atB s+1) (atK s):=by simp [allS,hd]
   simp only [cnT];show gd (qAf ((atB s:Int)+1)) _=_;refine (qAb (by unfold qAf; omega) _).trans ?_;show ((zcv_s s ((atB s+1:Nat):Int)).bind _)=_;rw [p_many s (by omega) (atB s+1) (by omega),obS];refine (qAb (by show qAf ((atB s:Int)+1); unfold qAf; omega) _).trans ?_;show (bif decide ((atK s:Int)=(atB s:Int)+1) then _ else _)=_;have e3:decide ((atK s:Int)=(atB s:Int)+1)=decide (atK s=atB s+1):=by rw [decide_eq_decide]; omega
   rw [e3];cases hk:decide (atK s=atB s+1) with
   | true =>
    have hdk:(dotS s && decide (atK s=atB s+1))=true:=by rw [hd,hk]; rfl
    have hro:qB1 s=false:=by simp only [qB1,hbd,hdk,Bool.not_true,Bool.not_false,Bool.and_false,Bool.false_and]
    rw [readAll_2 hbd hdk,hro];rfl
   | false =>
    have hdk:(dotS s && decide (atK s=atB s+1))=false:=by rw [hd,hk]; rfl
    have h1:=p_ref1 s hsz hbd hdk;rw [hc,ha,hd] at h1;simp only [cnF];refine (qAb (by show qAf ((atB s:Int)+1); unfold qAf; omega) _).trans ?_;refine (qAb (by show (0:Int)≤(atB s:Int)+1∧(atB s:Int)+1≤(atK s:Int)∧(atK s:Int)≤(s.size:Int); omega) _).trans ?_;have hx:(s.extract (atA s) (atB s)).size≤s.size:=by rw [ByteArray.size_extract]; omega
    have hy:(s.extract (atB s+1) (atK s)).size≤s.size:=by rw [ByteArray.size_extract]; omega
    show gd ((s.extract (Int.toNat (atA s:Int)) (Int.toNat (atB s:Int))).size+(s.extract (Int.toNat ((atB s+1:Nat):Int)) (Int.toNat (atK s:Int))).size≤9223372036854775807) ((zcs_p1 s (atK s:Int) (s.extract (Int.toNat (atA s:Int)) (Int.toNat (atB s:Int))++s.extract (Int.toNat ((atB s+1:Nat):Int)) (Int.toNat (atK s:Int))) ((atB s:Int) - atA s) false false).bind _)=_;rw [Int.toNat_natCast,Int.toNat_natCast,Int.toNat_natCast,Int.toNat_natCast];refine (qAb (by omega) _).trans ?_;have h1':zcs_p1 s (atK s:Int) (s.extract (atA s) (atB s)++s.extract (atB s+1) (atK s)) ((atB s:Int) - atA s) false false=_:=h1;rw [h1',obS];have ht:(qBc s).text=s.extract (atA s) (atB s):=by
     unfold qBc;rw [hbd,hdk];simp only [Bool.false_eq_true,if_false];split
     ·rfl
     ·split <;> rfl
    rw [ht];rfl
theorem p_Read:zcs_s s=some (rnum (qBc s),qB1 s):=by
 have hm:(qBc s).minus=decide (bAt s 0=45):=by
  unfold qBc;split
  ·rfl
  ·split
   ·rfl
   ·split
    ·rfl
    ·split <;> rfl
 have h0:=p_ref0 s hsz;unfold zcs_s;refine (qAb (fun h=>by have:=of_decide_eq_true h; omega) _).trans ?_;have e:(decide ((0:Int)<(s.size:Int)) && decide (bAt s 0=45))=decide (bAt s 0=45):=by
  by_cases h:0<s.size
  ·simp [h]
  ·have:bAt s 0 = -1:=qBm (by omega);simp [this]
 rw [e];by_cases h:bAt s 0=45
 ·have ha:atA s=1:=by simp [atA,h]
  rw [ha] at h0;rw [deT h,cnT];refine (qAb (by unfold qAf; omega) _).trans ?_;have h0':zcs_p0 s ((0:Int)+1) 0 false true (⟨#[]⟩:BA)=_:=h0;rw [h0',obS];unfold rnum;rw [hm,deT h]
 ·have ha:atA s=0:=by simp [atA,h]
  rw [ha] at h0;rw [deF h,cnF];have h0':zcs_p0 s (0:Int) 0 false true (⟨#[]⟩:BA)=_:=h0;rw [h0',obS];unfold rnum;rw [hm,deF h]
end
end Go.Proofs.YtpobbbpphnnnhaaGreatDoor
namespace Go.Proofs.YtpobbbpphnnnhaaGreatDoor
open Go.Eng
set_option linter.unusedVariables false
set_option linter.unusedSimpArgs false
set_option maxRecDepth 100000
open Go.RowKit Go.Lib
def qGc (n b0 b1 b2:Nat):Bool :=
 if n=0 then false else if Lib.firstT b0 % 8≤n then true else if 1<n∧(b1<Lib.accLo (Lib.firstT b0 / 16)∨Lib.accHi (Lib.firstT b0 / 16)<b1) then true else if 2<n∧(b2<128∨191<b2) then true else false
structure HidF (p:Prop):Prop where
 out:p
theorem belowN {B:Nat} {a w:World} (h:Below B a w) (n:Nat):Below B a (w.drewN n):=h.trans ⟨rfl,rfl,rfl,Nat.le_refl _,fun _ _=>rfl⟩
theorem emB:∀a b:Bool,a=true∨a=false∧(b=true∨b=false):=by decide
theorem emD:∀a b c d:Bool,a=true∨a=false∧(b=true∨b=false∧(c=true∨c=false∧(d=true∨d=false))):=by decide
def fullS (s:BA):Bool:=qGc s.size (s.get! 0).toNat (s.get! 1).toNat (s.get! 2).toNat
set_option maxHeartbeats 4000000 in
set_option maxRecDepth 1000000 in
theorem full_run (s:BA) (w:World) (hS:s.size≤9223372036854775807) (hT:Lib.Utf8Tabs 3 4 w) :
  Calls Tryz.prog 120 #[.string s] w fun e w'=>e=.returned (.bool (fullS s))∧Below w.heap.size w w':=by
 unfold fullS;by_cases h0:s.size=0
 ·have hz:(s.size:Int)=0:=by omega
  rw [qGc,if_pos h0];go_enter Tryz.func120,Tryz.ntmps120
  go_wp2
  go_ret
  exact ⟨rfl,Below.refl _ _⟩
 ·have hz0:(0:Int)<(s.size:Int):=by omega
  have hz0':¬((s.size:Int)=0):=by omega
  obtain ⟨x0,hx0⟩:∃x,s.get! 0=x:=⟨_,rfl⟩;obtain ⟨x1,hx1⟩:∃x,s.get! 1=x:=⟨_,rfl⟩;obtain ⟨x2,hx2⟩:∃x,s.get! 2=x:=⟨_,rfl⟩;have hs0:s[0]'(by omega)=x0:=by rw [←hx0]; exact (Utf8W.get!_of_lt s 0 (by omega)).symm
  have l0:=x0.toNat_lt; have l1:=x1.toNat_lt; have l2:=x2.toNat_lt;have hc0:=hT.1 x0.toNat (by omega);rw [hx0,hx1,hx2];rcases Lib.firstT_cases x0.toNat with hX | hX | hX | hX | hX | hX | hX | hX | hX
  ·rw [qGc,if_neg h0,hX,if_pos (by omega)];rw [hX] at hc0;have hz1:((0:Int)≤(s.size:Int)):=by omega
   clear hT hX;go_enter Tryz.func120,Tryz.ntmps120
   go_wp2
   go_ret
   exact ⟨rfl,Below.refl _ _⟩
  ·rw [qGc,if_neg h0,hX,if_pos (by omega)];rw [hX] at hc0;have hz1:((1:Int)≤(s.size:Int)):=by omega
   clear hT hX;go_enter Tryz.func120,Tryz.ntmps120
   go_wp2
   go_ret
   exact ⟨rfl,Below.refl _ _⟩
  ·rw [hX] at hc0;have ha0:=(hT.2 0 (by omega)).1;have ha1:=(hT.2 0 (by omega)).2;simp only [accLo,accHi,Nat.reduceMul,Nat.reduceAdd,Nat.reduceEqDiff,if_true,if_false,Nat.reduceMod,Nat.reduceDiv] at ha0 ha1;generalize hr:qGc s.size x0.toNat x1.toNat x2.toNat=r
   rw [qGc,if_neg h0,hX] at hr;simp only [Nat.reduceMod,Nat.reduceDiv,accLo,accHi,Nat.reduceEqDiff,if_true,if_false] at hr;clear hT hX;by_cases hk:2≤s.size
   ·have hz1:((2:Int)≤(s.size:Int)):=by omega
    rw [if_pos (by omega)] at hr;subst hr;go_enter Tryz.func120,Tryz.ntmps120
    go_wp2
    go_ret
    exact ⟨rfl,Below.refl _ _⟩
   ·have Hr:=(HidF.mk hr);clear hr;rcases (show (s.size:Int)=1 by omega) with hz
    all_goals
     go_enter Tryz.func120,Tryz.ntmps120
     go_wp2
     go_quiet (fail)
     go_wp2
     all_goals (go_ret; refine ⟨?_,belowN ((Below.refl _ _).alloc (Nat.le_refl _) _) _⟩; rw [←Hr.out]; (repeat' split) <;> first | rfl | (exfalso; first | omega | (simp only [decide_eq_true_eq,decide_eq_false_iff_not] at *; omega)))
  ·rw [hX] at hc0;have ha0:=(hT.2 1 (by omega)).1;have ha1:=(hT.2 1 (by omega)).2;simp only [accLo,accHi,Nat.reduceMul,Nat.reduceAdd,Nat.reduceEqDiff,if_true,if_false,Nat.reduceMod,Nat.reduceDiv] at ha0 ha1;generalize hr:qGc s.size x0.toNat x1.toNat x2.toNat=r
   rw [qGc,if_neg h0,hX] at hr;simp only [Nat.reduceMod,Nat.reduceDiv,accLo,accHi,Nat.reduceEqDiff,if_true,if_false] at hr;clear hT hX;by_cases hk:3≤s.size
   ·have hz1:((3:Int)≤(s.size:Int)):=by omega
    rw [if_pos (by omega)] at hr;subst hr;go_enter Tryz.func120,Tryz.ntmps120
    go_wp2
    go_ret
    exact ⟨rfl,Below.refl _ _⟩
   ·have Hr:=(HidF.mk hr);clear hr;rcases (show (s.size:Int)=1∨(s.size:Int)=2 by omega) with hz | hz
    rotate_left 1
    have hs1:s[1]'(by omega)=x1:=by rw [←hx1]; exact (Utf8W.get!_of_lt s 1 (by omega)).symm
    rcases emB (decide ((x1.toNat:Int)<160)) (decide ((191:Int)<(x1.toNat:Int))) with d0 | ⟨d0,d1 | d1⟩
    all_goals
     go_enter Tryz.func120,Tryz.ntmps120
     go_wp2
     go_quiet (fail)
     go_wp2
     all_goals (go_ret; refine ⟨?_,belowN ((Below.refl _ _).alloc (Nat.le_refl _) _) _⟩; rw [←Hr.out]; (repeat' split) <;> first | rfl | (exfalso; first | omega | (simp only [decide_eq_true_eq,decide_eq_false_iff_not] at *; omega)))
  ·rw [hX] at hc0;have ha0:=(hT.2 0 (by omega)).1;have ha1:=(hT.2 0 (by omega)).2;simp only [accLo,accHi,Nat.reduceMul,Nat.reduceAdd,Nat.reduceEqDiff,if_true,if_false,Nat.reduceMod,Nat.reduceDiv] at ha0 ha1;generalize hr:qGc s.size x0.toNat x1.toNat x2.toNat=r
   rw [qGc,if_neg h0,hX] at hr;simp only [Nat.reduceMod,Nat.reduceDiv,accLo,accHi,Nat.reduceEqDiff,if_true,if_false] at hr;clear hT hX;by_cases hk:3≤s.size
   ·have hz1:((3:Int)≤(s.size:Int)):=by omega
    rw [if_pos (by omega)] at hr;subst hr;go_enter Tryz.func120,Tryz.ntmps120
    go_wp2
    go_ret
    exact ⟨rfl,Below.refl _ _⟩
   ·have Hr:=(HidF.mk hr);clear hr;rcases (show (s.size:Int)=1∨(s.size:Int)=2 by omega) with hz | hz
    rotate_left 1
    have hs1:s[1]'(by omega)=x1:=by rw [←hx1]; exact (Utf8W.get!_of_lt s 1 (by omega)).symm
    rcases emB (decide ((x1.toNat:Int)<128)) (decide ((191:Int)<(x1.toNat:Int))) with d0 | ⟨d0,d1 | d1⟩
    all_goals
     go_enter Tryz.func120,Tryz.ntmps120
     go_wp2
     go_quiet (fail)
     go_wp2
     all_goals (go_ret; refine ⟨?_,belowN ((Below.refl _ _).alloc (Nat.le_refl _) _) _⟩; rw [←Hr.out]; (repeat' split) <;> first | rfl | (exfalso; first | omega | (simp only [decide_eq_true_eq,decide_eq_false_iff_not] at *; omega)))
  ·rw [hX] at hc0;have ha0:=(hT.2 2 (by omega)).1;have ha1:=(hT.2 2 (by omega)).2;simp only [accLo,accHi,Nat.reduceMul,Nat.reduceAdd,Nat.reduceEqDiff,if_true,if_false,Nat.reduceMod,Nat.reduceDiv] at ha0 ha1;generalize hr:qGc s.size x0.toNat x1.toNat x2.toNat=r
   rw [qGc,if_neg h0,hX] at hr;simp only [Nat.reduceMod,Nat.reduceDiv,accLo,accHi,Nat.reduceEqDiff,if_true,if_false] at hr;clear hT hX;by_cases hk:3≤s.size
   ·have hz1:((3:Int)≤(s.size:Int)):=by omega
    rw [if_pos (by omega)] at hr;subst hr;go_enter Tryz.func120,Tryz.ntmps120
    go_wp2
    go_ret
    exact ⟨rfl,Below.refl _ _⟩
   ·have Hr:=(HidF.mk hr);clear hr;rcases (show (s.size:Int)=1∨(s.size:Int)=2 by omega) with hz | hz
    rotate_left 1
    have hs1:s[1]'(by omega)=x1:=by rw [←hx1]; exact (Utf8W.get!_of_lt s 1 (by omega)).symm
    rcases emB (decide ((x1.toNat:Int)<128)) (decide ((159:Int)<(x1.toNat:Int))) with d0 | ⟨d0,d1 | d1⟩
    all_goals
     go_enter Tryz.func120,Tryz.ntmps120
     go_wp2
     go_quiet (fail)
     go_wp2
     all_goals (go_ret; refine ⟨?_,belowN ((Below.refl _ _).alloc (Nat.le_refl _) _) _⟩; rw [←Hr.out]; (repeat' split) <;> first | rfl | (exfalso; first | omega | (simp only [decide_eq_true_eq,decide_eq_false_iff_not] at *; omega)))
  ·rw [hX] at hc0;have ha0:=(hT.2 3 (by omega)).1;have ha1:=(hT.2 3 (by omega)).2;simp only [accLo,accHi,Nat.reduceMul,Nat.reduceAdd,Nat.reduceEqDiff,if_true,if_false,Nat.reduceMod,Nat.reduceDiv] at ha0 ha1;generalize hr:qGc s.size x0.toNat x1.toNat x2.toNat=r
   rw [qGc,if_neg h0,hX] at hr;simp only [Nat.reduceMod,Nat.reduceDiv,accLo,accHi,Nat.reduceEqDiff,if_true,if_false] at hr;clear hT hX;by_cases hk:4≤s.size
   ·have hz1:((4:Int)≤(s.size:Int)):=by omega
    rw [if_pos (by omega)] at hr;subst hr;go_enter Tryz.func120,Tryz.ntmps120
    go_wp2
    go_ret
    exact ⟨rfl,Below.refl _ _⟩
   ·have Hr:=(HidF.mk hr);clear hr;rcases (show (s.size:Int)=1∨(s.size:Int)=2∨(s.size:Int)=3 by omega) with hz | hz | hz
    rotate_left 1
    have hs1:s[1]'(by omega)=x1:=by rw [←hx1]; exact (Utf8W.get!_of_lt s 1 (by omega)).symm
    rcases emB (decide ((x1.toNat:Int)<144)) (decide ((191:Int)<(x1.toNat:Int))) with d0 | ⟨d0,d1 | d1⟩
    rotate_left 3
    have hs1:s[1]'(by omega)=x1:=by rw [←hx1]; exact (Utf8W.get!_of_lt s 1 (by omega)).symm
    have hs2:s[2]'(by omega)=x2:=by rw [←hx2]; exact (Utf8W.get!_of_lt s 2 (by omega)).symm
    rcases emD (decide ((x1.toNat:Int)<144)) (decide ((191:Int)<(x1.toNat:Int))) (decide ((x2.toNat:Int)<128)) (decide ((191:Int)<(x2.toNat:Int))) with d0 | ⟨d0,d1 | ⟨d1,d2 | ⟨d2,d3 | d3⟩⟩⟩
    all_goals
     go_enter Tryz.func120,Tryz.ntmps120
     go_wp2
     go_quiet (fail)
     go_wp2
     all_goals (go_ret; refine ⟨?_,belowN ((Below.refl _ _).alloc (Nat.le_refl _) _) _⟩; rw [←Hr.out]; (repeat' split) <;> first | rfl | (exfalso; first | omega | (simp only [decide_eq_true_eq,decide_eq_false_iff_not] at *; omega)))
  ·rw [hX] at hc0;have ha0:=(hT.2 0 (by omega)).1;have ha1:=(hT.2 0 (by omega)).2;simp only [accLo,accHi,Nat.reduceMul,Nat.reduceAdd,Nat.reduceEqDiff,if_true,if_false,Nat.reduceMod,Nat.reduceDiv] at ha0 ha1;generalize hr:qGc s.size x0.toNat x1.toNat x2.toNat=r
   rw [qGc,if_neg h0,hX] at hr;simp only [Nat.reduceMod,Nat.reduceDiv,accLo,accHi,Nat.reduceEqDiff,if_true,if_false] at hr;clear hT hX;by_cases hk:4≤s.size
   ·have hz1:((4:Int)≤(s.size:Int)):=by omega
    rw [if_pos (by omega)] at hr;subst hr;go_enter Tryz.func120,Tryz.ntmps120
    go_wp2
    go_ret
    exact ⟨rfl,Below.refl _ _⟩
   ·have Hr:=(HidF.mk hr);clear hr;rcases (show (s.size:Int)=1∨(s.size:Int)=2∨(s.size:Int)=3 by omega) with hz | hz | hz
    rotate_left 1
    have hs1:s[1]'(by omega)=x1:=by rw [←hx1]; exact (Utf8W.get!_of_lt s 1 (by omega)).symm
    rcases emB (decide ((x1.toNat:Int)<128)) (decide ((191:Int)<(x1.toNat:Int))) with d0 | ⟨d0,d1 | d1⟩
    rotate_left 3
    have hs1:s[1]'(by omega)=x1:=by rw [←hx1]; exact (Utf8W.get!_of_lt s 1 (by omega)).symm
    have hs2:s[2]'(by omega)=x2:=by rw [←hx2]; exact (Utf8W.get!_of_lt s 2 (by omega)).symm
    rcases emD (decide ((x1.toNat:Int)<128)) (decide ((191:Int)<(x1.toNat:Int))) (decide ((x2.toNat:Int)<128)) (decide ((191:Int)<(x2.toNat:Int))) with d0 | ⟨d0,d1 | ⟨d1,d2 | ⟨d2,d3 | d3⟩⟩⟩
    all_goals
     go_enter Tryz.func120,Tryz.ntmps120
     go_wp2
     go_quiet (fail)
     go_wp2
     all_goals (go_ret; refine ⟨?_,belowN ((Below.refl _ _).alloc (Nat.le_refl _) _) _⟩; rw [←Hr.out]; (repeat' split) <;> first | rfl | (exfalso; first | omega | (simp only [decide_eq_true_eq,decide_eq_false_iff_not] at *; omega)))
  ·rw [hX] at hc0;have ha0:=(hT.2 4 (by omega)).1;have ha1:=(hT.2 4 (by omega)).2;simp only [accLo,accHi,Nat.reduceMul,Nat.reduceAdd,Nat.reduceEqDiff,if_true,if_false,Nat.reduceMod,Nat.reduceDiv] at ha0 ha1;generalize hr:qGc s.size x0.toNat x1.toNat x2.toNat=r
   rw [qGc,if_neg h0,hX] at hr;simp only [Nat.reduceMod,Nat.reduceDiv,accLo,accHi,Nat.reduceEqDiff,if_true,if_false] at hr;clear hT hX;by_cases hk:4≤s.size
   ·have hz1:((4:Int)≤(s.size:Int)):=by omega
    rw [if_pos (by omega)] at hr;subst hr;go_enter Tryz.func120,Tryz.ntmps120
    go_wp2
    go_ret
    exact ⟨rfl,Below.refl _ _⟩
   ·have Hr:=(HidF.mk hr);clear hr;rcases (show (s.size:Int)=1∨(s.size:Int)=2∨(s.size:Int)=3 by omega) with hz | hz | hz
    rotate_left 1
    have hs1:s[1]'(by omega)=x1:=by rw [←hx1]; exact (Utf8W.get!_of_lt s 1 (by omega)).symm
    rcases emB (decide ((x1.toNat:Int)<128)) (decide ((143:Int)<(x1.toNat:Int))) with d0 | ⟨d0,d1 | d1⟩
    rotate_left 3
    have hs1:s[1]'(by omega)=x1:=by rw [←hx1]; exact (Utf8W.get!_of_lt s 1 (by omega)).symm
    have hs2:s[2]'(by omega)=x2:=by rw [←hx2]; exact (Utf8W.get!_of_lt s 2 (by omega)).symm
    rcases emD (decide ((x1.toNat:Int)<128)) (decide ((143:Int)<(x1.toNat:Int))) (decide ((x2.toNat:Int)<128)) (decide ((191:Int)<(x2.toNat:Int))) with d0 | ⟨d0,d1 | ⟨d1,d2 | ⟨d2,d3 | d3⟩⟩⟩
    all_goals
     go_enter Tryz.func120,Tryz.ntmps120
     go_wp2
     go_quiet (fail)
     go_wp2
     all_goals (go_ret; refine ⟨?_,belowN ((Below.refl _ _).alloc (Nat.le_refl _) _) _⟩; rw [←Hr.out]; (repeat' split) <;> first | rfl | (exfalso; first | omega | (simp only [decide_eq_true_eq,decide_eq_false_iff_not] at *; omega)))
end Go.Proofs.YtpobbbpphnnnhaaGreatDoor
namespace Go.Proofs
open Go.Shelf
shelf_lay Lays.n197 Nm 197 at Tryz as Tryz.laysDecode
end Go.Proofs
namespace Go.Proofs.YtpobbbpphnnnhaaGreatDoor
open Go.Eng
set_option linter.unusedVariables false
set_option linter.unusedSimpArgs false
theorem stays_below {w w':World} (h:Go.RowKit.Below w.heap.size w w'):Stays (fun _=>False) w w':=⟨h.os,h.output,h.size,fun k hk _=>h.block k hk⟩
theorem given_cont {α β γ:Type} {A:Dec α (List SV)} {B:Dec β (List SB)} (f:α→Option γ) (v:γ→SV) (args:List SV) (hp:List SB) (R:Type) (k:SV→List SB→Option R) :
  ((Dec.d A args).bind fun x=>(Dec.d B hp).bind fun y=>(f x).bind fun r=>k (v r) [])=(((Dec.d A args).bind fun x=>(Dec.d B hp).bind fun y=>(f x).bind fun r=>some (v r,([]:List SB))):Option (SV × List SB)).bind fun z=>k z.1 z.2:=by
 cases Dec.d A args with
 | none=>rfl
 | some x =>
  cases Dec.d B hp with
  | none=>rfl
  | some y=>simp only [obS,Option.bind_assoc]
def utf8_da:=(qAa (dVC (dCO dS)) dNil)
def utf8_db:=(dNil:Dec Unit (List SB))
noncomputable def qBg (s:BA):Option (Int × Int):=some (((Lib.decodeGo s).1:Int),((Lib.decodeGo s).2:Int))
noncomputable def qDf:CS:=fun args hp R k=>(Dec.d utf8_da args).bind fun x=>(Dec.d utf8_db hp).bind fun y=>(qBg x.1).bind fun r=>k (.tup [.o (.val (.int .i32 r.1)),.o (.val (.int .i64 r.2))]) []
theorem qFw:qAj Tryz.prog 94 qDf:=by
 refine ⟨fun args hp R k=>given_cont (A:=utf8_da) (B:=utf8_db) (fun x=>qBg x.1) (fun r=>.tup [.o (.val (.int .i32 r.1)),.o (.val (.int .i64 r.2))]) args hp R k,fun args hp v hp' hC hlt X w ρ hhp=>?_⟩;obtain ⟨x,h1,h2⟩:=Option.bind_eq_some_iff.1 hC;obtain ⟨y,h3,h4⟩:=Option.bind_eq_some_iff.1 h2;obtain ⟨r,h5,h6⟩:=Option.bind_eq_some_iff.1 h4;rw [Dec.ok _ _ _ h1];have hhp':=Dec.ok _ _ _ h3;obtain ⟨s,u⟩:=x;simp only [qBg,snJ,Prod.mk.injEq] at h6 h5;obtain ⟨rfl,rfl⟩:=h6;subst h5;rw [hhp'] at hhp ⊢;refine (Any.utf8_DecodeRuneInString Tryz.laysDecode s w hhp.tab.1).mono ?_;rintro e w' ⟨rfl,hb⟩
 obtain ⟨g1,g2⟩:=hhp.past ⟨rfl,rfl,Nat.le_refl _,fun k _ _=>rfl⟩ (stays_below hb);exact ⟨ρ,fun _ _=>rfl,Nat.le_refl _,rfl,fun c hc=>by simp only [List.mem_cons,List.not_mem_nil,or_false] at hc; rcases hc with rfl | rfl <;> trivial,g1,g2⟩
noncomputable def qDg:CQ:=qCl [] qDf
theorem qGe:qAg Tryz.prog 94 qDg:=qAn qFw
noncomputable def qBz (s:BA):Option Bool:=gd (s.size≤9223372036854775807) (some (fullS s))
noncomputable def qD7:CS:=fun args hp R k=>(Dec.d utf8_da args).bind fun x=>(Dec.d utf8_db hp).bind fun y=>(qBz x.1).bind fun r=>k (.c (.o (.val (.bool r)))) []
theorem qG0:qAj Tryz.prog 120 qD7:=by
 refine ⟨fun args hp R k=>given_cont (A:=utf8_da) (B:=utf8_db) (fun x=>qBz x.1) (fun r=>.c (.o (.val (.bool r)))) args hp R k,fun args hp v hp' hC hlt X w ρ hhp=>?_⟩;obtain ⟨x,h1,h2⟩:=Option.bind_eq_some_iff.1 hC;obtain ⟨y,h3,h4⟩:=Option.bind_eq_some_iff.1 h2;obtain ⟨r,h5,h6⟩:=Option.bind_eq_some_iff.1 h4;obtain ⟨hi,h7⟩:=gd_some.1 h5;rw [Dec.ok _ _ _ h1];have hhp':=Dec.ok _ _ _ h3;obtain ⟨s,u⟩:=x;simp only [snJ,Prod.mk.injEq] at h6 h7;obtain ⟨rfl,rfl⟩:=h6;simp only at hi;subst h7;rw [hhp'] at hhp ⊢;refine (full_run s w hi hhp.tab.1).mono ?_;rintro e w' ⟨rfl,hb⟩
 obtain ⟨g1,g2⟩:=hhp.past ⟨rfl,rfl,Nat.le_refl _,fun k _ _=>rfl⟩ (stays_below hb);exact ⟨ρ,fun _ _=>rfl,Nat.le_refl _,rfl,trivial,g1,g2⟩
noncomputable def qD8:CQ:=qCl [] qD7
theorem qHg:qAg Tryz.prog 120 qD8:=qAn qG0
end Go.Proofs.YtpobbbpphnnnhaaGreatDoor
namespace Go.Proofs.YtpobbbpphnnnhaaGreatDoor
open Go.Eng
set_option linter.unusedVariables false
set_option linter.unusedSimpArgs false
set_option maxRecDepth 100000
end Go.Proofs.YtpobbbpphnnnhaaGreatDoor
