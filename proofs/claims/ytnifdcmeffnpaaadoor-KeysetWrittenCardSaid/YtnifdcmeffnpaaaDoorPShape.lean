/-
  Texts of a claim.
-/
import Derived.Test.YtnifdcmeffnpaaaDoorDecRel
import Derived.Test.YtnifdcmeffnpaaaDoorGC
import Derived.Test.YtnifdcmeffnpaaaDoorUtf8
import Derived.Test.YtnifdcmeffnpaaaDoorPUtf
namespace Go.Proofs.YtnifdcmeffnpaaaDoor
open Go.Eng
set_option linter.unusedVariables false
set_option linter.unusedSimpArgs false
theorem p_run (s:BA) (h:s.size<9223372036854775807):zad_s s=some (runS s:Int):=by
 unfold zad_s zad_p0;rw [whileO_rule (fun x:Int=>∃k:Nat,x=k∧k≤s.size∧qCw s k=qCw s 0) (fun x=>s.size - x.toNat) (fun _=>(qCw s 0:Int)) ?_ (x:=(0:Int)) ⟨0,rfl,by omega,rfl⟩]
 ·rfl
 rintro _ ⟨k,rfl,hk,hm⟩
 unfold zad_p0_step;have key:((decide ((k:Int)<(s.size:Int)) && decide ((48:Int)≤bAt s k)) && decide (bAt s k≤57))=digS s k:=by
  unfold digS;by_cases hlt:(k:Int)<s.size
  ·simp [hlt]
  ·have:=qBt hlt;simp [hlt,this]
 rw [key];cases hd:digS s k with
 | true =>
  left;have hlt:=digS_lt hd;refine ⟨((k+1:Nat):Int),?_,⟨k+1,rfl,by omega,by rw [←hm,qCf hd]⟩,by omega,rfl⟩;refine (qAa (fun _=>by omega) _).trans ?_;refine (qAa (fun _=>by omega) _).trans ?_;refine (qAa (by unfold qAj; omega) _).trans ?_;rfl
 | false =>
  right;refine (qAa (fun h=>by have:=of_decide_eq_true h; omega) _).trans ?_;refine (qAa (fun h=>by have:=of_decide_eq_true (Bool.and_eq_true _ _ ▸ h).1; omega) _).trans ?_;show some (Sum.inr (k:Int))=_;rw [←hm,qBx hd]
theorem p_trimL1 (s:BA) (b:Int):zcm_s s b=some (trimL s b):=by
 unfold zcm_s zcm_p0;rw [whileO_rule (fun x:BA=>∃k:Nat,x=s.extract k s.size∧k≤s.size∧leadB s b k=leadB s b 0) (fun x=>x.size) (fun _=>trimL s b) ?_ ⟨0,(all_of s).symm,by omega,rfl⟩]
 ·rfl
 rintro _ ⟨k,rfl,hk,hm⟩
 unfold zcm_p0_step;have hz:=qCe s k;have hb:=bAt_tail s k 0 (by omega);simp only [Int.add_zero] at hb;rw [hb];by_cases hq:k<s.size∧bAt s k=b
 ·left;refine ⟨s.extract (k+1) s.size,?_,⟨k+1,rfl,by omega,by rw [←hm,leadB_yes hq]⟩,by rw [qCe,qCe]; omega,rfl⟩;refine (qAa (fun _=>by omega) _).trans ?_;have:(decide ((0:Int)<((s.extract k s.size).size:Int)) && decide (bAt s k=b))=true:=by simp only [Bool.and_eq_true,decide_eq_true_eq]; exact ⟨by omega,hq.2⟩
  rw [this,cnT];refine (qAa (by omega) _).trans ?_;rw [qGq]
 ·right;refine (qAa (fun h=>by have:=of_decide_eq_true h; omega) _).trans ?_;have:(decide ((0:Int)<((s.extract k s.size).size:Int)) && decide (bAt s k=b))=false:=by
   rw [Bool.and_eq_false_iff,decide_eq_false_iff_not,decide_eq_false_iff_not];by_cases h1:k<s.size
   ·exact .inr fun h=>hq ⟨h1,h⟩
   ·exact .inl (by omega)
  rw [this,cnF,trimL,←hm,leadB_no hq]
theorem p_trimR1 (s:BA) (b:Int) (h:s.size<9223372036854775807):zcn_s s b=some (trimR s b):=by
 unfold zcn_s zcn_p0;rw [whileO_rule (fun x:BA=>∃k:Nat,x=s.extract 0 k∧k≤s.size∧backB s b k=backB s b s.size) (fun x=>x.size) (fun _=>trimR s b) ?_ ⟨s.size,(all_of s).symm,by omega,rfl⟩]
 ·rfl
 rintro _ ⟨k,rfl,hk,hm⟩
 unfold zcn_p0_step;have hz:(s.extract 0 k).size=k:=by rw [ByteArray.size_extract]; omega
 simp only [hz];cases k with
 | zero =>
  right;refine (qAa (fun h=>by simp at h) _).trans ?_;refine (qAa (fun h=>by simp at h) _).trans ?_;rw [trimR,←hm];rfl
 | succ n =>
  have hb:bAt (s.extract 0 (n+1)) (((n+1:Nat):Int) - 1)=bAt s n:=by
   rw [qDa s 0 (n+1) _ (by omega) (by omega)];congr 1
   omega
  rw [hb];have e0:decide ((0:Int)<((n+1:Nat):Int))=true:=by simp only [decide_eq_true_eq]; omega
  rw [e0];by_cases hq:bAt s n=b
  ·left;refine ⟨s.extract 0 n,?_,⟨n,rfl,by omega,by rw [←hm]; show _=backB s b (n+1); rw [backB,if_pos hq]⟩,by rw [ByteArray.size_extract]; omega,tV⟩;refine (qAa (fun _=>by unfold qAj; omega) _).trans ?_;refine (qAa (fun _=>by omega) _).trans ?_;have:(true && decide (bAt s n=b))=true:=by simp [hq]
   rw [this,cnT];refine (qAa (by unfold qAj; omega) _).trans ?_;refine (qAa (by omega) _).trans ?_;rw [show Int.toNat (((n+1:Nat):Int) - 1)=n by omega,ByteArray.extract_extract];congr 3
   omega
  ·right;refine (qAa (fun _=>by unfold qAj; omega) _).trans ?_;refine (qAa (fun _=>by omega) _).trans ?_;have:(true && decide (bAt s n=b))=false:=by simp [hq]
   rw [this,cnF,trimR,←hm,backB,if_neg hq]
theorem p_trimL (s:BA):zck_s s (⟨#[48]⟩:BA)=some (trimL s 48):=by
 unfold zck_s;have h1:decide ((⟨#[48]⟩:BA)=(⟨#[]⟩:BA))=false:=by decide
 rw [h1,Bool.or_false];by_cases he:s=⟨#[]⟩
 ·rw [deT he,cnT];congr 1
  have:=eq_none.1 he;unfold trimL;rw [he];refine (eq_none.2 ?_).symm;rw [ByteArray.size_extract];have:(⟨#[]⟩:BA).size=0:=rfl;omega
 ·rw [deF he,cnF];refine (qAa (fun _=>by decide) _).trans ?_;have h2:(decide (((⟨#[48]⟩:BA).size:Int)=1) && decide (bAt (⟨#[48]⟩:BA) 0<128))=true:=by decide
  rw [h2,cnT];refine (qAa (by decide) _).trans ?_;rw [show bAt (⟨#[48]⟩:BA) 0=48 by decide,p_trimL1];rfl
theorem p_trimR (s:BA) (h:s.size<9223372036854775807):zcl_s s (⟨#[48]⟩:BA)=some (trimR s 48):=by
 unfold zcl_s;have h1:decide ((⟨#[48]⟩:BA)=(⟨#[]⟩:BA))=false:=by decide
 rw [h1,Bool.or_false];by_cases he:s=⟨#[]⟩
 ·rw [deT he,cnT];congr 1
  have:=eq_none.1 he;unfold trimR;rw [he];refine (eq_none.2 ?_).symm;rw [ByteArray.size_extract];have:(⟨#[]⟩:BA).size=0:=rfl;omega
 ·rw [deF he,cnF];refine (qAa (fun _=>by decide) _).trans ?_;have h2:(decide (((⟨#[48]⟩:BA).size:Int)=1) && decide (bAt (⟨#[48]⟩:BA) 0<128))=true:=by decide
  rw [h2,cnT];refine (qAa (by decide) _).trans ?_;rw [show bAt (⟨#[48]⟩:BA) 0=48 by decide,p_trimR1 s 48 h];rfl
theorem p_cut (s p:BA):zci_s s p=some (cutPre s p,hasPre s p):=by
 unfold zci_s zae_s zaf_s;rw [qAa (fun h=>by have:=of_decide_eq_true h; omega)];have e:(decide ((p.size:Int)≤(s.size:Int)) && decide (s.extract 0 (Int.toNat (p.size:Int))=p))=hasPre s p:=by
  simp only [hasPre,Int.ofNat_le,Int.toNat_natCast]
 rw [e];simp only [obS];unfold cutPre;cases h:hasPre s p with
 | true =>
  have:=hasPre_le h;simp only [Bool.not_true,cnF,if_true];rw [qAa (by omega)];simp only [obS,Int.toNat_natCast]
 | false=>simp
def num (n:PNum):decimal_number:=⟨n.minus,n.int,n.digits,n.off,n.plain,n.down,n.exp⟩
theorem hasPre_45 (s:BA):hasPre s (⟨#[45]⟩:BA)=decide (bAt s 0=45):=hasPre_one rfl
theorem hasPre_46 (s:BA):hasPre s (⟨#[46]⟩:BA)=decide (bAt s 0=46):=hasPre_one rfl
theorem cut_45 (s:BA):cutPre s (⟨#[45]⟩:BA)=s.extract (atA s) s.size:=by
 unfold cutPre atA;rw [hasPre_45];by_cases h:bAt s 0=45
 ·simp only [h,decide_true,if_true]; rfl
 ·simp only [h,decide_false,if_false,Bool.false_eq_true,all_of]
theorem or32 {b:Int} (h0:0≤b) (h1:b≤255):decide (qBw .u8 b 32=101)=(decide (b=101) || decide (b=69)):=by
 have key:∀n:Fin 256,decide (qBw .u8 (n.val:Int) 32=101)=(decide ((n.val:Int)=101) || decide ((n.val:Int)=69)):=by decide +kernel
 have:=key ⟨b.toNat,by omega⟩;simpa [Int.toNat_of_nonneg h0] using this
section
variable (s:BA) (hsz:s.size<4000000000000000000)
include hsz
theorem p_read0:zac_p0 (s.extract (atA s) s.size)=some (if badA s=true then .inl false else .inr (s.extract (atB s) s.size,s.extract (atA s) (atB s))):=by
 have hA:=atA_le s;have hAB:=atA_le_atB s;have hB:=atB_le s;have hr:runS (s.extract (atA s) s.size)=atB s - atA s:=runS_tail s (atA s);have hz:=qCe s (atA s);have hb0:=bAt_tail s (atA s) 0 (by omega);simp only [Int.add_zero] at hb0;unfold zac_p0;rw [p_run _ (by omega),obS];refine (qAa (fun h _=>by have:=of_decide_eq_true h; omega) _).trans ?_;have hbad:badA s=(decide ((runS (s.extract (atA s) s.size):Int)=0) || decide (1<(runS (s.extract (atA s) s.size):Int)) && decide (bAt (s.extract (atA s) s.size) 0=48)):=by
  rw [hr,hb0];unfold badA;rw [Bool.and_comm];congr 1
  ·rw [decide_eq_decide]; omega
  ·congr 1
   rw [decide_eq_decide]; omega
 rw [←hbad];cases hbd:badA s with
 | true=>rfl
 | false =>
  simp only [cnF];refine (qAa (by omega) _).trans ?_;refine (qAa (by omega) _).trans ?_;rw [hr,Int.toNat_natCast,head_tail,qGq,show atA s+(atB s - atA s)=atB s by omega,show min (atB s) s.size=atB s by omega];rfl
theorem p_read1:zac_p1 (s.extract (atB s) s.size) (⟨#[]⟩:BA) true=some (if (dotS s && decide (atK s=atB s+1))=true then .inl false else .inr (s.extract (atC s) s.size,fracS s,!dotS s)):=by
 have hb0:=bAt_tail s (atB s) 0 (by omega);simp only [Int.add_zero] at hb0;have hdot:decide (bAt (s.extract (atB s) s.size) 0=46)=dotS s:=by rw [hb0]; rfl
 have hz:=qCe s (atB s);unfold zac_p1;rw [p_cut,obS];simp only [hasPre_46,hdot];cases hd:dotS s with
 | false=>simp [fracS,atC,hd]
 | true =>
  have hBl:=atB_lt hd;have hKl:=atK_le hd;have hKg:=atK_ge s;have hcp:cutPre (s.extract (atB s) s.size) ⟨#[46]⟩=s.extract (atB s+1) s.size:=by
   unfold cutPre;rw [hasPre_46,hdot,hd];exact qGq s (atB s) 1
  have hr:runS (s.extract (atB s+1) s.size)=atK s - (atB s+1):=runS_tail s (atB s+1);have hz1:=qCe s (atB s+1);simp only [hcp,cnT];rw [p_run _ (by omega),obS];have hq:decide ((runS (s.extract (atB s+1) s.size):Int)=0)=decide (atK s=atB s+1):=by rw [hr,decide_eq_decide]; omega
  rw [hq];cases hk:decide (atK s=atB s+1) with
  | true=>rfl
  | false =>
   simp only [cnF];refine (qAa (by omega) _).trans ?_;refine (qAa (by omega) _).trans ?_;rw [hr,Int.toNat_natCast,head_tail,qGq,show atB s+1+(atK s - (atB s+1))=atK s by omega,show min (atK s) s.size=atK s by omega];simp [fracS,atC,hd]
theorem p_read3 (he:expS s=true):zac_p3 (s.extract (atE s) s.size)=some (if badE s=true then .inl false else .inr ((⟨#[]⟩:BA),false,(qG4 s).exp)):=by
 have hEl:=atE_le he;have hFl:=atF_le he;have hFg:=atF_ge s;have hr:runS (s.extract (atE s) s.size)=atF s - atE s:=runS_tail s (atE s);have hz2:=qCe s (atE s);have hne2:=tail_none s (atE s);unfold zac_p3;by_cases hn:s.extract (atE s) s.size=⟨#[]⟩
 ·have:badE s=true:=by simp [badE,he,hne2.1 hn]
  rw [deT hn,this];rfl
 ·rw [deF hn,cnF,p_run _ (by omega),obS,hr,hz2];have hle:¬s.size≤atE s:=fun h=>hn (hne2.2 h)
  have hbe:(!decide (((atF s - atE s:Nat):Int)=((s.size - atE s:Nat):Int)))=badE s:=by
   unfold badE;rw [he,Bool.true_and,deF hle,Bool.false_or,←decide_not,decide_eq_decide];omega
  rw [hbe];cases hb:badE s with
  | true=>rfl
  | false =>
   simp only [cnF];rw [p_trimL,obS];simp [qG4,he,expT]
theorem p_read2 (pl:Bool):zac_p2 (s.extract (atC s) s.size) pl false (⟨#[]⟩:BA)=some (if badE s=true then .inl (false,expS s && decide (bAt s (atC s+1)=45)) else .inr (if expS s=true then ⟨#[]⟩ else s.extract (atC s) s.size,pl && !expS s,expS s && decide (bAt s (atC s+1)=45),(qG4 s).exp)):=by
 have hC:=atC_le s;have hb0:=bAt_tail s (atC s) 0 (by omega);simp only [Int.add_zero] at hb0;have hz:=qCe s (atC s);have hrg:=qGx s (atC s);have hne:=tail_none s (atC s);have hexp:(!decide (s.extract (atC s) s.size=⟨#[]⟩) && decide (qBw .u8 (bAt (s.extract (atC s) s.size) 0) 32=101))=expS s:=by
  unfold expS;rw [hb0];by_cases he:s.size≤atC s
  ·have:bAt s (atC s) = -1:=qBt (by omega);simp [hne.2 he,this]
  ·have hn:¬s.extract (atC s) s.size=⟨#[]⟩:=fun e=>he (hne.1 e)
   have h0:0≤bAt s (atC s):=bAt_nn (by omega) (by omega);rw [or32 h0 hrg.2];simp [hn]
 unfold zac_p2;refine (qAa (fun h=>by
  have:¬s.size≤atC s:=fun h'=>by simp [hne.2 h'] at h
  omega) _).trans ?_
 rw [hexp];cases he:expS s with
 | false=>simp [qG4,he,badE]
 | true =>
  have hCl:=atC_lt he;have hEl:=atE_le he;have hb1:=bAt_tail s (atC s+1) 0 (by omega);simp only [Int.add_zero] at hb1;have hz1:=qCe s (atC s+1);have hne1:=tail_none s (atC s+1);have htt:(s.extract (atC s) s.size).extract 1 (s.extract (atC s) s.size).size=s.extract (atC s+1) s.size:=qGq s (atC s) 1;simp only [cnT];refine (qAa (by omega) _).trans ?_;simp only [htt];refine (qAa (fun h=>by
   have:¬s.size≤atC s+1:=fun h'=>by simp [hne1.2 h'] at h
   omega) _).trans ?_
  refine (qAa (fun _ h=>by
   have:¬s.size≤atC s+1:=fun h'=>by simp [hne1.2 h'] at h
   omega) _).trans ?_
  have hsg:(!decide (s.extract (atC s+1) s.size=⟨#[]⟩) && (decide (bAt (s.extract (atC s+1) s.size) 0=43) || decide (bAt (s.extract (atC s+1) s.size) 0=45)))=sgnS s:=by
   unfold sgnS;rw [hb1];by_cases h:s.size≤atC s+1
   ·have:bAt s ((atC s+1:Nat):Int) = -1:=qBt (by omega);have h2:bAt s ((atC s:Int)+1) = -1:=by rw [←this]; rfl
    simp [hne1.2 h,h2]
   ·have hn:¬s.extract (atC s+1) s.size=⟨#[]⟩:=fun e=>h (hne1.1 e)
    simp [hn]
  rw [hsg];cases hs:sgnS s with
  | false =>
   have hnd:¬bAt s ((atC s:Int)+1)=45:=fun e=>by simp [sgnS,e] at hs
   have hE:s.extract (atC s+1) s.size=s.extract (atE s) s.size:=by simp [atE,hs]
   simp only [cnF];rw [hE,p_read3 s hsz he,obS];cases badE s <;> simp [hnd]
  | true =>
   have hsl:=sgn_lt hs;have hE:(s.extract (atC s+1) s.size).extract 1 (s.extract (atC s+1) s.size).size=s.extract (atE s) s.size:=by rw [qGq]; simp [atE,hs]
   have hb1':bAt (s.extract (atC s+1) s.size) 0=bAt s ((atC s:Int)+1):=hb1;simp only [cnT];refine (qAa (by omega) _).trans ?_;refine (qAa (by omega) _).trans ?_;rw [hE,p_read3 s hsz he,obS,hb1'];cases badE s <;> simp
theorem p_read4:zac_p4 (if expS s=true then ⟨#[]⟩ else s.extract (atC s) s.size) (fracS s) (s.extract (atA s) (atB s)) (expS s && decide (bAt s (atC s+1)=45)) (qG4 s).exp=some (expS s || decide (s.size≤atC s),(qG4 s).digits,(qG4 s).off,(qG4 s).down):=by
 have hne:=tail_none s (atC s);have hi:(s.extract (atA s) (atB s)).size≤s.size:=by rw [ByteArray.size_extract]; omega
 have hfr:(fracS s).size≤s.size:=by
  unfold fracS;split
  ·rw [ByteArray.size_extract]; omega
  ·exact Nat.zero_le _
 have hap:(s.extract (atA s) (atB s)++fracS s).size=(s.extract (atA s) (atB s)).size+(fracS s).size:=ByteArray.size_append;have htl:(trimL (s.extract (atA s) (atB s)++fracS s) 48).size≤(s.extract (atA s) (atB s)++fracS s).size:=by rw [trimL,ByteArray.size_extract]; omega
 have hrest:decide ((if expS s=true then ⟨#[]⟩ else s.extract (atC s) s.size)=(⟨#[]⟩:BA))=(expS s || decide (s.size≤atC s)):=by
  cases he:expS s
  ·simp [hne]
  ·simp
 have hdn:(qG4 s).down=(expS s && decide (bAt s (atC s+1)=45) && !decide ((qG4 s).exp=⟨#[]⟩)):=by
  cases he:expS s
  ·simp [qG4,he]
  ·simp [qG4,he]
 unfold zac_p4;refine (qAa (by omega) _).trans ?_;rw [p_trimL,obS];refine (qAa (by unfold qAj; omega) _).trans ?_;refine (qAa (by unfold qAj; omega) _).trans ?_;rw [p_trimR _ (by omega),obS,hrest,hdn];cases decide ((qG4 s).exp=⟨#[]⟩) <;> simp [qG4]
theorem p_readA (m:Bool) (hm:m=decide (bAt s 0=45)):((zac_p0 (s.extract (atA s) s.size)).bind fun o3=>(Sum.elim (fun (o3_0:Bool) =>
   some ((⟨m,(⟨#[]⟩:BA),(⟨#[]⟩:BA),(0:Int),true,false,(⟨#[]⟩:BA)⟩:decimal_number),o3_0)) (fun (o3_1:BA × BA) =>
   (zac_p1 o3_1.1 (⟨#[]⟩:BA) true).bind fun o6=>(Sum.elim (fun (o6_0:Bool) =>
    some ((⟨m,o3_1.2,(⟨#[]⟩:BA),(0:Int),true,false,(⟨#[]⟩:BA)⟩:decimal_number),o6_0)) (fun (o6_1:BA × BA × Bool) =>
    (zac_p2 o6_1.1 o6_1.2.2 false (⟨#[]⟩:BA)).bind fun o11=>(Sum.elim (fun (o11_0:Bool × Bool) =>
     some ((⟨m,o3_1.2,(⟨#[]⟩:BA),(0:Int),o6_1.2.2,o11_0.2,(⟨#[]⟩:BA)⟩:decimal_number),o11_0.1)) (fun (o11_1:BA × Bool × Bool × BA) =>
     (zac_p4 o11_1.1 o6_1.2.1 o3_1.2 o11_1.2.2.1 o11_1.2.2.2).bind fun o14 =>
     some ((⟨m,o3_1.2,o14.2.1,o14.2.2.1,o11_1.2.1,o14.2.2.2,o11_1.2.2.2⟩:decimal_number),o14.1))) o11)) o6)) o3)=some (num (qFq s),qCh s):=by
 subst hm;rw [p_read0 s hsz,obS];cases hbd:badA s with
 | true =>
  have hro:qCh s=false:=by simp [qCh,hbd]
  rw [progAll_1 hbd,hro];rfl
 | false =>
  simp only [Bool.false_eq_true,if_false,Sum.elim_inr];rw [p_read1 s hsz,obS];cases hdk:(dotS s && decide (atK s=atB s+1)) with
  | true =>
   have hro:qCh s=false:=by simp only [qCh,hbd,hdk,Bool.not_true,Bool.not_false,Bool.and_false,Bool.false_and]
   rw [progAll_2 hbd hdk,hro];rfl
  | false =>
   simp only [Bool.false_eq_true,if_false,Sum.elim_inr];rw [p_read2 s hsz,obS];cases hbe:badE s with
   | true =>
    have hro:qCh s=false:=by
     rw [←progOk_eq];simp [progOk,hbe]
    rw [progAll_3 hbd hdk hbe,hro];rfl
   | false =>
    have hro:qCh s=(expS s || decide (s.size≤atC s)):=by
     rw [←progOk_eq];simp only [progOk,hbd,hdk,hbe,Bool.not_false,Bool.true_and]
    simp only [Bool.false_eq_true,if_false,Sum.elim_inr];rw [p_read4 s hsz,obS,progAll_4 hbd hdk hbe,hro];rfl
theorem p_read:zac_s s 0=some (num (qFq s),qCh s):=by
 unfold zac_s;rw [deT rfl,cnT,p_cut,obS,hasPre_45,cut_45];exact p_readA s hsz _ rfl
end
end Go.Proofs.YtnifdcmeffnpaaaDoor
namespace Go.Proofs.YtnifdcmeffnpaaaDoor
open Go.Eng
set_option linter.unusedVariables false
set_option linter.unusedSimpArgs false
theorem p_Valid (s:BA) (hs:s.size≤3000000):zaa_s s=some (qCh s):=by
 unfold zaa_s;rw [p_read s (by omega)];rfl
def wholeI (t:BA):Nat→Nat→Int→Option Int
 | 0,_,v=>some v
 | j+1,i,v=>if (9223372036854775808 - (bAt t (i:Int) - 48) % 256) / 10<v then none else wholeI t j (i+1) (10*v+(bAt t (i:Int) - 48) % 256)
def qFc (s:BA):Int × Bool :=
 if qCh s=true∧(readS s).plain=true then match wholeI (readS s).text (readS s).text.size 0 0 with
  | none=>(0,false)
  | some u=>if (readS s).minus=true then (-u,true) else if u=9223372036854775808 then (0,false) else (u,true)
 else (0,false)
theorem wholeV_no {s:BA} (h:¬(qCh s=true∧(readS s).plain=true)):qFc s=(0,false):=if_neg h
theorem wholeV_yes {s:BA} (h:qCh s=true∧(readS s).plain=true):qFc s=match wholeI (readS s).text (readS s).text.size 0 0 with
  | none=>(0,false)
  | some u=>if (readS s).minus=true then (-u,true) else if u=9223372036854775808 then (0,false) else (u,true):=if_pos h
theorem whole_pj (t:BA) (hs:t.size≤3000000):∀(j i:Nat) (v:Int),i+j=t.size→0≤v∧v≤9223372036854775808 →
  (wholeI t j i v=none∧zab_p0 v (t.size:Int) (i:Int) t=some (.inl (0,false))) ∨
  (∃u:Int,wholeI t j i v=some u∧(0≤u∧u≤9223372036854775808)∧zab_p0 v (t.size:Int) (i:Int) t=some (.inr u))
 | 0,i,v,h,hv=>by
  refine .inr ⟨v,rfl,hv,?_⟩;unfold zab_p0;refine qAq ?_;unfold qD3;dsimp only;rw [deF (by omega),cnF]
 | j+1,i,v,h,hv=>by
  obtain ⟨d,hd⟩:∃d,d=(bAt t i - 48) % 256:=⟨_,rfl⟩;have hd2:0≤d∧d<256:=by omega
  have e1:(9223372036854775808 - d % 18446744073709551616) % 18446744073709551616=9223372036854775808 - d:=by omega
  have s1:qD3 v (t.size:Int) (i:Int) t=if (9223372036854775808 - d) / 10<v then some (.inr (.inl (0,false))) else some (.inl (10*v+d,((i+1:Nat):Int))):=by
   unfold qD3;rw [←hd,deT (by omega),cnT];refine (qAa (by omega) _).trans ?_;rw [e1];refine (qAa (by omega) _).trans ?_;by_cases hl:(9223372036854775808 - d) / 10<v
   ·rw [deT hl,cnT,if_pos hl]
   ·rw [deF hl,cnF,if_neg hl];refine (qAa (by unfold qAj; omega) _).trans ?_;rw [show (10*v % 18446744073709551616+d % 18446744073709551616) % 18446744073709551616=10*v+d by omega];rfl
  by_cases hl:(9223372036854775808 - d) / 10<v
  ·have hw:wholeI t (j+1) i v=none:=by unfold wholeI; rw [←hd,if_pos hl]
   rw [if_pos hl] at s1;refine .inl ⟨hw,?_⟩;unfold zab_p0;exact qAq s1
  ·have hw:wholeI t (j+1) i v=wholeI t j (i+1) (10*v+d):=by rw [wholeI,←hd,if_neg hl]
   rw [if_neg hl] at s1;have ih:=whole_pj t hs j (i+1) (10*v+d) (by omega) (by omega);have w1:zab_p0 v (t.size:Int) (i:Int) t=zab_p0 (10*v+d) (t.size:Int) ((i+1:Nat):Int) t:=by
    unfold zab_p0;exact qAy s1
   rw [hw,w1];exact ih
theorem whole_j (s:BA) (hs:s.size≤3000000):zab_s s=some (qFc s):=by
 unfold zab_s;rw [p_read s (by omega),obS];cases hr:qCh s with
 | false =>
  rw [wholeV_no (by rw [hr]; simp)];rfl
 | true =>
  rw [progAll_ok hr];have hp:(num (qG4 s)).plain=(readS s).plain:=rfl;simp only [Bool.not_true,Bool.false_or];rw [hp];cases hpl:(readS s).plain with
  | false =>
   have hpl:(readS s).plain=false:=hpl;rw [wholeV_no (by rw [hpl]; simp)];rfl
  | true =>
   have hpl:(readS s).plain=true:=hpl;rw [wholeV_yes ⟨hr,hpl⟩];generalize hrs:readS s=r at *
   simp only [Bool.not_true,cnF];have ht:(num (qG4 s)).whole=r.text:=by rw [←hrs]; rfl
   have hm:(num (qG4 s)).minus=r.minus:=by rw [←hrs]; rfl
   rw [ht,hm];have hz:r.text.size≤3000000:=by
    rw [←hrs];show (s.extract _ _).size≤_;rw [ByteArray.size_extract]; omega
   have et:r.text=r.text:=rfl;have em:r.minus=r.minus:=rfl;rw [et] at hz;have:=whole_pj r.text hz r.text.size 0 0 (by omega) (by omega);rw [show ((0:Nat):Int)=0 from rfl] at this;rcases this with ⟨h0,h1⟩ | ⟨u,h0,hu,h1⟩
   ·rw [h0];rw [h1]; rfl
   ·rw [h0,h1,obS];simp only [Sum.elim_inr];cases r.minus with
    | true =>
     rw [if_pos rfl];simp only [Bool.not_true,Bool.false_and,cnF,cnT];unfold w64;rw [IntKind.wrap_i64];congr 2
     omega
    | false =>
     simp only [Bool.not_false,Bool.true_and,cnF];rw [if_neg (by decide)];by_cases h0:u=9223372036854775808
     ·rw [if_pos h0];rw [deT h0,cnT]
     ·rw [if_neg h0];rw [deF h0,cnF];unfold w64;rw [IntKind.wrap_i64];congr 2
      omega
instance memDec (s:BA):(l:List BA)→Decidable (s∈l)
 | []=>isFalse (by simp)
 | x::r=>if h:s=x then isTrue (by simp [h]) else match memDec s r with
  | isTrue h2=>isTrue (List.mem_cons_of_mem _ h2)
  | isFalse h2=>isFalse (by simp [h,h2])
theorem plain_j (n:Eng.Node) (hn:OkN n):∃b,zao_s n=some b∧(b=true→0≤n.kids∧(0<n.kids→6≤n.kind)∧n.kind≤7):=by
 have hw1:=whole_j n.text hn.text;have hv1:=p_Valid n.text hn.text;have hu2:qBd n.text=some (Lib.validD n.text.data.toList):=qAa (by have:=hn.text; omega) _;unfold zao_s;have hc:((((decide (n.kind<(1:Int))) || (decide ((7:Int)<n.kind))) || (decide (n.kids<(0:Int)))) || (((decide ((0:Int)<n.kids)) && (!decide (n.kind=(6:Int)))) && (!decide (n.kind=(7:Int))))) =
   ((((decide (n.kind<(1:Int))) || (decide ((7:Int)<n.kind))) || (decide (n.kids<(0:Int)))) || ((decide ((0:Int)<n.kids)) && (decide (n.kind<(6:Int))))):=by
  rw [Bool.eq_iff_iff];simp only [Bool.or_eq_true,Bool.and_eq_true,decide_eq_true_eq,Bool.not_eq_true',decide_eq_false_iff_not];omega
 rw [hc,hw1,hv1,hu2];simp only [obS];cases hd:((((decide (n.kind<(1:Int))) || (decide ((7:Int)<n.kind))) || (decide (n.kids<(0:Int)))) || ((decide ((0:Int)<n.kids)) && (decide (n.kind<(6:Int))))) with
 | true=>exact ⟨false,rfl,fun h=>by cases h⟩
 | false =>
  have hk:0≤n.kids∧(0<n.kids→6≤n.kind)∧n.kind≤7:=by
   simp only [Bool.or_eq_false_iff,Bool.and_eq_false_iff,decide_eq_false_iff_not] at hd;omega
  simp only [cnF];cases decide (n.kind=4) with
  | true =>
   exact ⟨_,rfl,fun _=>hk⟩
  | false =>
   simp only [cnF];cases (n.whole || !decide (n.int=0)) with
   | true=>exact ⟨_,rfl,fun _=>hk⟩
   | false =>
    simp only [cnF];cases decide (n.kind=5) <;> exact ⟨_,rfl,fun _=>hk⟩
noncomputable def pB (n:Eng.Node):Bool:=(zao_s n).getD false
theorem pB_j {n:Eng.Node} (hn:OkN n):zao_s n=some (pB n)∧(pB n=true→0≤n.kids∧(0<n.kids→6≤n.kind)∧n.kind≤7):=by
 obtain ⟨b,h1,h3⟩:=plain_j n hn;have:pB n=b:=by unfold pB; rw [h1]; rfl
 rw [this];exact ⟨h1,h3⟩
noncomputable def okB (obj:Bool) (n:Eng.Node):Bool:=pB n && Lib.validD n.key.data.toList && (obj || decide (n.key=(⟨#[]⟩:BA)))
def qCg (v:List Eng.Node) (a:Nat):BA:=(v.getD a (ET.dft .node)).key
noncomputable def qD1 (v:List Eng.Node) (one:Nat→Option Nat) (obj:Bool):Nat→Nat→List BA→Option Nat
 | 0,a,_=>some a
 | k+1,a,names =>
  match one a with
  | none=>none
  | some e=>if obj=true∧qCg v a∈names then none else qD1 v one obj k e (names++[qCg v a])
noncomputable def oneS (v:List Eng.Node):Nat→Bool→Nat→Option Nat
 | 0,obj,a =>
  match v[a]? with
  | none=>none
  | some n=>if okB obj n=true∧n.kind<6 then some (a+1) else none
 | d+1,obj,a =>
  match v[a]? with
  | none=>none
  | some n=>if okB obj n=true then qD1 v (oneS v d (decide (n.kind=7))) (decide (n.kind=7)) n.kids.toNat (a+1) [] else none
theorem qGc {v:List Eng.Node} {one:Nat→Option Nat} {obj:Bool} (h:∀a e,one a=some e→a<e∧e≤v.length):∀(k a:Nat) (names:List BA) (e:Nat),a≤v.length→qD1 v one obj k a names=some e→a+k≤e∧e≤v.length
 | 0,a,names,e,ha,hk=>by
  cases hk;exact ⟨by omega,ha⟩
 | k+1,a,names,e,ha,hk=>by
  unfold qD1 at hk;cases ho:one a with
  | none=>rw [ho] at hk; cases hk
  | some b =>
   rw [ho] at hk;dsimp only at hk;split at hk
   ·cases hk
   ·have hb:=h a b ho;have:=qGc h k b _ e hb.2 hk;omega
theorem qDf (v:List Eng.Node):∀(d:Nat) (obj:Bool) (a e:Nat),oneS v d obj a=some e→a<e∧e≤v.length
 | 0,obj,a,e,h=>by
  unfold oneS at h;cases hv:v[a]? with
  | none=>rw [hv] at h; cases h
  | some n =>
   rw [hv] at h;dsimp only at h;have:=(List.getElem?_eq_some_iff.1 hv).1;split at h
   ·cases h; omega
   ·cases h
 | d+1,obj,a,e,h=>by
  unfold oneS at h;cases hv:v[a]? with
  | none=>rw [hv] at h; cases h
  | some n =>
   rw [hv] at h;dsimp only at h;have hlt:=(List.getElem?_eq_some_iff.1 hv).1;split at h
   ·have:=qGc (fun a e=>qDf v d _ a e) _ _ _ _ (by omega) h;omega
   ·cases h
abbrev Lv:=Int × MapC × Unit
def closeR:List Lv→List Lv
 | []=>[]
 | x::r=>if x.1=0 then closeR r else x::r
def closeS (S:List Lv):List Lv:=(closeR S.reverse).reverse
theorem qFv (B:List Lv) (x:Lv):closeS (B++[x])=if x.1=0 then closeS B else B++[x]:=by
 have e:(B++[x]).reverse=x::B.reverse:=by simp
 unfold closeS;rw [e];by_cases h:x.1=0
 ·rw [if_pos h,closeR,if_pos h]
 ·rw [if_neg h,closeR,if_neg h]; simp
theorem snoc_of (S:List Lv):S=[]∨∃B x,S=B++[x]:=by
 by_cases h:S=[]
 ·exact .inl h
 ·exact .inr ⟨S.dropLast,S.getLast h,(List.dropLast_concat_getLast h).symm⟩
theorem qDo (B:List Lv) (x:Lv):(B++[x]).length=B.length+1:=by simp
theorem snoc_toNat (B:List Lv) (x:Lv):Int.toNat (((B++[x]).length:Int) - 1)=B.length:=by rw [qDo]; omega
theorem snoc_getD (B:List Lv) (x d:Lv):(B++[x]).getD B.length d=x:=by simp [List.getD_eq_getElem?_getD]
theorem snoc_set (B:List Lv) (x y:Lv):(B++[x]).set B.length y=B++[y]:=by simp
theorem snoc_take (B:List Lv) (x:Lv):(B++[x]).take B.length=B:=by simp
theorem p3_step (B:List Lv) (x:Lv) (hB:B.length≤1000):qDz (B++[x])=if x.1=0 then some (.inl B) else some (.inr (B++[x])):=by
 unfold qDz;have hl:=qDo B x;rw [qAa (fun _=>by unfold qAj; omega),qAa (fun _=>by omega),qAa (fun _=>by rw [snoc_toNat]; omega),qAa (fun _=>by rw [snoc_toNat]; omega)];simp only [snoc_toNat,snoc_getD,snoc_take];rw [deT (by omega),Bool.true_and];by_cases h:x.1=0
 ·rw [if_pos h,deT h,cnT,qAa (by unfold qAj; omega),qAa (by omega)]
 ·rw [if_neg h,deF h,cnF]
theorem p3_close:∀(n:Nat) (S:List Lv),S.length≤n→S.length≤1000→zam_p3 S=some (closeS S)
 | n,S,hn,hS=>by
  rcases snoc_of S with rfl | ⟨B,x,rfl⟩
  ·unfold zam_p3;refine qAq ?_;unfold qDz;rw [qAa (fun h=>by simp at h),qAa (fun h=>by simp at h),qAa (fun h=>by simp at h),qAa (fun h=>by simp at h)];rfl
  ·rw [qDo] at hn hS;have hst:=p3_step B x (by omega);rw [qFv];cases n with
   | zero=>omega
   | succ n =>
    by_cases h:x.1=0
    ·rw [if_pos h] at hst ⊢;rw [←p3_close n B (by omega) (by omega)];unfold zam_p3;exact qAy hst
    ·rw [if_neg h] at hst ⊢;unfold zam_p3;exact qAq hst
theorem p2_close (S:List Lv) (hS:S.length≤1000):zam_p2 S=some (closeS S):=by
 unfold zam_p2;rw [p3_close S.length S (Nat.le_refl _) hS];rfl
theorem p1_is (S:List Lv) (hS:S.length≤900) (kind kids:Int):zam_p1 S kind kids =
  if kind=6∨kind=7 then (if 32<S.length then some (.inl false) else some (.inr (closeS (S++[(kids,if kind=7 then some [] else none,())])))) else some (.inr (closeS S)):=by
 unfold zam_p1;by_cases h:kind=6∨kind=7
 ·have:((decide (kind=(6:Int))) || (decide (kind=(7:Int))))=true:=by simpa using h
  rw [if_pos h,this,cnT];by_cases h32:32<S.length
  ·rw [if_pos h32,deT (by omega),cnT]
  ·rw [if_neg h32,deF (by omega),cnF];by_cases h7:kind=7
   ·rw [deT h7,cnT,qAa (by simp; omega),p2_close _ (by simp; omega),if_pos h7]; rfl
   ·rw [deF h7,cnF,qAa (by simp; omega),p2_close _ (by simp; omega),if_neg h7]; rfl
 ·have:((decide (kind=(6:Int))) || (decide (kind=(7:Int))))=false:=by
   rw [Bool.or_eq_false_iff,decide_eq_false_iff_not,decide_eq_false_iff_not];omega
  rw [if_neg h,this,cnF,p2_close _ (by omega)];rfl
theorem p0_step {v:List Eng.Node} (hv:OkL v) {a:Nat} {n:Eng.Node} (hn:v[a]?=some n) (B:List Lv) (l:Int) (nm:MapC) (hB:B.length≤40) (hl : -9223372036854775807≤l∧l≤9223372036854775807) :
  qCb (v.length:Int) (a:Int) v (B++[(l,nm,())]) =
   if (pB n && !((nm.isNone && !decide (n.key=(⟨#[]⟩:BA))) || decide (0<mget nm n.key) || !Lib.validD n.key.data.toList))=true then
    (zam_p1 (B++[(l - 1,mput nm n.key 1,())]) n.kind n.kids).bind fun o=>Sum.elim (fun b=>some (.inr (.inl b))) (fun S'=>some (.inl (((a+1:Nat):Int),S'))) o
   else some (.inr (.inl false)):=by
 have hlt:=(List.getElem?_eq_some_iff.1 hn).1;have hmem:n∈v:=by
  obtain ⟨h1,h2⟩:=List.getElem?_eq_some_iff.1 hn;rw [←h2]; exact List.getElem_mem h1
 have hget:=nd_get hn;have hlen:=hv.1;have hok:=hv.2 n hmem;have hsl:∀x:Lv,(B++[x]).length=B.length+1:=qDo B;have g1:∀ {R:Type} (k:Option R) (x:Lv),gd (qAj (((B++[x]).length:Int) - 1)) k=k:=fun k x=>qAa (by unfold qAj; rw [hsl]; omega) k
 have g2:∀ {R:Type} (k:Option R) (x:Lv),gd (0≤(((B++[x]).length:Int) - 1)∧(((B++[x]).length:Int) - 1)<(B++[x]).length) k=k:=fun k x=>qAa (by rw [hsl]; omega) k
 have g3:∀ {R:Type} (k:Option R) (x:Lv),gd (B.length<(B++[x]).length) k=k:=fun k x=>qAa (by rw [hsl]; omega) k
 have g4:∀ {R:Type} (k:Option R) (x:Lv) (c:Bool),gd (c=false→B.length<(B++[x]).length) k=k:=fun k x c=>qAa (fun _=>by rw [hsl]; omega) k
 have g5:∀ {R:Type} (k:Option R),gd (qAj (l - 1)) k=k:=fun k=>qAa (by unfold qAj; omega) k
 have g6:∀ {R:Type} (k:Option R),gd (qAj ((a:Int)+1)) k=k:=fun k=>qAa (by unfold qAj; omega) k
 have hvs:qBd n.key=some (Lib.validD n.key.data.toList):=qAa (by have:=hok.key; omega) _;unfold qCb;rw [deT (by omega),cnT,qAa (by omega),qAa (by omega),deF (by rw [hsl]; omega),cnF,Int.toNat_natCast,hget,(pB_j hok).1,obS];cases hp:pB n with
 | false=>rfl
 | true =>
  simp only [Bool.not_true,cnF,snoc_toNat,snoc_getD,snoc_set,g1,g2,g3,g4,g5,hvs,obS,Bool.true_and];cases hc:((nm.isNone && !decide (n.key=(⟨#[]⟩:BA))) || decide (0<mget nm n.key) || !Lib.validD n.key.data.toList) with
  | true=>rw [cnT]; rfl
  | false =>
   rw [cnF];simp only [Bool.not_false,if_true];cases nm with
   | none =>
    simp only [Option.isSome_none,cnF,g6];rfl
   | some m =>
    simp only [Option.isSome_some,cnT,g6,qAa];rfl
noncomputable def resS (v:List Eng.Node) (a:Nat) (S:List Lv):Option Bool :=
 (zam_p0 (v.length:Int) (a:Int) v S).bind fun o=>some (Sum.elim id (fun S=>decide ((S.length:Int)=0)) o)
theorem resS_next {v:List Eng.Node} {a:Nat} {S S':List Lv} (h:qCb (v.length:Int) (a:Int) v S=some (.inl (((a+1:Nat):Int),S'))):resS v a S=resS v (a+1) S':=by
 unfold resS zam_p0;rw [qAy h]
theorem qFl {v:List Eng.Node} {a:Nat} {S:List Lv} {o:Bool ⊕ List Lv} (h:qCb (v.length:Int) (a:Int) v S=some (.inr o)):resS v a S=some (Sum.elim id (fun S=>decide ((S.length:Int)=0)) o):=by
 unfold resS zam_p0;rw [qAq h];rfl
theorem resS_end {v:List Eng.Node} {a:Nat} (S:List Lv) (h:v.length≤a):resS v a S=some (decide ((S.length:Int)=0)):=by
 refine qFl (o:=.inr S) ?_;unfold qCb;rw [deF (by omega),cnF]
structure NmR (obj:Bool) (nm:MapC) (names:List BA):Prop where
 some_:nm.isSome=obj
 mem:∀s,obj=true→(0<mget nm s↔s∈names)
theorem mfind_mset (l:List (BA × Int)) (s t:BA) (x:Int):mfind (mset l s x) t=if t=s then some x else mfind l t:=by
 induction l with
 | nil =>
  show (bif decide (t=s) then some x else none)=_;by_cases h:t=s
  ·rw [if_pos h,deT h]; rfl
  ·rw [if_neg h,deF h]; rfl
 | cons y r ih =>
  unfold mset;by_cases hs:s=y.1
  ·rw [deT hs,cnT];show (bif decide (t=s) then some x else mfind r t)=_;by_cases h:t=s
   ·rw [if_pos h,deT h]; rfl
   ·rw [if_neg h,deF h,cnF];show mfind r t=(bif decide (t=y.1) then some y.2 else mfind r t);rw [deF (by rw [←hs]; exact h),cnF]
  ·rw [deF hs,cnF];unfold mfind;rw [ih];by_cases hy:t=y.1
   ·rw [deT hy,cnT,cnT,if_neg (by rw [hy]; exact fun h=>hs h.symm)]
   ·rw [deF hy,cnF,cnF]
theorem NmR.put {obj:Bool} {nm:MapC} {names:List BA} (h:NmR obj nm names) (s:BA):NmR obj (mput nm s 1) (names++[s]):=by
 cases nm with
 | none =>
  refine ⟨h.some_,fun t ht=>?_⟩;have:=h.some_;rw [ht] at this;cases this
 | some l =>
  refine ⟨h.some_,fun t ht=>?_⟩;have h2:=h.mem t ht;show 0<(mfind (mset l s 1) t).getD 0↔_;rw [mfind_mset,List.mem_append,List.mem_singleton];by_cases hts:t=s
  ·rw [if_pos hts];exact ⟨fun _=>.inr hts,fun _=>by decide⟩
  ·rw [if_neg hts];exact ⟨fun h=>.inl (h2.1 h),fun h=>h2.2 (h.resolve_right hts)⟩
def OneSim (v:List Eng.Node) (d:Nat):Prop:=∀(B:List Lv) (l:Int) (nm:MapC) (obj:Bool) (names:List BA) (a:Nat),B.length+1+d=33→1≤l∧l≤9223372036854775807→NmR obj nm names →
 resS v a (B++[(l,nm,())])=match oneS v d obj a with
  | none=>some false
  | some e=>if obj=true∧qCg v a∈names then some false else resS v e (closeS (B++[(l - 1,mput nm (qCg v a) 1,())]))
theorem kids_sim {v:List Eng.Node} {d:Nat} (hA:OneSim v d) (B:List Lv) (obj:Bool) (hB:B.length+1+d=33):∀(k a:Nat) (nm:MapC) (names:List BA),((k+1:Nat):Int)≤9223372036854775807→NmR obj nm names →
  resS v a (B++[(((k+1:Nat):Int),nm,())])=match qD1 v (oneS v d obj) obj (k+1) a names with
   | none=>some false
   | some e=>resS v e (closeS B):=by
 have key:∀(k a:Nat) (nm:MapC) (names:List BA) (l:Int),l=(k:Int)+1→(k:Int)≤9000000000000000000+223372036854775806→NmR obj nm names →
   resS v a (B++[(l,nm,())])=match qD1 v (oneS v d obj) obj (k+1) a names with
    | none=>some false
    | some e=>resS v e (closeS B):=by
  intro k;induction k with
  | zero =>
   intro a nm names l hl hk hnm;rw [hA B _ nm obj names a hB (by omega) hnm];unfold qD1;cases ho:oneS v d obj a with
   | none=>rfl
   | some e =>
    dsimp only;by_cases hd:obj=true∧qCg v a∈names
    ·rw [if_pos hd,if_pos hd]
    ·rw [if_neg hd,if_neg hd,qFv,if_pos (by show l - 1=0; omega)];rfl
  | succ k ih =>
   intro a nm names l hl hk hnm;rw [hA B _ nm obj names a hB (by omega) hnm];unfold qD1;cases ho:oneS v d obj a with
   | none=>rfl
   | some e =>
    dsimp only;by_cases hd:obj=true∧qCg v a∈names
    ·rw [if_pos hd,if_pos hd]
    ·rw [if_neg hd,if_neg hd,qFv,if_neg (by show ¬(l - 1=0); omega)];exact ih e _ _ (l - 1) (by omega) (by omega) (hnm.put _)
 intro k a nm names hk hnm;exact key k a nm names _ (by omega) (by omega) hnm
theorem one_sim {v:List Eng.Node} (hv:OkL v):∀d:Nat,d≤32→OneSim v d:=by
 intro d;induction d with
 | zero =>
  intro hd B l nm obj names a hB hl hnm;by_cases ha:a<v.length
  ·obtain ⟨n,hn,hmem,hget⟩:=nd_some ha;have hk:qCg v a=n.key:=by unfold qCg; rw [hget]
   have hst:=p0_step hv hn B l nm (by omega) (by omega);have hpp:=(pB_j (hv.2 n hmem)).2;unfold oneS;rw [hn];dsimp only;rw [hk];have hcond:(pB n && !((nm.isNone && !decide (n.key=(⟨#[]⟩:BA))) || decide (0<mget nm n.key) || !Lib.validD n.key.data.toList))=(okB obj n && !(obj && decide (n.key∈names))):=by
    unfold okB;rw [←hnm.some_];cases hnn:nm with
    | none =>
     have:mget (none:MapC) n.key=0:=rfl;rw [this];cases pB n <;> cases Lib.validD n.key.data.toList <;> cases decide (n.key=(⟨#[]⟩:BA)) <;> rfl
    | some m =>
     have hm:=hnm.mem n.key (by rw [←hnm.some_,hnn]; rfl);rw [hnn] at hm;rw [show decide (0<mget (some m) n.key)=decide (n.key∈names) from decide_eq_decide.2 hm];cases pB n <;> cases Lib.validD n.key.data.toList <;> cases decide (n.key=(⟨#[]⟩:BA)) <;> cases decide (n.key∈names) <;> rfl
   rw [hcond] at hst;cases hok:okB obj n with
   | false =>
    rw [hok,if_neg (by simp)] at hst;rw [qFl hst,if_neg (fun h=>by cases h.1)];rfl
   | true =>
    by_cases hdup:obj=true∧n.key∈names
    ·rw [hok,if_neg (by simp [hdup.1,hdup.2])] at hst;rw [qFl hst];split <;> first | rfl | (rw [if_pos hdup]; rfl)
    ·rw [hok,if_pos (by simp only [Bool.true_and,Bool.not_eq_true',Bool.and_eq_false_iff,decide_eq_false_iff_not]; cases obj <;> simp_all),p1_is _ (by rw [qDo]; omega)] at hst
     have hpb:pB n=true:=by unfold okB at hok; simp only [Bool.and_eq_true] at hok; exact hok.1.1
     have hz:=hpp hpb;by_cases h6:n.kind<6
     ·rw [if_neg (by omega)] at hst;rw [if_pos ⟨rfl,h6⟩,resS_next hst];dsimp only;rw [if_neg hdup]
     ·rw [if_pos (by omega),if_pos (by rw [qDo]; omega)] at hst;rw [if_neg (fun h=>h6 h.2),qFl hst];rfl
  ·rw [resS_end _ (by omega),qDo];unfold oneS;rw [List.getElem?_eq_none (by omega)];dsimp only;rw [deF (by omega)]
 | succ d ih =>
  intro hd B l nm obj names a hB hl hnm;by_cases ha:a<v.length
  ·obtain ⟨n,hn,hmem,hget⟩:=nd_some ha;have hk:qCg v a=n.key:=by unfold qCg; rw [hget]
   have hst:=p0_step hv hn B l nm (by omega) (by omega);have hpp:=(pB_j (hv.2 n hmem)).2;have hki:=(hv.2 n hmem).kids;unfold qAj at hki;unfold oneS;rw [hn];dsimp only;rw [hk];have hcond:(pB n && !((nm.isNone && !decide (n.key=(⟨#[]⟩:BA))) || decide (0<mget nm n.key) || !Lib.validD n.key.data.toList))=(okB obj n && !(obj && decide (n.key∈names))):=by
    unfold okB;rw [←hnm.some_];cases hnn:nm with
    | none =>
     have:mget (none:MapC) n.key=0:=rfl;rw [this];cases pB n <;> cases Lib.validD n.key.data.toList <;> cases decide (n.key=(⟨#[]⟩:BA)) <;> rfl
    | some m =>
     have hm:=hnm.mem n.key (by rw [←hnm.some_,hnn]; rfl);rw [hnn] at hm;rw [show decide (0<mget (some m) n.key)=decide (n.key∈names) from decide_eq_decide.2 hm];cases pB n <;> cases Lib.validD n.key.data.toList <;> cases decide (n.key=(⟨#[]⟩:BA)) <;> cases decide (n.key∈names) <;> rfl
   rw [hcond] at hst;cases hok:okB obj n with
   | false =>
    rw [hok,if_neg (by simp)] at hst;rw [qFl hst,if_neg (fun h=>by cases h)];rfl
   | true =>
    rw [if_pos rfl];by_cases hdup:obj=true∧n.key∈names
    ·rw [hok,if_neg (by simp [hdup.1,hdup.2])] at hst;rw [qFl hst];split <;> first | rfl | (rw [if_pos hdup]; rfl)
    ·rw [hok,if_pos (by simp only [Bool.true_and,Bool.not_eq_true',Bool.and_eq_false_iff,decide_eq_false_iff_not]; cases obj <;> simp_all),p1_is _ (by rw [qDo]; omega)] at hst
     have hpb:pB n=true:=by unfold okB at hok; simp only [Bool.and_eq_true] at hok; exact hok.1.1
     have hz:=hpp hpb;simp only [if_neg hdup];by_cases h6:n.kind<6
     ·rw [if_neg (by omega)] at hst;rw [show n.kids.toNat=0 by omega,resS_next hst];rfl
     ·rw [if_pos (by omega),if_neg (by rw [qDo]; omega)] at hst;rw [resS_next hst,qFv];obtain ⟨kk,hkk⟩:=Int.eq_ofNat_of_zero_le hz.1;rw [hkk,show ((kk:Int)).toNat=kk from rfl];cases kk with
      | zero =>
       rw [if_pos (by rfl)];rfl
      | succ kk =>
       rw [if_neg (by show ¬((((kk+1:Nat)):Int)=0); omega)];have:=kids_sim (ih (by omega)) (B++[(l - 1,mput nm n.key 1,())]) (decide (n.kind=7)) (by rw [qDo]; omega) kk (a+1) (if n.kind=7 then some [] else none) [] (by omega)
        ⟨by by_cases h7:n.kind=7 <;> simp [h7],fun s hs=>by
         rw [if_pos (of_decide_eq_true hs)];exact ⟨fun h=>absurd (show (0:Int)<0 from h) (by decide),fun h=>(by cases h)⟩⟩
       exact this
  ·rw [resS_end _ (by omega),qDo];unfold oneS;rw [List.getElem?_eq_none (by omega)];dsimp only;rw [deF (by omega)]
theorem prog_Shaped {v:List Eng.Node} (hv:OkL v):zam_s v=some (decide (oneS v 32 false 0=some v.length)):=by
 have h0:zam_s v=resS v 0 [((1:Int),(none:MapC),())]:=by
  unfold zam_s resS;rw [show ((0:Nat):Int)=0 from rfl];congr 1
  funext o
  cases o <;> rfl
 rw [h0];have:=one_sim hv 32 (Nat.le_refl _) [] 1 none false [] 0 rfl (by omega) ⟨rfl,fun s h=>by cases h⟩;rw [List.nil_append] at this;rw [this];cases ho:oneS v 32 false 0 with
 | none=>simp
 | some e =>
  dsimp only;have he:=qDf v 32 false 0 e ho;rw [if_neg (fun h=>by cases h.1)];have hc:closeS ([]++[((1:Int) - 1,mput none (qCg v 0) 1,())])=[]:=by
   rw [qFv,if_pos (by rfl)]; rfl
  rw [hc];by_cases hl:e<v.length
  ·rw [qFl (o:=.inl false)]
   ·rw [deF (by simp; omega)]; rfl
   ·unfold qCb;rw [deT (by omega),cnT,qAa (by omega),qAa (by omega)];rfl
  ·have:e=v.length:=by omega
   rw [resS_end _ (by omega),this];simp
end Go.Proofs.YtnifdcmeffnpaaaDoor
