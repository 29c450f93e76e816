/-
  How a text is read: the document's grammar as plain functions. No program.
-/
import Derived.Shelf.Unicode.ValidAny
import Derived.Shelf.Unicode.DecodeAny
import Derived.Shelf.Lay
import Derived.Ground.NamesProg
import Derived.Test.YtdcoiccdbgcpaaaDoorEngO
import Derived.Test.YtdcoiccdbgcpaaaDoorGC
import Derived.Test.YtdcoiccdbgcpaaaDoorPShaped
import Derived.Test.YtdcoiccdbgcpaaaDoorPUtf
import Derived.Test.YtdcoiccdbgcpaaaDoorProg
namespace Go.Proofs.YtdcoiccdbgcpaaaDoor
open Go.Eng
set_option linter.unusedVariables false
set_option linter.unusedSimpArgs false
theorem p_run (s:ByteArray) (h:s.size<9223372036854775807):zac_s s=some (runS s:Int):=by
 unfold zac_s zac_p0
 rw [qCk (fun x:Int=>∃k:Nat,x=k∧k≤s.size∧manyS s k=manyS s 0) (fun x=>s.size - x.toNat) (fun _=>(manyS s 0:Int)) ?_ (x:=(0:Int)) ⟨0,rfl,by omega,rfl⟩]
 ·rfl
 rintro _ ⟨k,rfl,hk,hm⟩
 unfold zac_p0_step
 have key:((decide ((k:Int)<(s.size:Int)) && decide ((48:Int)≤bAt s k)) && decide (bAt s k≤57))=digS s k:=by
  unfold digS
  by_cases hlt:(k:Int)<s.size
  ·simp [hlt]
  ·have:=qBg hlt
   simp [hlt,this]
 rw [key]
 cases hd:digS s k with
 | true =>
  left
  have hlt:=qD0 hd
  refine ⟨((k+1:Nat):Int),?_,⟨k+1,rfl,by omega,by rw [←hm,qCo hd]⟩,by omega,rfl⟩
  refine (qAa (fun _=>by omega) _).trans ?_
  refine (qAa (fun _=>by omega) _).trans ?_
  refine (qAa (by unfold InI64; omega) _).trans ?_
  rfl
 | false =>
  right
  refine (qAa (fun h=>by have:=of_decide_eq_true h; omega) _).trans ?_
  refine (qAa (fun h=>by have:=of_decide_eq_true (Bool.and_eq_true _ _ ▸ h).1; omega) _).trans ?_
  show some (Sum.inr (k:Int))=_
  rw [←hm,qDm hd]
theorem p_trimL1 (s:ByteArray) (b:Int):zcc_s s b=some (trimL s b):=by
 unfold zcc_s zcc_p0
 rw [qCk (fun x:ByteArray=>∃k:Nat,x=s.extract k s.size∧k≤s.size∧leadB s b k=leadB s b 0) (fun x=>x.size) (fun _=>trimL s b) ?_ ⟨0,(all_of s).symm,by omega,rfl⟩]
 ·rfl
 rintro _ ⟨k,rfl,hk,hm⟩
 unfold zcc_p0_step
 have hz:=qBz s k
 have hb:=bAt_tail s k 0 (by omega)
 simp only [Int.add_zero] at hb
 rw [hb]
 by_cases hq:k<s.size∧bAt s k=b
 ·left
  refine ⟨s.extract (k+1) s.size,?_,⟨k+1,rfl,by omega,by rw [←hm,leadB_yes hq]⟩,by rw [qBz,qBz]; omega,rfl⟩
  refine (qAa (fun _=>by omega) _).trans ?_
  have:(decide ((0:Int)<((s.extract k s.size).size:Int)) && decide (bAt s k=b))=true:=by simp only [Bool.and_eq_true,decide_eq_true_eq]; exact ⟨by omega,hq.2⟩
  rw [this,cnT]
  refine (qAa (by omega) _).trans ?_
  rw [qEx]
 ·right
  refine (qAa (fun h=>by have:=of_decide_eq_true h; omega) _).trans ?_
  have:(decide ((0:Int)<((s.extract k s.size).size:Int)) && decide (bAt s k=b))=false:=by
   rw [Bool.and_eq_false_iff,decide_eq_false_iff_not,decide_eq_false_iff_not]
   by_cases h1:k<s.size
   ·exact .inr fun h=>hq ⟨h1,h⟩
   ·exact .inl (by omega)
  rw [this,cnF,trimL,←hm,leadB_no hq]
theorem p_trimR1 (s:ByteArray) (b:Int) (h:s.size<9223372036854775807):zcd_s s b=some (trimR s b):=by
 unfold zcd_s zcd_p0
 rw [qCk (fun x:ByteArray=>∃k:Nat,x=s.extract 0 k∧k≤s.size∧backB s b k=backB s b s.size) (fun x=>x.size) (fun _=>trimR s b) ?_ ⟨s.size,(all_of s).symm,by omega,rfl⟩]
 ·rfl
 rintro _ ⟨k,rfl,hk,hm⟩
 unfold zcd_p0_step
 have hz:(s.extract 0 k).size=k:=by rw [ByteArray.size_extract]; omega
 simp only [hz]
 cases k with
 | zero =>
  right
  refine (qAa (fun h=>by simp at h) _).trans ?_
  refine (qAa (fun h=>by simp at h) _).trans ?_
  rw [trimR,←hm]
  rfl
 | succ n =>
  have hb:bAt (s.extract 0 (n+1)) (((n+1:Nat):Int) - 1)=bAt s n:=by
   rw [bAt_extract s 0 (n+1) _ (by omega) (by omega)]
   congr 1
   omega
  rw [hb]
  have e0:decide ((0:Int)<((n+1:Nat):Int))=true:=by simp only [decide_eq_true_eq]; omega
  rw [e0]
  by_cases hq:bAt s n=b
  ·left
   refine ⟨s.extract 0 n,?_,⟨n,rfl,by omega,by rw [←hm]; show _=backB s b (n+1); rw [backB,if_pos hq]⟩,by rw [ByteArray.size_extract]; omega,trivial⟩
   refine (qAa (fun _=>by unfold InI64; omega) _).trans ?_
   refine (qAa (fun _=>by omega) _).trans ?_
   have:(true && decide (bAt s n=b))=true:=by simp [hq]
   rw [this,cnT]
   refine (qAa (by unfold InI64; omega) _).trans ?_
   refine (qAa (by omega) _).trans ?_
   rw [show Int.toNat (((n+1:Nat):Int) - 1)=n by omega,ByteArray.extract_extract]
   congr 3
   omega
  ·right
   refine (qAa (fun _=>by unfold InI64; omega) _).trans ?_
   refine (qAa (fun _=>by omega) _).trans ?_
   have:(true && decide (bAt s n=b))=false:=by simp [hq]
   rw [this,cnF,trimR,←hm,backB,if_neg hq]
theorem p_trimL (s:ByteArray):zca_s s (⟨#[48]⟩:ByteArray)=some (trimL s 48):=by
 unfold zca_s
 have h1:decide ((⟨#[48]⟩:ByteArray)=(⟨#[]⟩:ByteArray))=false:=by decide
 rw [h1,Bool.or_false]
 by_cases he:s=⟨#[]⟩
 ·rw [deT he,cnT]
  congr 1
  have:=eq_none.1 he
  unfold trimL
  rw [he]
  refine (eq_none.2 ?_).symm
  rw [ByteArray.size_extract]
  have:(⟨#[]⟩:ByteArray).size=0:=rfl
  omega
 ·rw [deF he,cnF]
  refine (qAa (fun _=>by decide) _).trans ?_
  have h2:(decide (((⟨#[48]⟩:ByteArray).size:Int)=1) && decide (bAt (⟨#[48]⟩:ByteArray) 0<128))=true:=by decide
  rw [h2,cnT]
  refine (qAa (by decide) _).trans ?_
  rw [show bAt (⟨#[48]⟩:ByteArray) 0=48 by decide,p_trimL1]
  rfl
theorem p_trimR (s:ByteArray) (h:s.size<9223372036854775807):zcb_s s (⟨#[48]⟩:ByteArray)=some (trimR s 48):=by
 unfold zcb_s
 have h1:decide ((⟨#[48]⟩:ByteArray)=(⟨#[]⟩:ByteArray))=false:=by decide
 rw [h1,Bool.or_false]
 by_cases he:s=⟨#[]⟩
 ·rw [deT he,cnT]
  congr 1
  have:=eq_none.1 he
  unfold trimR
  rw [he]
  refine (eq_none.2 ?_).symm
  rw [ByteArray.size_extract]
  have:(⟨#[]⟩:ByteArray).size=0:=rfl
  omega
 ·rw [deF he,cnF]
  refine (qAa (fun _=>by decide) _).trans ?_
  have h2:(decide (((⟨#[48]⟩:ByteArray).size:Int)=1) && decide (bAt (⟨#[48]⟩:ByteArray) 0<128))=true:=by decide
  rw [h2,cnT]
  refine (qAa (by decide) _).trans ?_
  rw [show bAt (⟨#[48]⟩:ByteArray) 0=48 by decide,p_trimR1 s 48 h]
  rfl
theorem p_cut (s p:ByteArray):zbz_s s p=some (cutPre s p,hasPre s p):=by
 unfold zbz_s zad_s zae_s
 rw [qAa (fun h=>by have:=of_decide_eq_true h; omega)]
 have e:(decide ((p.size:Int)≤(s.size:Int)) && decide (s.extract 0 (Int.toNat (p.size:Int))=p))=hasPre s p:=by
  simp only [hasPre,Int.ofNat_le,Int.toNat_natCast]
 rw [e]
 simp only [obS]
 unfold cutPre
 cases h:hasPre s p with
 | true =>
  have:=hasPre_le h
  simp only [Bool.not_true,cnF,if_true]
  rw [qAa (by omega)]
  simp only [obS,Int.toNat_natCast]
 | false=>simp
def num (n:PNum):decimal_number:=⟨n.minus,n.int,n.digits,n.off,n.plain,n.down,n.exp⟩
theorem hasPre_45 (s:ByteArray):hasPre s (⟨#[45]⟩:ByteArray)=decide (bAt s 0=45):=hasPre_one rfl
theorem hasPre_46 (s:ByteArray):hasPre s (⟨#[46]⟩:ByteArray)=decide (bAt s 0=46):=hasPre_one rfl
theorem cut_45 (s:ByteArray):cutPre s (⟨#[45]⟩:ByteArray)=s.extract (atA s) s.size:=by
 unfold cutPre atA
 rw [hasPre_45]
 by_cases h:bAt s 0=45
 ·simp only [h,decide_true,if_true]; rfl
 ·simp only [h,decide_false,if_false,Bool.false_eq_true,all_of]
theorem or32 {b:Int} (h0:0≤b) (h1:b≤255):decide (bitOr .u8 b 32=101)=(decide (b=101) || decide (b=69)):=by
 have key:∀n:Fin 256,decide (bitOr .u8 (n.val:Int) 32=101)=(decide ((n.val:Int)=101) || decide ((n.val:Int)=69)):=by decide +kernel
 have:=key ⟨b.toNat,by omega⟩
 simpa [Int.toNat_of_nonneg h0] using this
section
variable (s:ByteArray) (hsz:s.size<4000000000000000000)
include hsz
theorem p_read0:zab_p0 (s.extract (atA s) s.size)=some (if badA s=true then .inl false else .inr (s.extract (atB s) s.size,s.extract (atA s) (atB s))):=by
 have hA:=atA_le s
 have hAB:=atA_le_atB s
 have hB:=atB_le s
 have hr:runS (s.extract (atA s) s.size)=atB s - atA s:=runS_tail s (atA s)
 have hz:=qBz s (atA s)
 have hb0:=bAt_tail s (atA s) 0 (by omega)
 simp only [Int.add_zero] at hb0
 unfold zab_p0
 rw [p_run _ (by omega),obS]
 refine (qAa (fun h _=>by have:=of_decide_eq_true h; omega) _).trans ?_
 have hbad:badA s=(decide ((runS (s.extract (atA s) s.size):Int)=0) || decide (1<(runS (s.extract (atA s) s.size):Int)) && decide (bAt (s.extract (atA s) s.size) 0=48)):=by
  rw [hr,hb0]
  unfold badA
  rw [Bool.and_comm]
  congr 1
  ·rw [decide_eq_decide]; omega
  ·congr 1
   rw [decide_eq_decide]; omega
 rw [←hbad]
 cases hbd:badA s with
 | true=>rfl
 | false =>
  simp only [cnF]
  refine (qAa (by omega) _).trans ?_
  refine (qAa (by omega) _).trans ?_
  rw [hr,Int.toNat_natCast,head_tail,qEx,show atA s+(atB s - atA s)=atB s by omega,show min (atB s) s.size=atB s by omega]
  rfl
theorem p_read1:zab_p1 (s.extract (atB s) s.size) (⟨#[]⟩:ByteArray) true=some (if (dotS s && decide (atK s=atB s+1))=true then .inl false else .inr (s.extract (atC s) s.size,fracS s,!dotS s)):=by
 have hb0:=bAt_tail s (atB s) 0 (by omega)
 simp only [Int.add_zero] at hb0
 have hdot:decide (bAt (s.extract (atB s) s.size) 0=46)=dotS s:=by rw [hb0]; rfl
 have hz:=qBz s (atB s)
 unfold zab_p1
 rw [p_cut,obS]
 simp only [hasPre_46,hdot]
 cases hd:dotS s with
 | false=>simp [fracS,atC,hd]
 | true =>
  have hBl:=atB_lt hd
  have hKl:=atK_le hd
  have hKg:=atK_ge s
  have hcp:cutPre (s.extract (atB s) s.size) ⟨#[46]⟩=s.extract (atB s+1) s.size:=by
   unfold cutPre
   rw [hasPre_46,hdot,hd]
   exact qEx s (atB s) 1
  have hr:runS (s.extract (atB s+1) s.size)=atK s - (atB s+1):=runS_tail s (atB s+1)
  have hz1:=qBz s (atB s+1)
  simp only [hcp,cnT]
  rw [p_run _ (by omega),obS]
  have hq:decide ((runS (s.extract (atB s+1) s.size):Int)=0)=decide (atK s=atB s+1):=by rw [hr,decide_eq_decide]; omega
  rw [hq]
  cases hk:decide (atK s=atB s+1) with
  | true=>rfl
  | false =>
   simp only [cnF]
   refine (qAa (by omega) _).trans ?_
   refine (qAa (by omega) _).trans ?_
   rw [hr,Int.toNat_natCast,head_tail,qEx,show atB s+1+(atK s - (atB s+1))=atK s by omega,show min (atK s) s.size=atK s by omega]
   simp [fracS,atC,hd]
theorem p_read3 (he:expS s=true):zab_p3 (s.extract (atE s) s.size)=some (if badE s=true then .inl false else .inr ((⟨#[]⟩:ByteArray),false,(progS s).exp)):=by
 have hEl:=atE_le he
 have hFl:=atF_le he
 have hFg:=atF_ge s
 have hr:runS (s.extract (atE s) s.size)=atF s - atE s:=runS_tail s (atE s)
 have hz2:=qBz s (atE s)
 have hne2:=tail_none s (atE s)
 unfold zab_p3
 by_cases hn:s.extract (atE s) s.size=⟨#[]⟩
 ·have:badE s=true:=by simp [badE,he,hne2.1 hn]
  rw [deT hn,this]
  rfl
 ·rw [deF hn,cnF,p_run _ (by omega),obS,hr,hz2]
  have hle:¬s.size≤atE s:=fun h=>hn (hne2.2 h)
  have hbe:(!decide (((atF s - atE s:Nat):Int)=((s.size - atE s:Nat):Int)))=badE s:=by
   unfold badE
   rw [he,Bool.true_and,deF hle,Bool.false_or,←decide_not,decide_eq_decide]
   omega
  rw [hbe]
  cases hb:badE s with
  | true=>rfl
  | false =>
   simp only [cnF]
   rw [p_trimL,obS]
   simp [progS,he,expT]
theorem p_read2 (pl:Bool):zab_p2 (s.extract (atC s) s.size) pl false (⟨#[]⟩:ByteArray)=some (if badE s=true then .inl (false,expS s && decide (bAt s (atC s+1)=45)) else .inr (if expS s=true then ⟨#[]⟩ else s.extract (atC s) s.size,pl && !expS s,expS s && decide (bAt s (atC s+1)=45),(progS s).exp)):=by
 have hC:=atC_le s
 have hb0:=bAt_tail s (atC s) 0 (by omega)
 simp only [Int.add_zero] at hb0
 have hz:=qBz s (atC s)
 have hrg:=qCh s (atC s)
 have hne:=tail_none s (atC s)
 have hexp:(!decide (s.extract (atC s) s.size=⟨#[]⟩) && decide (bitOr .u8 (bAt (s.extract (atC s) s.size) 0) 32=101))=expS s:=by
  unfold expS
  rw [hb0]
  by_cases he:s.size≤atC s
  ·have:bAt s (atC s) = -1:=qBg (by omega)
   simp [hne.2 he,this]
  ·have hn:¬s.extract (atC s) s.size=⟨#[]⟩:=fun e=>he (hne.1 e)
   have h0:0≤bAt s (atC s):=bAt_nn (by omega) (by omega)
   rw [or32 h0 hrg.2]
   simp [hn]
 unfold zab_p2
 refine (qAa (fun h=>by
  have:¬s.size≤atC s:=fun h'=>by simp [hne.2 h'] at h
  omega) _).trans ?_
 rw [hexp]
 cases he:expS s with
 | false=>simp [progS,he,badE]
 | true =>
  have hCl:=atC_lt he
  have hEl:=atE_le he
  have hb1:=bAt_tail s (atC s+1) 0 (by omega)
  simp only [Int.add_zero] at hb1
  have hz1:=qBz s (atC s+1)
  have hne1:=tail_none s (atC s+1)
  have htt:(s.extract (atC s) s.size).extract 1 (s.extract (atC s) s.size).size=s.extract (atC s+1) s.size:=qEx s (atC s) 1
  simp only [cnT]
  refine (qAa (by omega) _).trans ?_
  simp only [htt]
  refine (qAa (fun h=>by
   have:¬s.size≤atC s+1:=fun h'=>by simp [hne1.2 h'] at h
   omega) _).trans ?_
  refine (qAa (fun _ h=>by
   have:¬s.size≤atC s+1:=fun h'=>by simp [hne1.2 h'] at h
   omega) _).trans ?_
  have hsg:(!decide (s.extract (atC s+1) s.size=⟨#[]⟩) && (decide (bAt (s.extract (atC s+1) s.size) 0=43) || decide (bAt (s.extract (atC s+1) s.size) 0=45)))=sgnS s:=by
   unfold sgnS
   rw [hb1]
   by_cases h:s.size≤atC s+1
   ·have:bAt s ((atC s+1:Nat):Int) = -1:=qBg (by omega)
    have h2:bAt s ((atC s:Int)+1) = -1:=by rw [←this]; rfl
    simp [hne1.2 h,h2]
   ·have hn:¬s.extract (atC s+1) s.size=⟨#[]⟩:=fun e=>h (hne1.1 e)
    simp [hn]
  rw [hsg]
  cases hs:sgnS s with
  | false =>
   have hnd:¬bAt s ((atC s:Int)+1)=45:=fun e=>by simp [sgnS,e] at hs
   have hE:s.extract (atC s+1) s.size=s.extract (atE s) s.size:=by simp [atE,hs]
   simp only [cnF]
   rw [hE,p_read3 s hsz he,obS]
   cases badE s <;> simp [hnd]
  | true =>
   have hsl:=sgn_lt hs
   have hE:(s.extract (atC s+1) s.size).extract 1 (s.extract (atC s+1) s.size).size=s.extract (atE s) s.size:=by rw [qEx]; simp [atE,hs]
   have hb1':bAt (s.extract (atC s+1) s.size) 0=bAt s ((atC s:Int)+1):=hb1
   simp only [cnT]
   refine (qAa (by omega) _).trans ?_
   refine (qAa (by omega) _).trans ?_
   rw [hE,p_read3 s hsz he,obS,hb1']
   cases badE s <;> simp
theorem p_read4:zab_p4 (if expS s=true then ⟨#[]⟩ else s.extract (atC s) s.size) (fracS s) (s.extract (atA s) (atB s)) (expS s && decide (bAt s (atC s+1)=45)) (progS s).exp=some (expS s || decide (s.size≤atC s),(progS s).digits,(progS s).off,(progS s).down):=by
 have hne:=tail_none s (atC s)
 have hi:(s.extract (atA s) (atB s)).size≤s.size:=by rw [ByteArray.size_extract]; omega
 have hfr:(fracS s).size≤s.size:=by
  unfold fracS
  split
  ·rw [ByteArray.size_extract]; omega
  ·exact Nat.zero_le _
 have hap:(s.extract (atA s) (atB s)++fracS s).size=(s.extract (atA s) (atB s)).size+(fracS s).size:=ByteArray.size_append
 have htl:(trimL (s.extract (atA s) (atB s)++fracS s) 48).size≤(s.extract (atA s) (atB s)++fracS s).size:=by rw [trimL,ByteArray.size_extract]; omega
 have hrest:decide ((if expS s=true then ⟨#[]⟩ else s.extract (atC s) s.size)=(⟨#[]⟩:ByteArray))=(expS s || decide (s.size≤atC s)):=by
  cases he:expS s
  ·simp [hne]
  ·simp
 have hdn:(progS s).down=(expS s && decide (bAt s (atC s+1)=45) && !decide ((progS s).exp=⟨#[]⟩)):=by
  cases he:expS s
  ·simp [progS,he]
  ·simp [progS,he]
 unfold zab_p4
 refine (qAa (by omega) _).trans ?_
 rw [p_trimL,obS]
 refine (qAa (by unfold InI64; omega) _).trans ?_
 refine (qAa (by unfold InI64; omega) _).trans ?_
 rw [p_trimR _ (by omega),obS,hrest,hdn]
 cases decide ((progS s).exp=⟨#[]⟩) <;> simp [progS]
theorem p_readA (m:Bool) (hm:m=decide (bAt s 0=45)):((zab_p0 (s.extract (atA s) s.size)).bind fun o3=>(Sum.elim (fun (o3_0:Bool) =>
   some ((⟨m,(⟨#[]⟩:ByteArray),(⟨#[]⟩:ByteArray),(0:Int),true,false,(⟨#[]⟩:ByteArray)⟩:decimal_number),o3_0)) (fun (o3_1:ByteArray × ByteArray) =>
   (zab_p1 o3_1.1 (⟨#[]⟩:ByteArray) true).bind fun o6=>(Sum.elim (fun (o6_0:Bool) =>
    some ((⟨m,o3_1.2,(⟨#[]⟩:ByteArray),(0:Int),true,false,(⟨#[]⟩:ByteArray)⟩:decimal_number),o6_0)) (fun (o6_1:ByteArray × ByteArray × Bool) =>
    (zab_p2 o6_1.1 o6_1.2.2 false (⟨#[]⟩:ByteArray)).bind fun o11=>(Sum.elim (fun (o11_0:Bool × Bool) =>
     some ((⟨m,o3_1.2,(⟨#[]⟩:ByteArray),(0:Int),o6_1.2.2,o11_0.2,(⟨#[]⟩:ByteArray)⟩:decimal_number),o11_0.1)) (fun (o11_1:ByteArray × Bool × Bool × ByteArray) =>
     (zab_p4 o11_1.1 o6_1.2.1 o3_1.2 o11_1.2.2.1 o11_1.2.2.2).bind fun o14 =>
     some ((⟨m,o3_1.2,o14.2.1,o14.2.2.1,o11_1.2.1,o14.2.2.2,o11_1.2.2.2⟩:decimal_number),o14.1))) o11)) o6)) o3)=some (num (qDs s),qBt s):=by
 subst hm
 rw [p_read0 s hsz,obS]
 cases hbd:badA s with
 | true =>
  have hro:qBt s=false:=by simp [qBt,hbd]
  rw [progAll_1 hbd,hro]
  rfl
 | false =>
  simp only [Bool.false_eq_true,if_false,Sum.elim_inr]
  rw [p_read1 s hsz,obS]
  cases hdk:(dotS s && decide (atK s=atB s+1)) with
  | true =>
   have hro:qBt s=false:=by simp only [qBt,hbd,hdk,Bool.not_true,Bool.not_false,Bool.and_false,Bool.false_and]
   rw [progAll_2 hbd hdk,hro]
   rfl
  | false =>
   simp only [Bool.false_eq_true,if_false,Sum.elim_inr]
   rw [p_read2 s hsz,obS]
   cases hbe:badE s with
   | true =>
    have hro:qBt s=false:=by
     rw [←progOk_eq]
     simp [progOk,hbe]
    rw [progAll_3 hbd hdk hbe,hro]
    rfl
   | false =>
    have hro:qBt s=(expS s || decide (s.size≤atC s)):=by
     rw [←progOk_eq]
     simp only [progOk,hbd,hdk,hbe,Bool.not_false,Bool.true_and]
    simp only [Bool.false_eq_true,if_false,Sum.elim_inr]
    rw [p_read4 s hsz,obS,progAll_4 hbd hdk hbe,hro]
    rfl
theorem p_read:zab_s s 0=some (num (qDs s),qBt s):=by
 unfold zab_s
 rw [deT rfl,cnT,p_cut,obS,hasPre_45,cut_45]
 exact p_readA s hsz _ rfl
end
end Go.Proofs.YtdcoiccdbgcpaaaDoor
namespace Go.Proofs.YtdcoiccdbgcpaaaDoor
open Go.Eng
set_option linter.unusedVariables false
set_option linter.unusedSimpArgs false
theorem tdiv_neg (x:Int) (h:0≤x):Int.tdiv (-x) 10 = -(x / 10):=by
 rw [Int.neg_tdiv,Int.tdiv_eq_ediv_of_nonneg h]
theorem whole_pair (t:ByteArray) (hs:t.size≤3000000):∀(j i:Nat) (v:Int),i+j=t.size→0≤v∧v≤9223372036854775808 →
  (zaa_p0 v (t.size:Int) (i:Int) t=some (.inl (0,false))∧zbd_p0 (-v) (i:Int) t=some (.inl (0,false))) ∨
  (∃u:Int,(0≤u∧u≤9223372036854775808)∧zaa_p0 v (t.size:Int) (i:Int) t=some (.inr u)∧zbd_p0 (-v) (i:Int) t=some (.inr (-u)))
 | 0,i,v,h,hv=>by
  refine .inr ⟨v,hv,?_,?_⟩
  ·unfold zaa_p0
   refine qAm ?_
   unfold qC5
   dsimp only
   rw [deF (by omega),cnF]
  ·unfold zbd_p0
   refine qAm ?_
   unfold qCz
   dsimp only
   rw [deF (by omega),cnF]
 | j+1,i,v,h,hv=>by
  obtain ⟨d,hd⟩:∃d,d=(bAt t i - 48) % 256:=⟨_,rfl⟩
  have hd2:0≤d∧d<256:=by omega
  have hq:Int.tdiv (-9223372036854775808+d) 10 = -((9223372036854775808 - d) / 10):=by
   rw [show (-9223372036854775808+d) = -(9223372036854775808 - d) by omega]
   exact tdiv_neg _ (by omega)
  have e1:(9223372036854775808 - d % 18446744073709551616) % 18446744073709551616=9223372036854775808 - d:=by omega
  have s1:qC5 v (t.size:Int) (i:Int) t=if (9223372036854775808 - d) / 10<v then some (.inr (.inl (0,false))) else some (.inl (10*v+d,((i+1:Nat):Int))):=by
   unfold qC5
   rw [←hd,deT (by omega),cnT]
   refine (qAa (by omega) _).trans ?_
   rw [e1]
   refine (qAa (by omega) _).trans ?_
   by_cases hl:(9223372036854775808 - d) / 10<v
   ·rw [deT hl,cnT,if_pos hl]
   ·rw [deF hl,cnF,if_neg hl]
    refine (qAa (by unfold InI64; omega) _).trans ?_
    rw [show (10*v % 18446744073709551616+d % 18446744073709551616) % 18446744073709551616=10*v+d by omega]
    rfl
  have s2:qCz (-v) (i:Int) t=if (9223372036854775808 - d) / 10<v then some (.inr (.inl (0,false))) else some (.inl (-(10*v+d),((i+1:Nat):Int))):=by
   unfold qCz
   rw [←hd,deT (by omega),cnT]
   refine (qAa (by omega) _).trans ?_
   refine (qAa (by unfold InI64; omega) _).trans ?_
   refine (qAa (by unfold InI64; omega) _).trans ?_
   refine (qAa ⟨by decide,by unfold InI64; omega⟩ _).trans ?_
   rw [hq]
   by_cases hl:(9223372036854775808 - d) / 10<v
   ·rw [deT (by omega),cnT,if_pos hl]
   ·rw [deF (by omega),cnF,if_neg hl]
    refine (qAa (by unfold InI64; omega) _).trans ?_
    refine (qAa (by unfold InI64; omega) _).trans ?_
    refine (qAa (by unfold InI64; omega) _).trans ?_
    rw [show 10 * -v - d = -(10*v+d) by omega]
    rfl
  by_cases hl:(9223372036854775808 - d) / 10<v
  ·rw [if_pos hl] at s1 s2
   refine .inl ⟨?_,?_⟩
   ·unfold zaa_p0
    exact qAm s1
   ·unfold zbd_p0
    exact qAm s2
  ·rw [if_neg hl] at s1 s2
   have ih:=whole_pair t hs j (i+1) (10*v+d) (by omega) (by omega)
   have w1:zaa_p0 v (t.size:Int) (i:Int) t=zaa_p0 (10*v+d) (t.size:Int) ((i+1:Nat):Int) t:=by
    unfold zaa_p0
    exact qAx s1
   have w2:zbd_p0 (-v) (i:Int) t=zbd_p0 (-(10*v+d)) ((i+1:Nat):Int) t:=by
    unfold zbd_p0
    exact qAx s2
   rw [w1,w2]
   exact ih
theorem whole_eq (s:ByteArray) (hs:s.size≤3000000):∃r,zaa_s s=some r∧zbd_s s=some r:=by
 unfold zaa_s zbd_s
 rw [p_read s (by omega),p_Read s (by omega),obS,obS]
 cases hr:qBt s with
 | false=>exact ⟨(0,false),rfl,rfl⟩
 | true =>
  rw [progAll_ok hr,readAll_ok hr]
  have hp:(num (progS s)).plain=(rnum (readS s)).plain:=rfl
  simp only [Bool.not_true,Bool.false_or]
  rw [hp]
  cases hpl:(rnum (readS s)).plain with
  | false=>exact ⟨(0,false),rfl,rfl⟩
  | true =>
   simp only [Bool.not_true,cnF]
   have ht:(num (progS s)).whole=(rnum (readS s)).text:=rfl
   have hm:(num (progS s)).minus=(rnum (readS s)).minus:=rfl
   rw [ht,hm]
   have hz:(rnum (readS s)).text.size≤3000000:=by
    show (s.extract _ _).size≤_
    rw [ByteArray.size_extract]; omega
   have:=whole_pair (rnum (readS s)).text hz (rnum (readS s)).text.size 0 0 (by omega) (by omega)
   rw [show (-0:Int)=0 from rfl,show ((0:Nat):Int)=0 from rfl] at this
   rcases this with ⟨h1,h2⟩ | ⟨u,hu,h1,h2⟩
   ·exact ⟨(0,false),by rw [h1]; rfl,by rw [h2]; rfl⟩
   ·rw [h1,h2,obS,obS]
    simp only [Sum.elim_inr]
    cases (rnum (readS s)).minus with
    | true =>
     refine ⟨(-u,true),?_,rfl⟩
     simp only [Bool.not_true,Bool.false_and,cnF,cnT]
     unfold w64
     rw [IntKind.wrap_i64]
     congr 2
     omega
    | false =>
     simp only [Bool.not_false,Bool.true_and,cnF]
     by_cases h0:u=9223372036854775808
     ·refine ⟨(0,false),?_,?_⟩
      ·rw [deT h0,cnT]
      ·rw [deT (by omega),cnT]
     ·refine ⟨(u,true),?_,?_⟩
      ·rw [deF h0,cnF]
       unfold w64
       rw [IntKind.wrap_i64]
       congr 2
       omega
      ·rw [deF (by omega),cnF]
       refine (qAa (by unfold InI64; omega) _).trans ?_
       rw [show 0 - -u=u by omega]
end Go.Proofs.YtdcoiccdbgcpaaaDoor
namespace Go.Proofs
open Go.Shelf
shelf_lay Lays.n196 Nm 196 at Tryd as Tryd.laysValid
shelf_lay Lays.n197 Nm 197 at Tryd as Tryd.laysDecode
end Go.Proofs
namespace Go.Proofs.YtdcoiccdbgcpaaaDoor
open Go.Eng
set_option linter.unusedVariables false
set_option linter.unusedSimpArgs false
theorem stays_below {w w':World} (h:Go.RowKit.Below w.heap.size w w'):Stays (fun _=>False) w w':=⟨h.os,h.output,h.size,fun k hk _=>h.block k hk⟩
theorem given_cont {α β γ:Type} {A:Dec α (List SV)} {B:Dec β (List SB)} (f:α→Option γ) (v:γ→SV) (args:List SV) (hp:List SB) (R:Type) (k:SV→List SB→Option R) :
  ((Dec.d A args).bind fun x=>(Dec.d B hp).bind fun y=>(f x).bind fun r=>k (v r) [])=(((Dec.d A args).bind fun x=>(Dec.d B hp).bind fun y=>(f x).bind fun r=>some (v r,([]:List SB))):Option (SV × List SB)).bind fun z=>k z.1 z.2:=by
 cases Dec.d A args with
 | none=>rfl
 | some x =>
  cases Dec.d B hp with
  | none=>rfl
  | some y=>simp only [obS,Option.bind_assoc]
def utf8_da:=(dCons (dVC (dCO dS)) dNil)
def utf8_db:=(dNil:Dec Unit (List SB))
noncomputable def qA4 (s:ByteArray):Option (Int × Int):=some (((Lib.decodeGo s).1:Int),((Lib.decodeGo s).2:Int))
noncomputable def qCg:CS:=fun args hp R k=>(Dec.d utf8_da args).bind fun x=>(Dec.d utf8_db hp).bind fun y=>(qA4 x.1).bind fun r=>k (.tup [.o (.val (.int .i32 r.1)),.o (.val (.int .i64 r.2))]) []
theorem qDr:qAj Tryd.prog 194 qCg:=by
 refine ⟨fun args hp R k=>given_cont (A:=utf8_da) (B:=utf8_db) (fun x=>qA4 x.1) (fun r=>.tup [.o (.val (.int .i32 r.1)),.o (.val (.int .i64 r.2))]) args hp R k,fun args hp v hp' hC hlt X w ρ hhp=>?_⟩
 obtain ⟨x,h1,h2⟩:=Option.bind_eq_some_iff.1 hC
 obtain ⟨y,h3,h4⟩:=Option.bind_eq_some_iff.1 h2
 obtain ⟨r,h5,h6⟩:=Option.bind_eq_some_iff.1 h4
 rw [Dec.ok _ _ _ h1]
 have hhp':=Dec.ok _ _ _ h3
 obtain ⟨s,u⟩:=x
 simp only [qA4,snJ,Prod.mk.injEq] at h6 h5
 obtain ⟨rfl,rfl⟩:=h6
 subst h5
 rw [hhp'] at hhp ⊢
 refine (Any.utf8_DecodeRuneInString Tryd.laysDecode s w hhp.tab.1).mono ?_
 rintro e w' ⟨rfl,hb⟩
 obtain ⟨g1,g2⟩:=hhp.past ⟨rfl,rfl,Nat.le_refl _,fun k _ _=>rfl⟩ (stays_below hb)
 exact ⟨ρ,fun _ _=>rfl,Nat.le_refl _,rfl,fun c hc=>by simp only [List.mem_cons,List.not_mem_nil,or_false] at hc; rcases hc with rfl | rfl <;> trivial,g1,g2⟩
noncomputable def qCf:CQ:=liftV [] qCg
theorem qD3:qAe Tryd.prog 194 qCf:=qAs qDr
noncomputable def qBj (s:ByteArray):Option Bool:=gd (s.size≤9223372036854775807) (some (fullS s))
noncomputable def qCs:CS:=fun args hp R k=>(Dec.d utf8_da args).bind fun x=>(Dec.d utf8_db hp).bind fun y=>(qBj x.1).bind fun r=>k (.c (.o (.val (.bool r)))) []
theorem qEi:qAj Tryd.prog 195 qCs:=by
 refine ⟨fun args hp R k=>given_cont (A:=utf8_da) (B:=utf8_db) (fun x=>qBj x.1) (fun r=>.c (.o (.val (.bool r)))) args hp R k,fun args hp v hp' hC hlt X w ρ hhp=>?_⟩
 obtain ⟨x,h1,h2⟩:=Option.bind_eq_some_iff.1 hC
 obtain ⟨y,h3,h4⟩:=Option.bind_eq_some_iff.1 h2
 obtain ⟨r,h5,h6⟩:=Option.bind_eq_some_iff.1 h4
 obtain ⟨hi,h7⟩:=gd_some.1 h5
 rw [Dec.ok _ _ _ h1]
 have hhp':=Dec.ok _ _ _ h3
 obtain ⟨s,u⟩:=x
 simp only [snJ,Prod.mk.injEq] at h6 h7
 obtain ⟨rfl,rfl⟩:=h6
 simp only at hi
 subst h7
 rw [hhp'] at hhp ⊢
 refine (full_run s w hi hhp.tab.1).mono ?_
 rintro e w' ⟨rfl,hb⟩
 obtain ⟨g1,g2⟩:=hhp.past ⟨rfl,rfl,Nat.le_refl _,fun k _ _=>rfl⟩ (stays_below hb)
 exact ⟨ρ,fun _ _=>rfl,Nat.le_refl _,rfl,trivial,g1,g2⟩
noncomputable def qCp:CQ:=liftV [] qCs
theorem qEl:qAe Tryd.prog 195 qCp:=qAs qEi
end Go.Proofs.YtdcoiccdbgcpaaaDoor
namespace Go.Proofs.YtdcoiccdbgcpaaaDoor
open Go.Eng
set_option linter.unusedVariables false
set_option linter.unusedSimpArgs false
set_option maxRecDepth 100000
end Go.Proofs.YtdcoiccdbgcpaaaDoor
namespace Go.Proofs.YtdcoiccdbgcpaaaDoor
open Go.Eng
set_option linter.unusedVariables false
set_option linter.unusedSimpArgs false
instance memDec (s:ByteArray):(l:List ByteArray)→Decidable (s∈l)
 | []=>isFalse (by simp)
 | x::r=>if h:s=x then isTrue (by simp [h]) else match memDec s r with
  | isTrue h2=>isTrue (List.mem_cons_of_mem _ h2)
  | isFalse h2=>isFalse (by simp [h,h2])
theorem p_among (s:ByteArray) (l:List ByteArray) (hl:l.length≤2000000):zbj_s l s=some (decide (s∈l)):=by
 have key:∀(j i:Nat),i+j=l.length→zbj_p0 s (i:Int) l=some (if s∈l.drop i then .inl true else .inr ()):=by
  intro j
  induction j with
  | zero =>
   intro i hi
   rw [List.drop_eq_nil_of_le (by omega),if_neg (by simp)]
   unfold zbj_p0
   refine qAm ?_
   unfold qC0
   rw [deF (by omega),cnF]
  | succ j ih =>
   intro i hi
   have hlt:i<l.length:=by omega
   have hd:l.drop i=l[i]::l.drop (i+1):=List.drop_eq_getElem_cons hlt
   have hg:l.getD i (⟨#[]⟩:ByteArray)=l[i]:=by rw [List.getD_eq_getElem?_getD,List.getElem?_eq_getElem hlt]; rfl
   have hst:qC0 s (i:Int) l=if l[i]=s then some (.inr (.inl true)) else some (.inl ((i+1:Nat):Int)):=by
    unfold qC0
    rw [deT (by omega),cnT,qAa (by omega),qAa (by omega)]
    simp only [Int.toNat_natCast]
    have hg':l.getD i (ET.dft .str)=l[i]:=hg
    simp only [hg']
    by_cases h:l[i]=s
    ·rw [if_pos h,deT h,cnT]
    ·rw [if_neg h,deF h,cnF]
     exact qAa (by unfold InI64; omega) _
   unfold zbj_p0
   by_cases h:l[i]=s
   ·rw [if_pos h] at hst
    rw [qAm hst,if_pos (by rw [hd,h]; exact List.mem_cons_self)]
   ·rw [if_neg h] at hst
    rw [qAx hst]
    have:=ih (i+1) (by omega)
    unfold zbj_p0 at this
    rw [this]
    congr 1
    have:(s∈l.drop i)=(s∈l.drop (i+1)):=by
     rw [hd,List.mem_cons]
     exact propext ⟨fun h'=>h'.resolve_left (fun e=>h e.symm),.inr⟩
    simp only [this]
 have:=key l.length 0 (by omega)
 rw [List.drop_zero,show ((0:Nat):Int)=0 from rfl] at this
 unfold zbj_s
 rw [this,obS]
 by_cases h:s∈l
 ·rw [if_pos h,deT h]; rfl
 ·rw [if_neg h,deF h]; rfl
structure NmR (obj:Bool) (nm:MapC) (names:List ByteArray):Prop where
 some_:nm.isSome=obj
 mem:∀s,obj=true→(0<mget nm s↔s∈names)
theorem mfind_mset (l:List (ByteArray × Int)) (s t:ByteArray) (x:Int):mfind (mset l s x) t=if t=s then some x else mfind l t:=by
 induction l with
 | nil =>
  show (bif decide (t=s) then some x else none)=_
  by_cases h:t=s
  ·rw [if_pos h,deT h]; rfl
  ·rw [if_neg h,deF h]; rfl
 | cons y r ih =>
  unfold mset
  by_cases hs:s=y.1
  ·rw [deT hs,cnT]
   show (bif decide (t=s) then some x else mfind r t)=_
   by_cases h:t=s
   ·rw [if_pos h,deT h]; rfl
   ·rw [if_neg h,deF h,cnF]
    show mfind r t=(bif decide (t=y.1) then some y.2 else mfind r t)
    rw [deF (by rw [←hs]; exact h),cnF]
  ·rw [deF hs,cnF]
   unfold mfind
   rw [ih]
   by_cases hy:t=y.1
   ·rw [deT hy,cnT,cnT,if_neg (by rw [hy]; exact fun h=>hs h.symm)]
   ·rw [deF hy,cnF,cnF]
theorem NmR.put {obj:Bool} {nm:MapC} {names:List ByteArray} (h:NmR obj nm names) (s:ByteArray):NmR obj (mput nm s 1) (names++[s]):=by
 cases nm with
 | none =>
  refine ⟨h.some_,fun t ht=>?_⟩
  have:=h.some_
  rw [ht] at this
  cases this
 | some l =>
  refine ⟨h.some_,fun t ht=>?_⟩
  have h2:=h.mem t ht
  show 0<(mfind (mset l s 1) t).getD 0↔_
  rw [mfind_mset,List.mem_append,List.mem_singleton]
  by_cases hts:t=s
  ·rw [if_pos hts]
   exact ⟨fun _=>.inr hts,fun _=>by decide⟩
  ·rw [if_neg hts]
   exact ⟨fun h=>.inl (h2.1 h),fun h=>h2.2 (h.resolve_right hts)⟩
end Go.Proofs.YtdcoiccdbgcpaaaDoor
namespace Go.Proofs.YtdcoiccdbgcpaaaDoor
open Go.Eng
set_option linter.unusedVariables false
set_option linter.unusedSimpArgs false
inductive Rd (α:Type)
 | ok (b:Nat) (x:α)
 | bad (c:Int) (b:Nat)
def qCt (c:Int):Bool:=decide (c=32) || decide (c=9) || decide (c=10) || decide (c=13)
theorem qB5 {t:ByteArray} {a:Nat} (h:qCt (bAt t a)=true):a<t.size:=by
 unfold qCt at h
 simp only [Bool.or_eq_true,decide_eq_true_eq] at h
 have:=(qDa (s:=t) (i:=a) (by omega)).2
 omega
def skipS (t:ByteArray) (a:Nat):Nat:=if h:qCt (bAt t a)=true then skipS t (a+1) else a
 termination_by t.size - a
 decreasing_by have:=qB5 h; omega
theorem skipS_yes {t:ByteArray} {a:Nat} (h:qCt (bAt t a)=true):skipS t a=skipS t (a+1):=by rw [skipS,dif_pos h]
theorem skipS_no {t:ByteArray} {a:Nat} (h:qCt (bAt t a)=false):skipS t a=a:=by rw [skipS,dif_neg (by simp [h])]
theorem qBs (t:ByteArray) (a:Nat):a≤skipS t a:=by
 by_cases h:qCt (bAt t a)=true
 ·rw [skipS_yes h]
  have:=qBs t (a+1)
  omega
 ·rw [skipS_no (by simpa using h)]
  exact Nat.le_refl _
termination_by t.size - a
decreasing_by have:=qB5 h; omega
theorem qBo (t:ByteArray) (a:Nat) (ha:a≤t.size):skipS t a≤t.size:=by
 by_cases h:qCt (bAt t a)=true
 ·rw [skipS_yes h]
  exact qBo t (a+1) (by have:=qB5 h; omega)
 ·rw [skipS_no (by simpa using h)]
  exact ha
termination_by t.size - a
decreasing_by have:=qB5 h; omega
def digR (t:ByteArray) (a:Nat):Rd Unit:=if manyS t a=a then .bad 31 a else .ok (manyS t a) ()
def litR (t:ByteArray) (w:List Int) (a:Nat):Rd Unit :=
 match w with
 | []=>.ok a ()
 | c::w=>if bAt t a=c then litR t w (a+1) else .bad 31 a
def hexS (c:Int):Int:=if 48≤c∧c≤57 then c - 48 else if 97≤c∧c≤102 then c - 97+10 else if 65≤c∧c≤70 then c - 65+10 else -1
def qCq (half:Bool) (i:Nat) (u d:Int):Prop:=d<0∨(half=true∧(i=0∧d≠13∨i=1∧d<12))∨(half=false∧i=1∧u=13∧12≤d)
instance (half:Bool) (i:Nat) (u d:Int):Decidable (qCq half i u d):=by unfold qCq; exact inferInstance
def fourR (t:ByteArray) (half:Bool) (from_:Nat):Nat→Nat→Nat→Int→Rd Int
 | 0,_,a,u=>.ok a u
 | m+1,i,a,u=>if bAt t a<0 then .bad 31 t.size else if qCq half i u (hexS (bAt t a)) then .bad 33 from_ else fourR t half from_ m (i+1) (a+1) (16*u+hexS (bAt t a))
def pairR (t:ByteArray) (from_:Nat) (a:Nat) (u:Int):Rd Int :=
 if bAt t a<0 then .bad 31 t.size
 else if bAt t a≠92 then .bad 33 from_
 else if bAt t (a+1:Nat)<0 then .bad 31 t.size
 else if bAt t (a+1:Nat)≠117 then .bad 33 from_
 else match fourR t true from_ 4 0 (a+2) 0 with
  | .bad c b=>.bad c b
  | .ok b w=>.ok b (65536+1024*(u - 55296)+w - 56320)
def saidS (c:Int):Int:=if c=34∨c=92∨c=47 then c else if c=98 then 8 else if c=102 then 12 else if c=110 then 10 else if c=114 then 13 else if c=116 then 9 else -1
def escR (t:ByteArray) (a:Nat):Rd Int :=
 if bAt t (a+1:Nat)<0 then .bad 31 t.size
 else if bAt t (a+1:Nat)=117 then
  match fourR t false a 4 0 (a+2) 0 with
  | .bad c b=>.bad c b
  | .ok b u=>if u<55296∨57343<u then .ok b u else pairR t a b u
 else if saidS (bAt t (a+1:Nat))<0 then .bad 33 a
 else .ok (a+2) (saidS (bAt t (a+1:Nat)))
def utfL (u:Int):List Int :=
 if u<128 then [u] else if u<2048 then [192+u / 64,128+u % 64] else if u<65536 then [224+u / 4096,128+u / 64 % 64,128+u % 64]
 else [240+u / 262144,128+u / 4096 % 64,128+u / 64 % 64,128+u % 64]
def quoR (t:ByteArray):Nat→Nat→List Int→Rd (List Int)
 | 0,a,_=>.bad 31 a
 | n+1,a,acc =>
  if bAt t a<32 then .bad 31 a
  else if bAt t a=34 then .ok (a+1) acc
  else if bAt t a=92 then
   match escR t a with
   | .bad c b=>.bad c b
   | .ok b u=>quoR t n b (acc++utfL u)
  else if bAt t a<128 then quoR t n (a+1) (acc++[bAt t a])
  else if seqK t a=0 then quoR t n (a+seqW t a) (acc++qA2 (t.extract a (a+seqW t a)))
  else .bad (seqK t a) (if seqK t a=31 then t.size else a)
def signS (t:ByteArray) (a:Nat):Nat:=if bAt t a=45 then a+1 else a
def zeroR (t:ByteArray) (a:Nat):Rd Unit:=if bAt t a=48 then .ok (a+1) () else digR t a
def dotR (t:ByteArray) (a:Nat):Rd Unit:=if bAt t a=46 then digR t (a+1) else .ok a ()
def powR (t:ByteArray) (a:Nat):Rd Unit :=
 if bAt t a=101∨bAt t a=69 then digR t (if bAt t (a+1:Nat)=43∨bAt t (a+1:Nat)=45 then a+2 else a+1) else .ok a ()
def numR (t:ByteArray) (a:Nat):Rd Unit :=
 match zeroR t (signS t a) with
 | .bad c b=>.bad c b
 | .ok b _ =>
  match dotR t b with
  | .bad c b=>.bad c b
  | .ok b _=>powR t b
def nd0 (k:Int) (x:ByteArray) (w:Bool) (i:Int) (n:Int):Eng.Node:=⟨k,(⟨#[]⟩:ByteArray),x,w,i,n⟩
noncomputable def qDe (s:ByteArray):Int × Bool:=(zbd_s s).getD (0,false)
noncomputable def scalR (t:ByteArray) (a:Nat):Rd (List Eng.Node) :=
 if bAt t a=34 then match quoR t (t.size+1) (a+1) [] with
  | .bad c b=>.bad c b
  | .ok b l=>.ok b [nd0 5 (qAr l) false 0 0]
 else if bAt t a=45∨(48≤bAt t a∧bAt t a≤57) then match numR t a with
  | .bad c b=>.bad c b
  | .ok b _=>.ok b [nd0 4 (t.extract a b) (qDe (t.extract a b)).2 (qDe (t.extract a b)).1 0]
 else if bAt t a=110 then match litR t [110,117,108,108] a with
  | .bad c b=>.bad c b
  | .ok b _=>.ok b [nd0 1 ⟨#[]⟩ false 0 0]
 else if bAt t a=102 then match litR t [102,97,108,115,101] a with
  | .bad c b=>.bad c b
  | .ok b _=>.ok b [nd0 2 ⟨#[]⟩ false 0 0]
 else if bAt t a=116 then match litR t [116,114,117,101] a with
  | .bad c b=>.bad c b
  | .ok b _=>.ok b [nd0 3 ⟨#[]⟩ false 0 0]
 else .bad 31 a
def setKey (k:ByteArray):List Eng.Node→List Eng.Node
 | []=>[]
 | n::r=>⟨n.kind,k,n.text,n.whole,n.int,n.kids⟩::r
def itemR (t:ByteArray) (val:Nat→Rd (List Eng.Node)) (obj:Bool) (names:List ByteArray) (a:Nat):Rd (ByteArray × List Eng.Node) :=
 if obj then
  if bAt t a=34 then match quoR t (t.size+1) (a+1) [] with
   | .bad c b=>.bad c b
   | .ok b l =>
    if qAr l∈names then .bad 34 a
    else if bAt t (skipS t b)=58 then match val (skipS t (skipS t b+1)) with
     | .bad c b=>.bad c b
     | .ok b x=>.ok b (qAr l,setKey (qAr l) x)
    else .bad 31 (skipS t b)
  else .bad 31 a
 else match val a with
  | .bad c b=>.bad c b
  | .ok b x=>.ok b (⟨#[]⟩,x)
def lastC (obj:Bool):Int:=if obj then 125 else 93
def rowR (t:ByteArray) (val:Nat→Rd (List Eng.Node)) (obj:Bool):Nat→Nat→Nat→List Eng.Node→List ByteArray→Rd (Nat × List Eng.Node)
 | 0,a,_,_,_=>.bad 31 a
 | m+1,a,k,acc,names =>
  match itemR t val obj names a with
  | .bad c b=>.bad c b
  | .ok b x =>
   if bAt t (skipS t b)=lastC obj then .ok (skipS t b+1) (k+1,acc++x.2)
   else if bAt t (skipS t b)=44 then rowR t val obj m (skipS t (skipS t b+1)) (k+1) (acc++x.2) (names++[x.1])
   else .bad 31 (skipS t b)
def kindC (obj:Bool):Int:=if obj then 7 else 6
def boxR (t:ByteArray) (val:Nat→Rd (List Eng.Node)) (obj:Bool) (a:Nat):Rd (List Eng.Node) :=
 if bAt t (skipS t (a+1))=lastC obj then .ok (skipS t (a+1)+1) [nd0 (kindC obj) ⟨#[]⟩ false 0 0]
 else match rowR t val obj (t.size+1) (skipS t (a+1)) 0 [] [] with
  | .bad c b=>.bad c b
  | .ok b x=>.ok b (nd0 (kindC obj) ⟨#[]⟩ false 0 x.1::x.2)
noncomputable def valR (t:ByteArray):Nat→Nat→Rd (List Eng.Node)
 | 0,a=>if bAt t a=91∨bAt t a=123 then .bad 11 a else scalR t a
 | d+1,a=>if bAt t a=91∨bAt t a=123 then boxR t (valR t d) (decide (bAt t a=123)) a else scalR t a
noncomputable def readR (t:ByteArray):Rd (List Eng.Node) :=
 match valR t 32 (skipS t 0) with
 | .bad c b=>.bad c b
 | .ok b l=>if skipS t b<t.size then .bad 31 (skipS t b) else .ok (skipS t b) l
theorem qA8 {t:ByteArray} {a:Nat} (h:0≤bAt t a):a<t.size:=by
 have:=(qDa h).2
 omega
theorem qC7 {t:ByteArray} {a b:Nat} {x:Unit} (ha:a≤t.size) (h:digR t a=.ok b x):a<b∧b≤t.size∧b=manyS t a:=by
 unfold digR at h
 have h1:=manyS_ge t a
 have h2:=manyS_le t a ha
 split at h
 ·cases h
 ·cases h
  omega
theorem litR_adv {t:ByteArray}:∀ {w:List Int} {a b:Nat} {x:Unit},(∀c∈w,0≤c)→litR t w a=.ok b x→b=a+w.length∧(w≠[]→b≤t.size)
 | [],a,b,x,_,h=>by
  cases h
  exact ⟨rfl,fun h=>(h rfl).elim⟩
 | c::w,a,b,x,hc,h=>by
  unfold litR at h
  split at h
  ·rename_i h1
   have h2:=litR_adv (fun c hc'=>hc c (List.mem_cons_of_mem _ hc')) h
   have h3:=qA8 (t:=t) (a:=a) (by rw [h1]; exact hc c List.mem_cons_self)
   refine ⟨by rw [h2.1,List.length_cons]; omega,fun _=>?_⟩
   cases w with
   | nil=>rw [h2.1]; exact h3
   | cons _ _=>exact h2.2 (by simp)
  ·cases h
theorem qDn (c:Int) : -1≤hexS c∧hexS c≤15:=by
 unfold hexS
 repeat' split
 all_goals omega
theorem fourR_ok {t:ByteArray} {half:Bool} {f a b:Nat} {u:Int} (h:fourR t half f 4 0 a 0=.ok b u) :
  b=a+4∧b≤t.size∧0≤u∧u≤65535∧(half=true→56320≤u∧u≤57343)∧(half=false→¬(56320≤u∧u≤57343)):=by
 have r0:=qDn (bAt t a)
 have r1:=qDn (bAt t (a+1:Nat))
 have r2:=qDn (bAt t (a+1+1:Nat))
 have r3:=qDn (bAt t (a+1+1+1:Nat))
 simp only [fourR] at h
 split at h
 ·cases h
 split at h
 ·cases h
 rename_i n0 b0
 split at h
 ·cases h
 split at h
 ·cases h
 rename_i n1 b1
 split at h
 ·cases h
 split at h
 ·cases h
 rename_i n2 b2
 split at h
 ·cases h
 split at h
 ·cases h
 rename_i n3 b3
 have h3:=qA8 (t:=t) (a:=a+1+1+1) (by omega)
 simp only [Rd.ok.injEq] at h
 obtain ⟨rfl,rfl⟩:=h
 unfold qCq at b0 b1 b2 b3
 simp only [not_or] at b0 b1 b2 b3
 refine ⟨rfl,by omega,by omega,by omega,fun hh=>?_,fun hh=>?_⟩
 ·subst hh
  simp only [true_and,Nat.zero_add] at b0 b1
  omega
 ·subst hh
  simp only [true_and,Nat.zero_add] at b0 b1
  omega
theorem saidS_range (c:Int) : -1≤saidS c∧saidS c≤116:=by
 unfold saidS
 repeat' split
 all_goals omega
def Code (u:Int):Prop:=0≤u∧u≤1114111∧¬(55296≤u∧u≤57343)
theorem escR_ok {t:ByteArray} {a b:Nat} {u:Int} (h:escR t a=.ok b u):a<b∧b≤t.size∧Code u:=by
 unfold escR at h
 have hr:=saidS_range (bAt t (a+1:Nat))
 split at h
 ·cases h
 ·rename_i h0
  have hl:=qA8 (t:=t) (a:=a+1) (by omega)
  split at h
  ·split at h
   ·cases h
   ·rename_i b' u' hf
    have h4:=fourR_ok hf
    have h5:=h4.2.2.2.2.2 rfl
    split at h
    ·cases h
     exact ⟨by omega,h4.2.1,by unfold Code; omega⟩
    ·unfold pairR at h
     repeat' split at h
     all_goals first | (cases h; done) | skip
     rename_i hw
     have h6:=fourR_ok hw
     have h7:=h6.2.2.2.2.1 rfl
     cases h
     exact ⟨by omega,h6.2.1,by unfold Code; omega⟩
  ·split at h
   ·cases h
   ·cases h
    exact ⟨by omega,by omega,by unfold Code; omega⟩
theorem utfL_range {u:Int} (h:Code u):∀x∈utfL u,0≤x∧x<256:=by
 unfold Code at h
 unfold utfL
 intro x hx
 repeat' split at hx
 all_goals
  simp only [List.mem_cons,List.not_mem_nil,or_false] at hx
  omega
theorem utfL_len (u:Int):1≤(utfL u).length∧(utfL u).length≤4:=by
 unfold utfL
 repeat' split
 all_goals simp
theorem bytesL_range' (s:ByteArray):∀x∈qA2 s,0≤x∧x<256:=by
 intro x hx
 unfold qA2 at hx
 rw [List.mem_map] at hx
 obtain ⟨b,_,rfl⟩:=hx
 have:=b.toNat_lt
 omega
theorem bytesL_of' {l:List Int} (h:∀x∈l,0≤x∧x<256):qA2 (qAr l)=l:=by
 rw [bytesI_eq]
 unfold qA2
 simp only [List.map_map]
 conv=>rhs; rw [←List.map_id l]
 refine List.map_congr_left fun x hx=>?_
 have:=h x hx
 simp only [Function.comp,id]
 rw [UInt8.toNat_ofNat',Nat.mod_eq_of_lt (by omega)]
 omega
theorem quoR_ok {t:ByteArray}:∀ {n a b:Nat} {acc l:List Int},quoR t n a acc=.ok b l→(∀x∈acc,0≤x∧x<256)→a<b∧b≤t.size∧(∀x∈l,0≤x∧x<256)∧l.length≤acc.length+4*(b - a)
 | 0,a,b,acc,l,h,_=>by cases h
 | n+1,a,b,acc,l,h,hacc=>by
  unfold quoR at h
  split at h
  ·cases h
  ·rename_i h0
   have ha:=qA8 (t:=t) (a:=a) (by omega)
   split at h
   ·cases h
    exact ⟨by omega,by omega,hacc,by omega⟩
   ·split at h
    ·split at h
     ·cases h
     ·rename_i b' u he
      have h1:=escR_ok he
      have h2:=quoR_ok h (by
       intro x hx
       rcases List.mem_append.1 hx with hx | hx
       ·exact hacc x hx
       ·exact utfL_range h1.2.2 x hx)
      have h3:=utfL_len u
      rw [List.length_append] at h2
      exact ⟨by omega,h2.2.1,h2.2.2.1,by omega⟩
    ·split at h
     ·have hb:=qCh t a
      have h2:=quoR_ok h (by
       intro x hx
       rcases List.mem_append.1 hx with hx | hx
       ·exact hacc x hx
       ·rw [List.mem_singleton.1 hx]; omega)
      rw [List.length_append,List.length_singleton] at h2
      exact ⟨by omega,h2.2.1,h2.2.2.1,by omega⟩
     ·split at h
      ·rename_i hk
       have hw:=seqW_in ha (by have:=by8_in ha; omega) hk
       have h2:=quoR_ok h (by
        intro x hx
        rcases List.mem_append.1 hx with hx | hx
        ·exact hacc x hx
        ·exact bytesL_range' _ x hx)
       have h3:(qA2 (t.extract a (a+seqW t a))).length≤4:=by
        unfold qA2
        rw [List.length_map,Array.length_toList]
        show (t.extract a (a+seqW t a)).size≤4
        rw [ByteArray.size_extract]
        omega
       rw [List.length_append] at h2
       exact ⟨by omega,h2.2.1,h2.2.2.1,by omega⟩
      ·cases h
end Go.Proofs.YtdcoiccdbgcpaaaDoor
