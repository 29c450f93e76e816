/-
  Texts of a claim.
-/
import Derived.Lib.ValidLaws
import Derived.Lib.DecodeNEq
import Derived.Test.YtpobbbpphnnnhaaGreatDoorEngH
import Derived.Test.YtpobbbpphnnnhaaGreatDoorJS
import Derived.Test.YtpobbbpphnnnhaaGreatDoorJQ
import Derived.Test.YtpobbbpphnnnhaaGreatDoorDecRel
import Derived.Test.YtpobbbpphnnnhaaGreatDoorGC
namespace Go.Proofs.YtpobbbpphnnnhaaGreatDoor
open Go.Eng
set_option linter.unusedVariables false
set_option linter.unusedSimpArgs false
structure OkN (n:Eng.Node):Prop where
 key:n.key.size≤3000000
 text:n.text.size≤3000000
 kids:qAf n.kids
theorem bAt_byte (t:BA) (i:Int) : -1≤bAt t i∧bAt t i≤255:=by
 unfold bAt;split
 ·split
  ·rename_i b _;have:=b.toNat_lt;omega
  ·omega
 ·omega
theorem byteAt_some (t:BA) (at_:Int) (h0:0≤at_):zcz_s t at_=some (if (t.size:Int)≤at_ then -1 else bAt t at_)∧(0≤(if (t.size:Int)≤at_ then -1 else bAt t at_)→at_<t.size):=by
 have:=bAt_byte t at_;unfold zcz_s;by_cases h:(t.size:Int)≤at_
 ·rw [deT h,cnT,if_pos h];exact ⟨rfl,fun h=>by omega⟩
 ·rw [deF h,cnF,if_neg h];refine ⟨(qAb (by omega) _).trans (qAb (by unfold qAf; omega) _),fun _=>by omega⟩
def by8 (t:BA) (i:Nat):Nat:=(t.get! i).toNat
theorem by8_lt (t:BA) (i:Nat):by8 t i<256:=UInt8.toNat_lt _
theorem by8_in {t:BA} {i:Nat} (h:i<t.size):bAt t (i:Int)=(by8 t i:Int):=by
 rw [bAt_in h];unfold by8;congr 2
 cases t with
 | mk d=>exact (getElem!_pos d i h).symm
def contN (n:Nat) (b:Nat→Nat):Nat→Nat→Nat→Nat→Int
 | 0,_,_,_=>0
 | m+1,i,lo,hi=>if n≤i then 31 else if b i<lo∨hi<b i then 32 else contN n b m (i+1) 128 191
theorem contN_cases (n:Nat) (b:Nat→Nat):∀(m i lo hi:Nat),contN n b m i lo hi=0∨contN n b m i lo hi=31∨contN n b m i lo hi=32
 | 0,_,_,_=>.inl rfl
 | m+1,i,lo,hi=>by
  unfold contN;split
  ·exact .inr (.inl rfl)
  ·split
   ·exact .inr (.inr rfl)
   ·exact contN_cases n b m _ _ _
theorem p_cont (t:BA) (a:Nat) (ha:a≤t.size) (hs:t.size≤3000000):∀(m i lo hi:Nat),1≤i→i+m≤5 →
  zdf_p0 t (a:Int) ((i:Int)+m - 1) (lo:Int) (hi:Int) (i:Int)=some (if contN (t.size - a) (fun k=>by8 t (a+k)) m i lo hi=0 then .inr () else .inl (0,⟨#[]⟩,contN (t.size - a) (fun k=>by8 t (a+k)) m i lo hi,if contN (t.size - a) (fun k=>by8 t (a+k)) m i lo hi=31 then (t.size:Int) else (a:Int),[]))
 | 0,i,lo,hi,h1,h2=>by
  rw [contN,if_pos rfl];unfold zdf_p0;refine qAi ?_;unfold qDt;dsimp only;rw [deF (by omega),cnF]
 | m+1,i,lo,hi,h1,h2=>by
  obtain ⟨b1,b2⟩:=byteAt_some t ((a:Int)+i) (by omega);have e:contN (t.size - a) (fun k=>by8 t (a+k)) (m+1) i lo hi=if t.size - a≤i then 31 else if by8 t (a+i)<lo∨hi<by8 t (a+i) then 32 else contN (t.size - a) (fun k=>by8 t (a+k)) m (i+1) 128 191:=rfl
  have hin:((i:Int)≤(i:Int)+((m+1:Nat):Int) - 1):=by omega
  generalize hn:(i:Int)+((m+1:Nat):Int) - 1=n at *
  by_cases hc:t.size - a≤i
  ·rw [if_pos hc] at e;rw [e,if_neg (by decide),if_pos rfl];unfold zdf_p0;refine qAi ?_;unfold qDt;dsimp only;rw [deT hin,cnT,qAb (by unfold qAf; omega),b1,if_pos (by omega),obS,deT (by decide),cnT];rfl
  ·rw [if_neg hc] at e;have hb:=by8_in (t:=t) (i:=a+i) (by omega);rw [show ((a+i:Nat):Int)=(a:Int)+i by omega] at hb;rw [if_neg (by omega),hb] at b1;by_cases hd:by8 t (a+i)<lo∨hi<by8 t (a+i)
   ·rw [if_pos hd] at e;rw [e,if_neg (by decide),if_neg (by decide)];unfold zdf_p0;refine qAi ?_;unfold qDt;dsimp only;rw [deT hin,cnT,qAb (by unfold qAf; omega),b1,obS,deF (by omega),cnF];have:(decide ((by8 t (a+i):Int)<(lo:Int)) || decide ((hi:Int)<(by8 t (a+i):Int)))=true:=by
     simp only [Bool.or_eq_true,decide_eq_true_eq]; omega
    rw [this,cnT];rfl
   ·rw [if_neg hd] at e;rw [e];have ih:=p_cont t a ha hs m (i+1) 128 191 (by omega) (by omega);rw [show ((i+1:Nat):Int)+m - 1=n by omega] at ih;rw [←ih];unfold zdf_p0;refine qAr (y:=(((128:Nat):Int),((191:Nat):Int),((i+1:Nat):Int))) ?_;unfold qDt;dsimp only;rw [deT hin,cnT,qAb (by unfold qAf; omega),b1,obS,deF (by omega),cnF];have:(decide ((by8 t (a+i):Int)<(lo:Int)) || decide ((hi:Int)<(by8 t (a+i):Int)))=false:=by
     simp only [Bool.or_eq_false_iff,decide_eq_false_iff_not]; omega
    rw [this,cnF];exact qAb (by unfold qAf; omega) _
set_option maxRecDepth 100000 in
theorem p_bounds':∀c:Fin 256,128≤c.val→zcy_s (c.val:Int)=some (if Lib.firstT c.val=241 then (-1,0,0) else (((Lib.firstT c.val % 8:Nat):Int) - 1,((Lib.accLo (Lib.firstT c.val / 16):Nat):Int),((Lib.accHi (Lib.firstT c.val / 16):Nat):Int))):=by
 decide +kernel
theorem firstT_low:∀c:Fin 256,128≤c.val→Lib.firstT c.val≠240:=by decide +kernel
def seqK (t:BA) (a:Nat):Int :=
 if Lib.firstT (by8 t a)=241 then 32 else contN (t.size - a) (fun k=>by8 t (a+k)) (Lib.firstT (by8 t a) % 8 - 1) 1 (Lib.accLo (Lib.firstT (by8 t a) / 16)) (Lib.accHi (Lib.firstT (by8 t a) / 16))
def seqW (t:BA) (a:Nat):Nat:=Lib.firstT (by8 t a) % 8
theorem seqK_cases (t:BA) (a:Nat):seqK t a=0∨seqK t a=31∨seqK t a=32:=by
 unfold seqK;split
 ·exact .inr (.inr rfl)
 ·exact contN_cases _ _ _ _ _ _
theorem firstT_three {b:Nat} (h:128≤b) (hb:b<256) (h2:Lib.firstT b≠241):2≤Lib.firstT b % 8∧Lib.firstT b % 8≤4:=by
 have:=firstT_low ⟨b,hb⟩ h;rcases Lib.firstT_cases b with h | h | h | h | h | h | h | h | h <;> simp only [h] at * <;> omega
theorem contN_in {n:Nat} {b:Nat→Nat}:∀ {m i lo hi:Nat},contN n b m i lo hi=0→m=0∨i+m≤n
 | 0,_,_,_,_=>.inl rfl
 | m+1,i,lo,hi,h=>by
  unfold contN at h;split at h
  ·cases h
  ·split at h
   ·cases h
   ·rcases contN_in h with h | h <;> omega
theorem seqW_in {t:BA} {a:Nat} (ha:a<t.size) (h:128≤by8 t a) (h0:seqK t a=0):a+seqW t a≤t.size∧2≤seqW t a∧seqW t a≤4:=by
 unfold seqK at h0;unfold seqW;split at h0
 ·cases h0
 ·rename_i h1;have:=firstT_three h (by8_lt t a) h1;rcases contN_in h0 with h2 | h2 <;> omega
theorem p_seq {t:BA} {a:Nat} (ha:a<t.size) (hs:t.size≤3000000) (h:128≤by8 t a) :
  zdf_s t (a:Int)=some (if seqK t a=0 then ⟨((a+seqW t a:Nat):Int),[],t.extract a (a+seqW t a),0,0⟩ else ⟨0,[],⟨#[]⟩,seqK t a,if seqK t a=31 then (t.size:Int) else (a:Int)⟩):=by
 have hb:=by8_in ha;have hl:=by8_lt t a;have hbo:=p_bounds' ⟨by8 t a,hl⟩ h;simp only at hbo;have hi:=@seqW_in t a ha h;unfold zdf_s;rw [qAb (by omega),qAb (by unfold qAf; rw [hb]; omega),hb,hbo,obS];by_cases h1:Lib.firstT (by8 t a)=241
 ·have e:seqK t a=32:=by unfold seqK; rw [if_pos h1]
  rw [if_pos h1,e,if_neg (by decide),if_neg (by decide)];rw [deT (by decide),cnT];rfl
 ·have h3:=firstT_three h hl h1;have e:seqK t a=contN (t.size - a) (fun k=>by8 t (a+k)) (Lib.firstT (by8 t a) % 8 - 1) 1 (Lib.accLo (Lib.firstT (by8 t a) / 16)) (Lib.accHi (Lib.firstT (by8 t a) / 16)):=by unfold seqK; rw [if_neg h1]
  rw [if_neg h1];have hw:seqW t a=Lib.firstT (by8 t a) % 8:=rfl;have pc:=p_cont t a (by omega) hs (Lib.firstT (by8 t a) % 8 - 1) 1 (Lib.accLo (Lib.firstT (by8 t a) / 16)) (Lib.accHi (Lib.firstT (by8 t a) / 16)) (by omega) (by omega);rw [←e] at pc;rw [show ((1:Nat):Int)+((Lib.firstT (by8 t a) % 8 - 1:Nat):Int) - 1=((Lib.firstT (by8 t a) % 8:Nat):Int) - 1 by omega] at pc;rw [←hw] at pc h3 ⊢;dsimp only;rw [deF (by omega),cnF];rw [show ((1:Nat):Int)=1 from rfl] at pc;rw [pc,obS];by_cases h0:seqK t a=0
  ·rw [if_pos h0,if_pos h0];have hi:=hi h0;simp only [Sum.elim_inr];refine (qAb (by unfold qAf; omega) _).trans ((qAb (by unfold qAf; omega) _).trans ((qAb (by unfold qAf; omega) _).trans ((qAb (by unfold qAf; omega) _).trans ((qAb (by omega) _).trans ?_))));rw [show (a:Int)+((seqW t a:Int) - 1)+1=((a+seqW t a:Nat):Int) by omega];simp only [Int.toNat_natCast]
  ·rw [if_neg h0,if_neg h0];rfl
set_option maxRecDepth 100000 in
set_option maxHeartbeats 4000000 in
theorem seq_dec {t:BA} {a:Nat} (ha:a<t.size) (h:128≤by8 t a) :
  (seqK t a=0→(Utf8.decode t a).2=seqW t a) ∧
  (seqK t a≠0→Utf8.decode t a=(65533,1)∧(qGc (t.size - a) (by8 t a) (by8 t (a+1)) (by8 t (a+2))=!decide (seqK t a=31))):=by
 have l0:=by8_lt t a;have l1:=by8_lt t (a+1);have l2:=by8_lt t (a+2);have l3:=by8_lt t (a+3);have hd:Utf8.decode t a=Lib.decodeN (t.size - a) (by8 t a) (by8 t (a+1)) (by8 t (a+2)) (by8 t (a+3)):=Lib.decode_at t a;have hf:=firstT_low ⟨by8 t a,l0⟩ h;simp only at hf;rw [hd];unfold seqK seqW;by_cases h1:Lib.firstT (by8 t a)=241
 ·rw [if_pos h1];refine ⟨fun h=>(by cases h),fun _=>⟨Lib.bad_eq _ _ _ _ _ l0 h1,?_⟩⟩;unfold qGc;rw [if_neg (by omega),h1,if_pos (by omega)];rfl
 ·rw [if_neg h1,←Lib.slow_eq _ _ _ _ _ (by omega) l1 l2 l3 (by rcases Lib.firstT_cases (by8 t a) with h | h | h | h | h | h | h | h | h <;> omega)]
  have hn:1≤t.size - a:=by omega
  generalize t.size - a=n at *
  unfold qGc;generalize hb1:by8 t (a+1)=b1 at *
  generalize hb2:by8 t (a+2)=b2 at *
  generalize hb3:by8 t (a+3)=b3 at *
  generalize by8 t a=b0 at *
  rcases Lib.firstT_cases b0 with g | g | g | g | g | g | g | g | g <;> first | exact (hf g).elim | exact (h1 g).elim | rw [g]
  all_goals
   simp only [Nat.reduceMod,Nat.reduceDiv,Nat.reduceSub,contN,Lib.slowN,Lib.accLo,Lib.accHi,Nat.reduceEqDiff,Nat.reduceAdd,Nat.reduceLeDiff,if_true,if_false,hb1,hb2,hb3];repeat' split
   all_goals first | (exfalso; omega) | (refine ⟨fun h=>?_,fun h=>⟨?_,?_⟩⟩ <;> first | rfl | (exfalso; omega) | (cases h) | (exact (h rfl).elim))
end Go.Proofs.YtpobbbpphnnnhaaGreatDoor
namespace Go.Proofs.YtpobbbpphnnnhaaGreatDoor
open Go.Eng
set_option linter.unusedVariables false
set_option linter.unusedSimpArgs false
theorem p_run (s:BA) (h:s.size<9223372036854775807):zac_s s=some (runS s:Int):=by
 unfold zac_s zac_p0;rw [qDn (fun x:Int=>∃k:Nat,x=k∧k≤s.size∧qD9 s k=qD9 s 0) (fun x=>s.size - x.toNat) (fun _=>(qD9 s 0:Int)) ?_ (x:=(0:Int)) ⟨0,rfl,by omega,rfl⟩]
 ·rfl
 rintro _ ⟨k,rfl,hk,hm⟩
 unfold zac_p0_step;have key:((decide ((k:Int)<(s.size:Int)) && decide ((48:Int)≤bAt s k)) && decide (bAt s k≤57))=digS s k:=by
  unfold digS;by_cases hlt:(k:Int)<s.size
  ·simp [hlt]
  ·have:=qBm hlt;simp [hlt,this]
 rw [key];cases hd:digS s k with
 | true =>
  left;have hlt:=digS_lt hd;refine ⟨((k+1:Nat):Int),?_,⟨k+1,rfl,by omega,by rw [←hm,qG9 hd]⟩,by omega,rfl⟩;refine (qAb (fun _=>by omega) _).trans ?_;refine (qAb (fun _=>by omega) _).trans ?_;refine (qAb (by unfold qAf; omega) _).trans ?_;rfl
 | false =>
  right;refine (qAb (fun h=>by have:=of_decide_eq_true h; omega) _).trans ?_;refine (qAb (fun h=>by have:=of_decide_eq_true (Bool.and_eq_true _ _ ▸ h).1; omega) _).trans ?_;show some (Sum.inr (k:Int))=_;rw [←hm,manyS_no hd]
theorem p_trimL1 (s:BA) (b:Int):zdp_s s b=some (trimL s b):=by
 unfold zdp_s zdp_p0;rw [qDn (fun x:BA=>∃k:Nat,x=s.extract k s.size∧k≤s.size∧leadB s b k=leadB s b 0) (fun x=>x.size) (fun _=>trimL s b) ?_ ⟨0,(all_of s).symm,by omega,rfl⟩]
 ·rfl
 rintro _ ⟨k,rfl,hk,hm⟩
 unfold zdp_p0_step;have hz:=qCo s k;have hb:=bAt_tail s k 0 (by omega);simp only [Int.add_zero] at hb;rw [hb];by_cases hq:k<s.size∧bAt s k=b
 ·left;refine ⟨s.extract (k+1) s.size,?_,⟨k+1,rfl,by omega,by rw [←hm,leadB_yes hq]⟩,by rw [qCo,qCo]; omega,rfl⟩;refine (qAb (fun _=>by omega) _).trans ?_;have:(decide ((0:Int)<((s.extract k s.size).size:Int)) && decide (bAt s k=b))=true:=by simp only [Bool.and_eq_true,decide_eq_true_eq]; exact ⟨by omega,hq.2⟩
  rw [this,cnT];refine (qAb (by omega) _).trans ?_;rw [qHf]
 ·right;refine (qAb (fun h=>by have:=of_decide_eq_true h; omega) _).trans ?_;have:(decide ((0:Int)<((s.extract k s.size).size:Int)) && decide (bAt s k=b))=false:=by
   rw [Bool.and_eq_false_iff,decide_eq_false_iff_not,decide_eq_false_iff_not];by_cases h1:k<s.size
   ·exact .inr fun h=>hq ⟨h1,h⟩
   ·exact .inl (by omega)
  rw [this,cnF,trimL,←hm,leadB_no hq]
theorem p_trimR1 (s:BA) (b:Int) (h:s.size<9223372036854775807):zdq_s s b=some (trimR s b):=by
 unfold zdq_s zdq_p0;rw [qDn (fun x:BA=>∃k:Nat,x=s.extract 0 k∧k≤s.size∧backB s b k=backB s b s.size) (fun x=>x.size) (fun _=>trimR s b) ?_ ⟨s.size,(all_of s).symm,by omega,rfl⟩]
 ·rfl
 rintro _ ⟨k,rfl,hk,hm⟩
 unfold zdq_p0_step;have hz:(s.extract 0 k).size=k:=by rw [ByteArray.size_extract]; omega
 simp only [hz];cases k with
 | zero =>
  right;refine (qAb (fun h=>by simp at h) _).trans ?_;refine (qAb (fun h=>by simp at h) _).trans ?_;rw [trimR,←hm];rfl
 | succ n =>
  have hb:bAt (s.extract 0 (n+1)) (((n+1:Nat):Int) - 1)=bAt s n:=by
   rw [qA8 s 0 (n+1) _ (by omega) (by omega)];congr 1
   omega
  rw [hb];have e0:decide ((0:Int)<((n+1:Nat):Int))=true:=by simp only [decide_eq_true_eq]; omega
  rw [e0];by_cases hq:bAt s n=b
  ·left;refine ⟨s.extract 0 n,?_,⟨n,rfl,by omega,by rw [←hm]; show _=backB s b (n+1); rw [backB,if_pos hq]⟩,by rw [ByteArray.size_extract]; omega,tV⟩;refine (qAb (fun _=>by unfold qAf; omega) _).trans ?_;refine (qAb (fun _=>by omega) _).trans ?_;have:(true && decide (bAt s n=b))=true:=by simp [hq]
   rw [this,cnT];refine (qAb (by unfold qAf; omega) _).trans ?_;refine (qAb (by omega) _).trans ?_;rw [show Int.toNat (((n+1:Nat):Int) - 1)=n by omega,ByteArray.extract_extract];congr 3
   omega
  ·right;refine (qAb (fun _=>by unfold qAf; omega) _).trans ?_;refine (qAb (fun _=>by omega) _).trans ?_;have:(true && decide (bAt s n=b))=false:=by simp [hq]
   rw [this,cnF,trimR,←hm,backB,if_neg hq]
theorem p_trimL (s:BA):zdn_s s (⟨#[48]⟩:BA)=some (trimL s 48):=by
 unfold zdn_s;have h1:decide ((⟨#[48]⟩:BA)=(⟨#[]⟩:BA))=false:=by decide
 rw [h1,Bool.or_false];by_cases he:s=⟨#[]⟩
 ·rw [deT he,cnT];congr 1
  have:=eq_none.1 he;unfold trimL;rw [he];refine (eq_none.2 ?_).symm;rw [ByteArray.size_extract];have:(⟨#[]⟩:BA).size=0:=rfl;omega
 ·rw [deF he,cnF];refine (qAb (fun _=>by decide) _).trans ?_;have h2:(decide (((⟨#[48]⟩:BA).size:Int)=1) && decide (bAt (⟨#[48]⟩:BA) 0<128))=true:=by decide
  rw [h2,cnT];refine (qAb (by decide) _).trans ?_;rw [show bAt (⟨#[48]⟩:BA) 0=48 by decide,p_trimL1];rfl
theorem p_trimR (s:BA) (h:s.size<9223372036854775807):zdo_s s (⟨#[48]⟩:BA)=some (trimR s 48):=by
 unfold zdo_s;have h1:decide ((⟨#[48]⟩:BA)=(⟨#[]⟩:BA))=false:=by decide
 rw [h1,Bool.or_false];by_cases he:s=⟨#[]⟩
 ·rw [deT he,cnT];congr 1
  have:=eq_none.1 he;unfold trimR;rw [he];refine (eq_none.2 ?_).symm;rw [ByteArray.size_extract];have:(⟨#[]⟩:BA).size=0:=rfl;omega
 ·rw [deF he,cnF];refine (qAb (fun _=>by decide) _).trans ?_;have h2:(decide (((⟨#[48]⟩:BA).size:Int)=1) && decide (bAt (⟨#[48]⟩:BA) 0<128))=true:=by decide
  rw [h2,cnT];refine (qAb (by decide) _).trans ?_;rw [show bAt (⟨#[48]⟩:BA) 0=48 by decide,p_trimR1 s 48 h];rfl
theorem p_cut (s p:BA):zdk_s s p=some (cutPre s p,hasPre s p):=by
 unfold zdk_s zad_s zae_s;rw [qAb (fun h=>by have:=of_decide_eq_true h; omega)];have e:(decide ((p.size:Int)≤(s.size:Int)) && decide (s.extract 0 (Int.toNat (p.size:Int))=p))=hasPre s p:=by
  simp only [hasPre,Int.ofNat_le,Int.toNat_natCast]
 rw [e];simp only [obS];unfold cutPre;cases h:hasPre s p with
 | true =>
  have:=hasPre_le h;simp only [Bool.not_true,cnF,if_true];rw [qAb (by omega)];simp only [obS,Int.toNat_natCast]
 | false=>simp
def num (n:PNum):decimal_number:=⟨n.minus,n.int,n.digits,n.off,n.plain,n.down,n.exp⟩
theorem hasPre_45 (s:BA):hasPre s (⟨#[45]⟩:BA)=decide (bAt s 0=45):=hasPre_one rfl
theorem hasPre_46 (s:BA):hasPre s (⟨#[46]⟩:BA)=decide (bAt s 0=46):=hasPre_one rfl
theorem cut_45 (s:BA):cutPre s (⟨#[45]⟩:BA)=s.extract (atA s) s.size:=by
 unfold cutPre atA;rw [hasPre_45];by_cases h:bAt s 0=45
 ·simp only [h,decide_true,if_true]; rfl
 ·simp only [h,decide_false,if_false,Bool.false_eq_true,all_of]
theorem or32 {b:Int} (h0:0≤b) (h1:b≤255):decide (qBy .u8 b 32=101)=(decide (b=101) || decide (b=69)):=by
 have key:∀n:Fin 256,decide (qBy .u8 (n.val:Int) 32=101)=(decide ((n.val:Int)=101) || decide ((n.val:Int)=69)):=by decide +kernel
 have:=key ⟨b.toNat,by omega⟩;simpa [Int.toNat_of_nonneg h0] using this
section
variable (s:BA) (hsz:s.size<4000000000000000000)
include hsz
theorem p_read0:zab_p0 (s.extract (atA s) s.size)=some (if badA s=true then .inl false else .inr (s.extract (atB s) s.size,s.extract (atA s) (atB s))):=by
 have hA:=atA_le s;have hAB:=atA_le_atB s;have hB:=atB_le s;have hr:runS (s.extract (atA s) s.size)=atB s - atA s:=runS_tail s (atA s);have hz:=qCo s (atA s);have hb0:=bAt_tail s (atA s) 0 (by omega);simp only [Int.add_zero] at hb0;unfold zab_p0;rw [p_run _ (by omega),obS];refine (qAb (fun h _=>by have:=of_decide_eq_true h; omega) _).trans ?_;have hbad:badA s=(decide ((runS (s.extract (atA s) s.size):Int)=0) || decide (1<(runS (s.extract (atA s) s.size):Int)) && decide (bAt (s.extract (atA s) s.size) 0=48)):=by
  rw [hr,hb0];unfold badA;rw [Bool.and_comm];congr 1
  ·rw [decide_eq_decide]; omega
  ·congr 1
   rw [decide_eq_decide]; omega
 rw [←hbad];cases hbd:badA s with
 | true=>rfl
 | false =>
  simp only [cnF];refine (qAb (by omega) _).trans ?_;refine (qAb (by omega) _).trans ?_;rw [hr,Int.toNat_natCast,head_tail,qHf,show atA s+(atB s - atA s)=atB s by omega,show min (atB s) s.size=atB s by omega];rfl
theorem p_read1:zab_p1 (s.extract (atB s) s.size) (⟨#[]⟩:BA) true=some (if (dotS s && decide (atK s=atB s+1))=true then .inl false else .inr (s.extract (atC s) s.size,fracS s,!dotS s)):=by
 have hb0:=bAt_tail s (atB s) 0 (by omega);simp only [Int.add_zero] at hb0;have hdot:decide (bAt (s.extract (atB s) s.size) 0=46)=dotS s:=by rw [hb0]; rfl
 have hz:=qCo s (atB s);unfold zab_p1;rw [p_cut,obS];simp only [hasPre_46,hdot];cases hd:dotS s with
 | false=>simp [fracS,atC,hd]
 | true =>
  have hBl:=atB_lt hd;have hKl:=atK_le hd;have hKg:=atK_ge s;have hcp:cutPre (s.extract (atB s) s.size) ⟨#[46]⟩=s.extract (atB s+1) s.size:=by
   unfold cutPre;rw [hasPre_46,hdot,hd];exact qHf s (atB s) 1
  have hr:runS (s.extract (atB s+1) s.size)=atK s - (atB s+1):=runS_tail s (atB s+1);have hz1:=qCo s (atB s+1);simp only [hcp,cnT];rw [p_run _ (by omega),obS];have hq:decide ((runS (s.extract (atB s+1) s.size):Int)=0)=decide (atK s=atB s+1):=by rw [hr,decide_eq_decide]; omega
  rw [hq];cases hk:decide (atK s=atB s+1) with
  | true=>rfl
  | false =>
   simp only [cnF];refine (qAb (by omega) _).trans ?_;refine (qAb (by omega) _).trans ?_;rw [hr,Int.toNat_natCast,head_tail,qHf,show atB s+1+(atK s - (atB s+1))=atK s by omega,show min (atK s) s.size=atK s by omega];simp [fracS,atC,hd]
theorem p_read3 (he:expS s=true):zab_p3 (s.extract (atE s) s.size)=some (if badE s=true then .inl false else .inr ((⟨#[]⟩:BA),false,(progS s).exp)):=by
 have hEl:=atE_le he;have hFl:=atF_le he;have hFg:=atF_ge s;have hr:runS (s.extract (atE s) s.size)=atF s - atE s:=runS_tail s (atE s);have hz2:=qCo s (atE s);have hne2:=tail_none s (atE s);unfold zab_p3;by_cases hn:s.extract (atE s) s.size=⟨#[]⟩
 ·have:badE s=true:=by simp [badE,he,hne2.1 hn]
  rw [deT hn,this];rfl
 ·rw [deF hn,cnF,p_run _ (by omega),obS,hr,hz2];have hle:¬s.size≤atE s:=fun h=>hn (hne2.2 h)
  have hbe:(!decide (((atF s - atE s:Nat):Int)=((s.size - atE s:Nat):Int)))=badE s:=by
   unfold badE;rw [he,Bool.true_and,deF hle,Bool.false_or,←decide_not,decide_eq_decide];omega
  rw [hbe];cases hb:badE s with
  | true=>rfl
  | false =>
   simp only [cnF];rw [p_trimL,obS];simp [progS,he,expT]
theorem p_read2 (pl:Bool):zab_p2 (s.extract (atC s) s.size) pl false (⟨#[]⟩:BA)=some (if badE s=true then .inl (false,expS s && decide (bAt s (atC s+1)=45)) else .inr (if expS s=true then ⟨#[]⟩ else s.extract (atC s) s.size,pl && !expS s,expS s && decide (bAt s (atC s+1)=45),(progS s).exp)):=by
 have hC:=atC_le s;have hb0:=bAt_tail s (atC s) 0 (by omega);simp only [Int.add_zero] at hb0;have hz:=qCo s (atC s);have hrg:=qCv s (atC s);have hne:=tail_none s (atC s);have hexp:(!decide (s.extract (atC s) s.size=⟨#[]⟩) && decide (qBy .u8 (bAt (s.extract (atC s) s.size) 0) 32=101))=expS s:=by
  unfold expS;rw [hb0];by_cases he:s.size≤atC s
  ·have:bAt s (atC s) = -1:=qBm (by omega);simp [hne.2 he,this]
  ·have hn:¬s.extract (atC s) s.size=⟨#[]⟩:=fun e=>he (hne.1 e)
   have h0:0≤bAt s (atC s):=bAt_nn (by omega) (by omega);rw [or32 h0 hrg.2];simp [hn]
 unfold zab_p2;refine (qAb (fun h=>by
  have:¬s.size≤atC s:=fun h'=>by simp [hne.2 h'] at h
  omega) _).trans ?_
 rw [hexp];cases he:expS s with
 | false=>simp [progS,he,badE]
 | true =>
  have hCl:=atC_lt he;have hEl:=atE_le he;have hb1:=bAt_tail s (atC s+1) 0 (by omega);simp only [Int.add_zero] at hb1;have hz1:=qCo s (atC s+1);have hne1:=tail_none s (atC s+1);have htt:(s.extract (atC s) s.size).extract 1 (s.extract (atC s) s.size).size=s.extract (atC s+1) s.size:=qHf s (atC s) 1;simp only [cnT];refine (qAb (by omega) _).trans ?_;simp only [htt];refine (qAb (fun h=>by
   have:¬s.size≤atC s+1:=fun h'=>by simp [hne1.2 h'] at h
   omega) _).trans ?_
  refine (qAb (fun _ h=>by
   have:¬s.size≤atC s+1:=fun h'=>by simp [hne1.2 h'] at h
   omega) _).trans ?_
  have hsg:(!decide (s.extract (atC s+1) s.size=⟨#[]⟩) && (decide (bAt (s.extract (atC s+1) s.size) 0=43) || decide (bAt (s.extract (atC s+1) s.size) 0=45)))=sgnS s:=by
   unfold sgnS;rw [hb1];by_cases h:s.size≤atC s+1
   ·have:bAt s ((atC s+1:Nat):Int) = -1:=qBm (by omega);have h2:bAt s ((atC s:Int)+1) = -1:=by rw [←this]; rfl
    simp [hne1.2 h,h2]
   ·have hn:¬s.extract (atC s+1) s.size=⟨#[]⟩:=fun e=>h (hne1.1 e)
    simp [hn]
  rw [hsg];cases hs:sgnS s with
  | false =>
   have hnd:¬bAt s ((atC s:Int)+1)=45:=fun e=>by simp [sgnS,e] at hs
   have hE:s.extract (atC s+1) s.size=s.extract (atE s) s.size:=by simp [atE,hs]
   simp only [cnF];rw [hE,p_read3 s hsz he,obS];cases badE s <;> simp [hnd]
  | true =>
   have hsl:=sgn_lt hs;have hE:(s.extract (atC s+1) s.size).extract 1 (s.extract (atC s+1) s.size).size=s.extract (atE s) s.size:=by rw [qHf]; simp [atE,hs]
   have hb1':bAt (s.extract (atC s+1) s.size) 0=bAt s ((atC s:Int)+1):=hb1;simp only [cnT];refine (qAb (by omega) _).trans ?_;refine (qAb (by omega) _).trans ?_;rw [hE,p_read3 s hsz he,obS,hb1'];cases badE s <;> simp
theorem p_read4:zab_p4 (if expS s=true then ⟨#[]⟩ else s.extract (atC s) s.size) (fracS s) (s.extract (atA s) (atB s)) (expS s && decide (bAt s (atC s+1)=45)) (progS s).exp=some (expS s || decide (s.size≤atC s),(progS s).digits,(progS s).off,(progS s).down):=by
 have hne:=tail_none s (atC s);have hi:(s.extract (atA s) (atB s)).size≤s.size:=by rw [ByteArray.size_extract]; omega
 have hfr:(fracS s).size≤s.size:=by
  unfold fracS;split
  ·rw [ByteArray.size_extract]; omega
  ·exact Nat.zero_le _
 have hap:(s.extract (atA s) (atB s)++fracS s).size=(s.extract (atA s) (atB s)).size+(fracS s).size:=ByteArray.size_append;have htl:(trimL (s.extract (atA s) (atB s)++fracS s) 48).size≤(s.extract (atA s) (atB s)++fracS s).size:=by rw [trimL,ByteArray.size_extract]; omega
 have hrest:decide ((if expS s=true then ⟨#[]⟩ else s.extract (atC s) s.size)=(⟨#[]⟩:BA))=(expS s || decide (s.size≤atC s)):=by
  cases he:expS s
  ·simp [hne]
  ·simp
 have hdn:(progS s).down=(expS s && decide (bAt s (atC s+1)=45) && !decide ((progS s).exp=⟨#[]⟩)):=by
  cases he:expS s
  ·simp [progS,he]
  ·simp [progS,he]
 unfold zab_p4;refine (qAb (by omega) _).trans ?_;rw [p_trimL,obS];refine (qAb (by unfold qAf; omega) _).trans ?_;refine (qAb (by unfold qAf; omega) _).trans ?_;rw [p_trimR _ (by omega),obS,hrest,hdn];cases decide ((progS s).exp=⟨#[]⟩) <;> simp [progS]
theorem p_readA (m:Bool) (hm:m=decide (bAt s 0=45)):((zab_p0 (s.extract (atA s) s.size)).bind fun o3=>(Sum.elim (fun (o3_0:Bool) =>
   some ((⟨m,(⟨#[]⟩:BA),(⟨#[]⟩:BA),(0:Int),true,false,(⟨#[]⟩:BA)⟩:decimal_number),o3_0)) (fun (o3_1:BA × BA) =>
   (zab_p1 o3_1.1 (⟨#[]⟩:BA) true).bind fun o6=>(Sum.elim (fun (o6_0:Bool) =>
    some ((⟨m,o3_1.2,(⟨#[]⟩:BA),(0:Int),true,false,(⟨#[]⟩:BA)⟩:decimal_number),o6_0)) (fun (o6_1:BA × BA × Bool) =>
    (zab_p2 o6_1.1 o6_1.2.2 false (⟨#[]⟩:BA)).bind fun o11=>(Sum.elim (fun (o11_0:Bool × Bool) =>
     some ((⟨m,o3_1.2,(⟨#[]⟩:BA),(0:Int),o6_1.2.2,o11_0.2,(⟨#[]⟩:BA)⟩:decimal_number),o11_0.1)) (fun (o11_1:BA × Bool × Bool × BA) =>
     (zab_p4 o11_1.1 o6_1.2.1 o3_1.2 o11_1.2.2.1 o11_1.2.2.2).bind fun o14 =>
     some ((⟨m,o3_1.2,o14.2.1,o14.2.2.1,o11_1.2.1,o14.2.2.2,o11_1.2.2.2⟩:decimal_number),o14.1))) o11)) o6)) o3)=some (num (qGw s),qB1 s):=by
 subst hm;rw [p_read0 s hsz,obS];cases hbd:badA s with
 | true =>
  have hro:qB1 s=false:=by simp [qB1,hbd]
  rw [progAll_1 hbd,hro];rfl
 | false =>
  simp only [Bool.false_eq_true,if_false,Sum.elim_inr];rw [p_read1 s hsz,obS];cases hdk:(dotS s && decide (atK s=atB s+1)) with
  | true =>
   have hro:qB1 s=false:=by simp only [qB1,hbd,hdk,Bool.not_true,Bool.not_false,Bool.and_false,Bool.false_and]
   rw [progAll_2 hbd hdk,hro];rfl
  | false =>
   simp only [Bool.false_eq_true,if_false,Sum.elim_inr];rw [p_read2 s hsz,obS];cases hbe:badE s with
   | true =>
    have hro:qB1 s=false:=by
     rw [←progOk_eq];simp [progOk,hbe]
    rw [progAll_3 hbd hdk hbe,hro];rfl
   | false =>
    have hro:qB1 s=(expS s || decide (s.size≤atC s)):=by
     rw [←progOk_eq];simp only [progOk,hbd,hdk,hbe,Bool.not_false,Bool.true_and]
    simp only [Bool.false_eq_true,if_false,Sum.elim_inr];rw [p_read4 s hsz,obS,progAll_4 hbd hdk hbe,hro];rfl
theorem p_read:zab_s s 0=some (num (qGw s),qB1 s):=by
 unfold zab_s;rw [deT rfl,cnT,p_cut,obS,hasPre_45,cut_45];exact p_readA s hsz _ rfl
end
end Go.Proofs.YtpobbbpphnnnhaaGreatDoor
namespace Go.Proofs.YtpobbbpphnnnhaaGreatDoor
open Go.Eng
set_option linter.unusedVariables false
set_option linter.unusedSimpArgs false
theorem p_Valid (s:BA) (hs:s.size≤3000000):zaa_s s=some (qB1 s):=by
 unfold zaa_s;rw [p_read s (by omega)];rfl
theorem r_Valid (s:BA) (hs:s.size≤3000000):zct_s s=some (qB1 s):=by
 unfold zct_s;rw [p_Read s (by omega)];rfl
instance memDec (s:BA):(l:List BA)→Decidable (s∈l)
 | []=>isFalse (by simp)
 | x::r=>if h:s=x then isTrue (by simp [h]) else match memDec s r with
  | isTrue h2=>isTrue (List.mem_cons_of_mem _ h2)
  | isFalse h2=>isFalse (by simp [h,h2])
structure NmR (obj:Bool) (nm:MapC) (names:List BA):Prop where
 some_:nm.isSome=obj
 mem:∀s,obj=true→(0<mget nm s↔s∈names)
inductive Rd (α:Type)
 | ok (b:Nat) (x:α)
 | bad (c:Int) (b:Nat)
def qBr (c:Int):Bool:=decide (c=32) || decide (c=9) || decide (c=10) || decide (c=13)
theorem qBn {t:BA} {a:Nat} (h:qBr (bAt t a)=true):a<t.size:=by
 unfold qBr at h;simp only [Bool.or_eq_true,decide_eq_true_eq] at h;have:=(qCx (s:=t) (i:=a) (by omega)).2;omega
def skipN (t:BA):Nat→Nat→Nat
 | 0,a=>a
 | n+1,a=>if qBr (bAt t (a:Int))=true then skipN t n (a+1) else a
@[irreducible] def qAq (t:BA) (a:Nat):Nat:=skipN t (t.size - a) a
theorem qFu {t:BA} {a:Nat} (h:qBr (bAt t a)=true):qAq t a=qAq t (a+1):=by
 have:=qBn h;unfold qAq;rw [show t.size - a=(t.size - (a+1))+1 by omega];show (if qBr (bAt t (a:Int))=true then _ else _)=_;rw [if_pos h]
theorem qFc {t:BA} {a:Nat} (h:qBr (bAt t a)=false):qAq t a=a:=by
 unfold qAq;cases t.size - a with
 | zero=>rfl
 | succ n =>
  show (if qBr (bAt t (a:Int))=true then _ else _)=_;rw [if_neg (by rw [h]; decide)]
theorem qB6 (t:BA) (a:Nat):a≤qAq t a:=by
 by_cases h:qBr (bAt t a)=true
 ·rw [qFu h];have:=qB6 t (a+1);omega
 ·rw [qFc (by simpa using h)];exact Nat.le_refl _
termination_by t.size - a
decreasing_by have:=qBn h; omega
theorem qA6 (t:BA) (a:Nat) (ha:a≤t.size):qAq t a≤t.size:=by
 by_cases h:qBr (bAt t a)=true
 ·rw [qFu h];exact qA6 t (a+1) (by have:=qBn h; omega)
 ·rw [qFc (by simpa using h)];exact ha
termination_by t.size - a
decreasing_by have:=qBn h; omega
theorem skipS_at (t:BA) (a:Nat):qBr (bAt t (qAq t a))=false:=by
 by_cases h:qBr (bAt t a)=true
 ·rw [qFu h];exact skipS_at t (a+1)
 ·rw [qFc (by simpa using h)];simpa using h
termination_by t.size - a
decreasing_by have:=qBn h; omega
def hexS (c:Int):Int:=if 48≤c∧c≤57 then c - 48 else if 97≤c∧c≤102 then c - 97+10 else if 65≤c∧c≤70 then c - 65+10 else -1
def qD0 (half:Bool) (i:Nat) (u d:Int):Prop:=d<0∨(half=true∧(i=0∧d≠13∨i=1∧d<12))∨(half=false∧i=1∧u=13∧12≤d)
instance (half:Bool) (i:Nat) (u d:Int):Decidable (qD0 half i u d):=by unfold qD0; exact inferInstance
def qFo (t:BA) (half:Bool) (from_:Nat):Nat→Nat→Nat→Int→Rd Int
 | 0,_,a,u=>.ok a u
 | m+1,i,a,u=>if bAt t a<0 then .bad 31 t.size else if qD0 half i u (hexS (bAt t a)) then .bad 33 from_ else qFo t half from_ m (i+1) (a+1) (16*u+hexS (bAt t a))
def pairR (t:BA) (from_:Nat) (a:Nat) (u:Int):Rd Int :=
 if bAt t a<0 then .bad 31 t.size
 else if bAt t a≠92 then .bad 33 from_
 else if bAt t (a+1:Nat)<0 then .bad 31 t.size
 else if bAt t (a+1:Nat)≠117 then .bad 33 from_
 else match qFo t true from_ 4 0 (a+2) 0 with
  | .bad c b=>.bad c b
  | .ok b w=>.ok b (65536+1024*(u - 55296)+w - 56320)
def saidS (c:Int):Int:=if c=34∨c=92∨c=47 then c else if c=98 then 8 else if c=102 then 12 else if c=110 then 10 else if c=114 then 13 else if c=116 then 9 else -1
def escR (t:BA) (a:Nat):Rd Int :=
 if bAt t (a+1:Nat)<0 then .bad 31 t.size
 else if bAt t (a+1:Nat)=117 then
  match qFo t false a 4 0 (a+2) 0 with
  | .bad c b=>.bad c b
  | .ok b u=>if u<55296∨57343<u then .ok b u else pairR t a b u
 else if saidS (bAt t (a+1:Nat))<0 then .bad 33 a
 else .ok (a+2) (saidS (bAt t (a+1:Nat)))
def utfL (u:Int):List Int :=
 if u<128 then [u] else if u<2048 then [192+u / 64,128+u % 64] else if u<65536 then [224+u / 4096,128+u / 64 % 64,128+u % 64]
 else [240+u / 262144,128+u / 4096 % 64,128+u / 64 % 64,128+u % 64]
def quoR (t:BA):Nat→Nat→List Int→Rd (List Int)
 | 0,a,_=>.bad 31 a
 | n+1,a,acc =>
  if bAt t a<32 then .bad 31 a
  else if bAt t a=34 then .ok (a+1) acc
  else if bAt t a=92 then
   match escR t a with
   | .bad c b=>.bad c b
   | .ok b u=>quoR t n b (acc++utfL u)
  else if bAt t a<128 then quoR t n (a+1) (acc++[bAt t a])
  else if seqK t a=0 then quoR t n (a+seqW t a) (acc++qB9 (t.extract a (a+seqW t a)))
  else .bad (seqK t a) (if seqK t a=31 then t.size else a)
def nd0 (k:Int) (x:BA) (w:Bool) (i:Int) (n:Int):Eng.Node:=⟨k,(⟨#[]⟩:BA),x,w,i,n⟩
theorem bAt_lt {t:BA} {a:Nat} (h:0≤bAt t a):a<t.size:=by
 have:=(qCx h).2;omega
theorem qFf (c:Int) : -1≤hexS c∧hexS c≤15:=by
 unfold hexS;repeat' split
 all_goals omega
theorem fourR_ok {t:BA} {half:Bool} {f a b:Nat} {u:Int} (h:qFo t half f 4 0 a 0=.ok b u) :
  b=a+4∧b≤t.size∧0≤u∧u≤65535∧(half=true→56320≤u∧u≤57343)∧(half=false→¬(56320≤u∧u≤57343)):=by
 have r0:=qFf (bAt t a);have r1:=qFf (bAt t (a+1:Nat));have r2:=qFf (bAt t (a+1+1:Nat));have r3:=qFf (bAt t (a+1+1+1:Nat));simp only [qFo] at h;split at h
 ·cases h
 split at h
 ·cases h
 rename_i n0 b0;split at h
 ·cases h
 split at h
 ·cases h
 rename_i n1 b1;split at h
 ·cases h
 split at h
 ·cases h
 rename_i n2 b2;split at h
 ·cases h
 split at h
 ·cases h
 rename_i n3 b3;have h3:=bAt_lt (t:=t) (a:=a+1+1+1) (by omega);simp only [Rd.ok.injEq] at h;obtain ⟨rfl,rfl⟩:=h;unfold qD0 at b0 b1 b2 b3;simp only [not_or] at b0 b1 b2 b3;refine ⟨rfl,by omega,by omega,by omega,fun hh=>?_,fun hh=>?_⟩
 ·subst hh;simp only [true_and,Nat.zero_add] at b0 b1;omega
 ·subst hh;simp only [true_and,Nat.zero_add] at b0 b1;omega
theorem saidS_range (c:Int) : -1≤saidS c∧saidS c≤116:=by
 unfold saidS;repeat' split
 all_goals omega
def Code (u:Int):Prop:=0≤u∧u≤1114111∧¬(55296≤u∧u≤57343)
theorem escR_ok {t:BA} {a b:Nat} {u:Int} (h:escR t a=.ok b u):a<b∧b≤t.size∧Code u:=by
 unfold escR at h;have hr:=saidS_range (bAt t (a+1:Nat));split at h
 ·cases h
 ·rename_i h0;have hl:=bAt_lt (t:=t) (a:=a+1) (by omega);split at h
  ·split at h
   ·cases h
   ·rename_i b' u' hf;have h4:=fourR_ok hf;have h5:=h4.2.2.2.2.2 rfl;split at h
    ·cases h;exact ⟨by omega,h4.2.1,by unfold Code; omega⟩
    ·unfold pairR at h;repeat' split at h
     all_goals first | (cases h; done) | skip
     rename_i hw;have h6:=fourR_ok hw;have h7:=h6.2.2.2.2.1 rfl;cases h;exact ⟨by omega,h6.2.1,by unfold Code; omega⟩
  ·split at h
   ·cases h
   ·cases h;exact ⟨by omega,by omega,by unfold Code; omega⟩
theorem utfL_range {u:Int} (h:Code u):∀x∈utfL u,0≤x∧x<256:=by
 unfold Code at h;unfold utfL;intro x hx;repeat' split at hx
 all_goals
  simp only [List.mem_cons,List.not_mem_nil,or_false] at hx;omega
theorem utfL_len (u:Int):1≤(utfL u).length∧(utfL u).length≤4:=by
 unfold utfL;repeat' split
 all_goals simp
theorem bytesL_of' {l:List Int} (h:∀x∈l,0≤x∧x<256):qB9 (qBe l)=l:=by
 rw [bytesI_eq];unfold qB9;simp only [List.map_map];conv=>rhs; rw [←List.map_id l]
 refine List.map_congr_left fun x hx=>?_
 have:=h x hx;simp only [Function.comp,id];rw [UInt8.toNat_ofNat',Nat.mod_eq_of_lt (by omega)];omega
theorem qCs {α:Type} {c:Bool} {p:Prop} [Decidable p] (h:c=true↔p) (x y:α):(bif c then x else y)=if p then x else y:=by
 by_cases hp:p
 ·rw [if_pos hp,h.2 hp,cnT]
 ·rw [if_neg hp];cases c with
  | false=>rfl
  | true=>exact (hp (h.1 rfl)).elim
def badG (c:Int) (b:Int):qHs:=⟨0,[],⟨#[]⟩,c,b⟩
theorem r_at (t:BA) (a:Nat):zcz_s t (a:Int)=some (bAt t a):=by
 rw [(byteAt_some t a (by omega)).1];by_cases h:(t.size:Int)≤a
 ·rw [if_pos h,qBm (by omega)]
 ·rw [if_neg h]
theorem blank_cond (t:BA) (a:Nat):((decide ((a:Int)<(t.size:Int))) && ((((decide ((bAt t a)=(32:Int))) || (decide ((bAt t a)=(9:Int)))) || (decide ((bAt t a)=(10:Int)))) || (decide ((bAt t a)=(13:Int)))))=qBr (bAt t a):=by
 by_cases h:a<t.size
 ·rw [deT (by omega),Bool.true_and];rfl
 ·rw [deF (by omega),Bool.false_and,qBm (by omega)];rfl
theorem r_skip_step (t:BA) (a:Nat) (hs:t.size≤3000000):qGa t (a:Int)=some (if qBr (bAt t a)=true then .inl ((a+1:Nat):Int) else .inr (a:Int)):=by
 unfold qGa;have h:(decide ((a:Int)<(t.size:Int)))=true→0≤(a:Int)∧(a:Int)<t.size:=fun h=>⟨by omega,of_decide_eq_true h⟩
 rw [qAb h,qAb (fun _=>h),qAb (fun _=>h),qAb (fun _=>h),blank_cond];cases hb:qBr (bAt t a) with
 | true =>
  have:=qBn hb;rw [cnT,if_pos rfl,qAb (by unfold qAf; omega)];rfl
 | false=>rw [cnF,if_neg (by simp)]
theorem r_skip0 (t:BA) (hs:t.size≤3000000) (a:Nat):zdg_p0 t (a:Int)=some (qAq t a:Int):=by
 have hst:=r_skip_step t a hs;unfold zdg_p0;by_cases h:qBr (bAt t a)=true
 ·rw [if_pos h] at hst;rw [qAr hst,qFu h];exact r_skip0 t hs (a+1)
 ·rw [if_neg h] at hst;rw [qAi hst,qFc (by simpa using h)]
termination_by t.size - a
decreasing_by have:=qBn h; omega
theorem r_skip (t:BA) (hs:t.size≤3000000) (a:Nat):zdg_s t (a:Int)=some (qAq t a:Int):=by
 unfold zdg_s;rw [r_skip0 t hs];rfl
theorem ext_le (t:BA) (a b:Nat) (hs:t.size≤3000000):(t.extract a b).size≤3000000:=by
 rw [ByteArray.size_extract];omega
theorem bytesL_cons {s:BA} {i:Nat} (h:i<s.size):(qB9 s).drop i=bAt s i::(qB9 s).drop (i+1):=by
 have hl:i<(qB9 s).length:=by simp only [qB9,List.length_map,Array.length_toList]; exact h
 rw [List.drop_eq_getElem_cons hl];congr 1
 rw [bAt_in h];simp only [qB9,List.getElem_map];rfl
end Go.Proofs.YtpobbbpphnnnhaaGreatDoor
