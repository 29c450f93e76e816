/-
  Texts of a claim.
-/
import Derived.Lib.ValidLaws
import Derived.Lib.DecodeNEq
import Derived.Test.YtnifdcmeffnpaaaGreatDoorEngH
import Derived.Test.YtnifdcmeffnpaaaGreatDoorPDecRef
import Derived.Test.YtnifdcmeffnpaaaGreatDoorJS
import Derived.Test.YtnifdcmeffnpaaaGreatDoorJQ
import Derived.Test.YtnifdcmeffnpaaaGreatDoorDecRel
import Derived.Test.YtnifdcmeffnpaaaGreatDoorGC
namespace Go.Proofs.YtnifdcmeffnpaaaGreatDoor
open Go.Eng
set_option linter.unusedVariables false
set_option linter.unusedSimpArgs false
theorem nd_get {v:List Eng.Node} {a:Nat} {n:Eng.Node} (h:v[a]?=some n):v.getD a (ET.dft .node)=n:=by
 rw [List.getD_eq_getElem?_getD,h]; rfl
structure OkN (n:Eng.Node):Prop where
 key:n.key.size≤3000000
 text:n.text.size≤3000000
 kids:qAe n.kids
theorem bAt_byte (t:BA) (i:Int) : -1≤bAt t i∧bAt t i≤255:=by
 unfold bAt;split
 ·split
  ·rename_i b _;have:=b.toNat_lt;omega
  ·omega
 ·omega
theorem byteAt_some (t:BA) (at_:Int) (h0:0≤at_):qDi t at_=some (if (t.size:Int)≤at_ then -1 else bAt t at_)∧(0≤(if (t.size:Int)≤at_ then -1 else bAt t at_)→at_<t.size):=by
 have:=bAt_byte t at_;unfold qDi;by_cases h:(t.size:Int)≤at_
 ·rw [deT h,cnT,if_pos h];exact ⟨rfl,fun h=>by omega⟩
 ·rw [deF h,cnF,if_neg h];refine ⟨(qAa (by omega) _).trans (qAa (by unfold qAe; omega) _),fun _=>by omega⟩
def by8 (t:BA) (i:Nat):Nat:=(t.get! i).toNat
theorem by8_lt (t:BA) (i:Nat):by8 t i<256:=UInt8.toNat_lt _
theorem by8_in {t:BA} {i:Nat} (h:i<t.size):bAt t (i:Int)=(by8 t i:Int):=by
 rw [bAt_in h];unfold by8;congr 2
 cases t with
 | mk d=>exact (getElem!_pos d i h).symm
def contN (n:Nat) (b:Nat→Nat):Nat→Nat→Nat→Nat→Int
 | 0,_,_,_=>0
 | m+1,i,lo,hi=>if n≤i then 31 else if b i<lo∨hi<b i then 32 else contN n b m (i+1) 128 191
theorem contN_cases (n:Nat) (b:Nat→Nat):∀(m i lo hi:Nat),contN n b m i lo hi=0∨contN n b m i lo hi=31∨contN n b m i lo hi=32
 | 0,_,_,_=>.inl rfl
 | m+1,i,lo,hi=>by
  unfold contN;split
  ·exact .inr (.inl rfl)
  ·split
   ·exact .inr (.inr rfl)
   ·exact contN_cases n b m _ _ _
theorem p_cont (t:BA) (a:Nat) (ha:a≤t.size) (hs:t.size≤3000000):∀(m i lo hi:Nat),1≤i→i+m≤5 →
  zcr_p0 t (a:Int) ((i:Int)+m - 1) (lo:Int) (hi:Int) (i:Int)=some (if contN (t.size - a) (fun k=>by8 t (a+k)) m i lo hi=0 then .inr () else .inl (0,⟨#[]⟩,contN (t.size - a) (fun k=>by8 t (a+k)) m i lo hi,if contN (t.size - a) (fun k=>by8 t (a+k)) m i lo hi=31 then (t.size:Int) else (a:Int),[]))
 | 0,i,lo,hi,h1,h2=>by
  rw [contN,if_pos rfl];unfold zcr_p0;refine qAh ?_;unfold qDa;dsimp only;rw [deF (by omega),cnF]
 | m+1,i,lo,hi,h1,h2=>by
  obtain ⟨b1,b2⟩:=byteAt_some t ((a:Int)+i) (by omega);have e:contN (t.size - a) (fun k=>by8 t (a+k)) (m+1) i lo hi=if t.size - a≤i then 31 else if by8 t (a+i)<lo∨hi<by8 t (a+i) then 32 else contN (t.size - a) (fun k=>by8 t (a+k)) m (i+1) 128 191:=rfl
  have hin:((i:Int)≤(i:Int)+((m+1:Nat):Int) - 1):=by omega
  generalize hn:(i:Int)+((m+1:Nat):Int) - 1=n at *
  by_cases hc:t.size - a≤i
  ·rw [if_pos hc] at e;rw [e,if_neg (by decide),if_pos rfl];unfold zcr_p0;refine qAh ?_;unfold qDa;dsimp only;rw [deT hin,cnT,qAa (by unfold qAe; omega),b1,if_pos (by omega),obS,deT (by decide),cnT];rfl
  ·rw [if_neg hc] at e;have hb:=by8_in (t:=t) (i:=a+i) (by omega);rw [show ((a+i:Nat):Int)=(a:Int)+i by omega] at hb;rw [if_neg (by omega),hb] at b1;by_cases hd:by8 t (a+i)<lo∨hi<by8 t (a+i)
   ·rw [if_pos hd] at e;rw [e,if_neg (by decide),if_neg (by decide)];unfold zcr_p0;refine qAh ?_;unfold qDa;dsimp only;rw [deT hin,cnT,qAa (by unfold qAe; omega),b1,obS,deF (by omega),cnF];have:(decide ((by8 t (a+i):Int)<(lo:Int)) || decide ((hi:Int)<(by8 t (a+i):Int)))=true:=by
     simp only [Bool.or_eq_true,decide_eq_true_eq]; omega
    rw [this,cnT];rfl
   ·rw [if_neg hd] at e;rw [e];have ih:=p_cont t a ha hs m (i+1) 128 191 (by omega) (by omega);rw [show ((i+1:Nat):Int)+m - 1=n by omega] at ih;rw [←ih];unfold zcr_p0;refine qAs (y:=(((128:Nat):Int),((191:Nat):Int),((i+1:Nat):Int))) ?_;unfold qDa;dsimp only;rw [deT hin,cnT,qAa (by unfold qAe; omega),b1,obS,deF (by omega),cnF];have:(decide ((by8 t (a+i):Int)<(lo:Int)) || decide ((hi:Int)<(by8 t (a+i):Int)))=false:=by
     simp only [Bool.or_eq_false_iff,decide_eq_false_iff_not]; omega
    rw [this,cnF];exact qAa (by unfold qAe; omega) _
set_option maxRecDepth 100000 in
theorem p_bounds':∀c:Fin 256,128≤c.val→zcf_s (c.val:Int)=some (if Lib.firstT c.val=241 then (-1,0,0) else (((Lib.firstT c.val % 8:Nat):Int) - 1,((Lib.accLo (Lib.firstT c.val / 16):Nat):Int),((Lib.accHi (Lib.firstT c.val / 16):Nat):Int))):=by
 decide +kernel
theorem firstT_low:∀c:Fin 256,128≤c.val→Lib.firstT c.val≠240:=by decide +kernel
def seqK (t:BA) (a:Nat):Int :=
 if Lib.firstT (by8 t a)=241 then 32 else contN (t.size - a) (fun k=>by8 t (a+k)) (Lib.firstT (by8 t a) % 8 - 1) 1 (Lib.accLo (Lib.firstT (by8 t a) / 16)) (Lib.accHi (Lib.firstT (by8 t a) / 16))
def seqW (t:BA) (a:Nat):Nat:=Lib.firstT (by8 t a) % 8
theorem seqK_cases (t:BA) (a:Nat):seqK t a=0∨seqK t a=31∨seqK t a=32:=by
 unfold seqK;split
 ·exact .inr (.inr rfl)
 ·exact contN_cases _ _ _ _ _ _
theorem firstT_three {b:Nat} (h:128≤b) (hb:b<256) (h2:Lib.firstT b≠241):2≤Lib.firstT b % 8∧Lib.firstT b % 8≤4:=by
 have:=firstT_low ⟨b,hb⟩ h;rcases Lib.firstT_cases b with h | h | h | h | h | h | h | h | h <;> simp only [h] at * <;> omega
theorem contN_in {n:Nat} {b:Nat→Nat}:∀ {m i lo hi:Nat},contN n b m i lo hi=0→m=0∨i+m≤n
 | 0,_,_,_,_=>.inl rfl
 | m+1,i,lo,hi,h=>by
  unfold contN at h;split at h
  ·cases h
  ·split at h
   ·cases h
   ·rcases contN_in h with h | h <;> omega
theorem seqW_in {t:BA} {a:Nat} (ha:a<t.size) (h:128≤by8 t a) (h0:seqK t a=0):a+seqW t a≤t.size∧2≤seqW t a∧seqW t a≤4:=by
 unfold seqK at h0;unfold seqW;split at h0
 ·cases h0
 ·rename_i h1;have:=firstT_three h (by8_lt t a) h1;rcases contN_in h0 with h2 | h2 <;> omega
theorem p_seq {t:BA} {a:Nat} (ha:a<t.size) (hs:t.size≤3000000) (h:128≤by8 t a) :
  zcr_s t (a:Int)=some (if seqK t a=0 then ⟨((a+seqW t a:Nat):Int),[],t.extract a (a+seqW t a),0,0⟩ else ⟨0,[],⟨#[]⟩,seqK t a,if seqK t a=31 then (t.size:Int) else (a:Int)⟩):=by
 have hb:=by8_in ha;have hl:=by8_lt t a;have hbo:=p_bounds' ⟨by8 t a,hl⟩ h;simp only at hbo;have hi:=@seqW_in t a ha h;unfold zcr_s;rw [qAa (by omega),qAa (by unfold qAe; rw [hb]; omega),hb,hbo,obS];by_cases h1:Lib.firstT (by8 t a)=241
 ·have e:seqK t a=32:=by unfold seqK; rw [if_pos h1]
  rw [if_pos h1,e,if_neg (by decide),if_neg (by decide)];rw [deT (by decide),cnT];rfl
 ·have h3:=firstT_three h hl h1;have e:seqK t a=contN (t.size - a) (fun k=>by8 t (a+k)) (Lib.firstT (by8 t a) % 8 - 1) 1 (Lib.accLo (Lib.firstT (by8 t a) / 16)) (Lib.accHi (Lib.firstT (by8 t a) / 16)):=by unfold seqK; rw [if_neg h1]
  rw [if_neg h1];have hw:seqW t a=Lib.firstT (by8 t a) % 8:=rfl;have pc:=p_cont t a (by omega) hs (Lib.firstT (by8 t a) % 8 - 1) 1 (Lib.accLo (Lib.firstT (by8 t a) / 16)) (Lib.accHi (Lib.firstT (by8 t a) / 16)) (by omega) (by omega);rw [←e] at pc;rw [show ((1:Nat):Int)+((Lib.firstT (by8 t a) % 8 - 1:Nat):Int) - 1=((Lib.firstT (by8 t a) % 8:Nat):Int) - 1 by omega] at pc;rw [←hw] at pc h3 ⊢;dsimp only;rw [deF (by omega),cnF];rw [show ((1:Nat):Int)=1 from rfl] at pc;rw [pc,obS];by_cases h0:seqK t a=0
  ·rw [if_pos h0,if_pos h0];have hi:=hi h0;simp only [Sum.elim_inr];refine (qAa (by unfold qAe; omega) _).trans ((qAa (by unfold qAe; omega) _).trans ((qAa (by unfold qAe; omega) _).trans ((qAa (by unfold qAe; omega) _).trans ((qAa (by omega) _).trans ?_))));rw [show (a:Int)+((seqW t a:Int) - 1)+1=((a+seqW t a:Nat):Int) by omega];simp only [Int.toNat_natCast]
  ·rw [if_neg h0,if_neg h0];rfl
set_option maxRecDepth 100000 in
set_option maxHeartbeats 4000000 in
theorem seq_dec {t:BA} {a:Nat} (ha:a<t.size) (h:128≤by8 t a) :
  (seqK t a=0→(Utf8.decode t a).2=seqW t a) ∧
  (seqK t a≠0→Utf8.decode t a=(65533,1)∧(qFx (t.size - a) (by8 t a) (by8 t (a+1)) (by8 t (a+2))=!decide (seqK t a=31))):=by
 have l0:=by8_lt t a;have l1:=by8_lt t (a+1);have l2:=by8_lt t (a+2);have l3:=by8_lt t (a+3);have hd:Utf8.decode t a=Lib.decodeN (t.size - a) (by8 t a) (by8 t (a+1)) (by8 t (a+2)) (by8 t (a+3)):=Lib.decode_at t a;have hf:=firstT_low ⟨by8 t a,l0⟩ h;simp only at hf;rw [hd];unfold seqK seqW;by_cases h1:Lib.firstT (by8 t a)=241
 ·rw [if_pos h1];refine ⟨fun h=>(by cases h),fun _=>⟨Lib.bad_eq _ _ _ _ _ l0 h1,?_⟩⟩;unfold qFx;rw [if_neg (by omega),h1,if_pos (by omega)];rfl
 ·rw [if_neg h1,←Lib.slow_eq _ _ _ _ _ (by omega) l1 l2 l3 (by rcases Lib.firstT_cases (by8 t a) with h | h | h | h | h | h | h | h | h <;> omega)]
  have hn:1≤t.size - a:=by omega
  generalize t.size - a=n at *
  unfold qFx;generalize hb1:by8 t (a+1)=b1 at *
  generalize hb2:by8 t (a+2)=b2 at *
  generalize hb3:by8 t (a+3)=b3 at *
  generalize by8 t a=b0 at *
  rcases Lib.firstT_cases b0 with g | g | g | g | g | g | g | g | g <;> first | exact (hf g).elim | exact (h1 g).elim | rw [g]
  all_goals
   simp only [Nat.reduceMod,Nat.reduceDiv,Nat.reduceSub,contN,Lib.slowN,Lib.accLo,Lib.accHi,Nat.reduceEqDiff,Nat.reduceAdd,Nat.reduceLeDiff,if_true,if_false,hb1,hb2,hb3];repeat' split
   all_goals first | (exfalso; omega) | (refine ⟨fun h=>?_,fun h=>⟨?_,?_⟩⟩ <;> first | rfl | (exfalso; omega) | (cases h) | (exact (h rfl).elim))
end Go.Proofs.YtnifdcmeffnpaaaGreatDoor
namespace Go.Proofs.YtnifdcmeffnpaaaGreatDoor
open Go.Eng
set_option linter.unusedVariables false
set_option linter.unusedSimpArgs false
theorem p_run (s:BA) (h:s.size<9223372036854775807):zac_s s=some (runS s:Int):=by
 unfold zac_s zac_p0;rw [qC7 (fun x:Int=>∃k:Nat,x=k∧k≤s.size∧qCi s k=qCi s 0) (fun x=>s.size - x.toNat) (fun _=>(qCi s 0:Int)) ?_ (x:=(0:Int)) ⟨0,rfl,by omega,rfl⟩]
 ·rfl
 rintro _ ⟨k,rfl,hk,hm⟩
 unfold zac_p0_step;have key:((decide ((k:Int)<(s.size:Int)) && decide ((48:Int)≤bAt s k)) && decide (bAt s k≤57))=digS s k:=by
  unfold digS;by_cases hlt:(k:Int)<s.size
  ·simp [hlt]
  ·have:=qBo hlt;simp [hlt,this]
 rw [key];cases hd:digS s k with
 | true =>
  left;have hlt:=qFr hd;refine ⟨((k+1:Nat):Int),?_,⟨k+1,rfl,by omega,by rw [←hm,qDo hd]⟩,by omega,rfl⟩;refine (qAa (fun _=>by omega) _).trans ?_;refine (qAa (fun _=>by omega) _).trans ?_;refine (qAa (by unfold qAe; omega) _).trans ?_;rfl
 | false =>
  right;refine (qAa (fun h=>by have:=of_decide_eq_true h; omega) _).trans ?_;refine (qAa (fun h=>by have:=of_decide_eq_true (Bool.and_eq_true _ _ ▸ h).1; omega) _).trans ?_;show some (Sum.inr (k:Int))=_;rw [←hm,qEz hd]
theorem p_trimL1 (s:BA) (b:Int):zda_s s b=some (trimL s b):=by
 unfold zda_s zda_p0;rw [qC7 (fun x:BA=>∃k:Nat,x=s.extract k s.size∧k≤s.size∧leadB s b k=leadB s b 0) (fun x=>x.size) (fun _=>trimL s b) ?_ ⟨0,(all_of s).symm,by omega,rfl⟩]
 ·rfl
 rintro _ ⟨k,rfl,hk,hm⟩
 unfold zda_p0_step;have hz:=qCd s k;have hb:=bAt_tail s k 0 (by omega);simp only [Int.add_zero] at hb;rw [hb];by_cases hq:k<s.size∧bAt s k=b
 ·left;refine ⟨s.extract (k+1) s.size,?_,⟨k+1,rfl,by omega,by rw [←hm,leadB_yes hq]⟩,by rw [qCd,qCd]; omega,rfl⟩;refine (qAa (fun _=>by omega) _).trans ?_;have:(decide ((0:Int)<((s.extract k s.size).size:Int)) && decide (bAt s k=b))=true:=by simp only [Bool.and_eq_true,decide_eq_true_eq]; exact ⟨by omega,hq.2⟩
  rw [this,cnT];refine (qAa (by omega) _).trans ?_;rw [qGt]
 ·right;refine (qAa (fun h=>by have:=of_decide_eq_true h; omega) _).trans ?_;have:(decide ((0:Int)<((s.extract k s.size).size:Int)) && decide (bAt s k=b))=false:=by
   rw [Bool.and_eq_false_iff,decide_eq_false_iff_not,decide_eq_false_iff_not];by_cases h1:k<s.size
   ·exact .inr fun h=>hq ⟨h1,h⟩
   ·exact .inl (by omega)
  rw [this,cnF,trimL,←hm,leadB_no hq]
theorem p_trimR1 (s:BA) (b:Int) (h:s.size<9223372036854775807):zdb_s s b=some (trimR s b):=by
 unfold zdb_s zdb_p0;rw [qC7 (fun x:BA=>∃k:Nat,x=s.extract 0 k∧k≤s.size∧backB s b k=backB s b s.size) (fun x=>x.size) (fun _=>trimR s b) ?_ ⟨s.size,(all_of s).symm,by omega,rfl⟩]
 ·rfl
 rintro _ ⟨k,rfl,hk,hm⟩
 unfold zdb_p0_step;have hz:(s.extract 0 k).size=k:=by rw [ByteArray.size_extract]; omega
 simp only [hz];cases k with
 | zero =>
  right;refine (qAa (fun h=>by simp at h) _).trans ?_;refine (qAa (fun h=>by simp at h) _).trans ?_;rw [trimR,←hm];rfl
 | succ n =>
  have hb:bAt (s.extract 0 (n+1)) (((n+1:Nat):Int) - 1)=bAt s n:=by
   rw [bAt_extract s 0 (n+1) _ (by omega) (by omega)];congr 1
   omega
  rw [hb];have e0:decide ((0:Int)<((n+1:Nat):Int))=true:=by simp only [decide_eq_true_eq]; omega
  rw [e0];by_cases hq:bAt s n=b
  ·left;refine ⟨s.extract 0 n,?_,⟨n,rfl,by omega,by rw [←hm]; show _=backB s b (n+1); rw [backB,if_pos hq]⟩,by rw [ByteArray.size_extract]; omega,tV⟩;refine (qAa (fun _=>by unfold qAe; omega) _).trans ?_;refine (qAa (fun _=>by omega) _).trans ?_;have:(true && decide (bAt s n=b))=true:=by simp [hq]
   rw [this,cnT];refine (qAa (by unfold qAe; omega) _).trans ?_;refine (qAa (by omega) _).trans ?_;rw [show Int.toNat (((n+1:Nat):Int) - 1)=n by omega,ByteArray.extract_extract];congr 3
   omega
  ·right;refine (qAa (fun _=>by unfold qAe; omega) _).trans ?_;refine (qAa (fun _=>by omega) _).trans ?_;have:(true && decide (bAt s n=b))=false:=by simp [hq]
   rw [this,cnF,trimR,←hm,backB,if_neg hq]
theorem p_trimL (s:BA):zcy_s s (⟨#[48]⟩:BA)=some (trimL s 48):=by
 unfold zcy_s;have h1:decide ((⟨#[48]⟩:BA)=(⟨#[]⟩:BA))=false:=by decide
 rw [h1,Bool.or_false];by_cases he:s=⟨#[]⟩
 ·rw [deT he,cnT];congr 1
  have:=eq_none.1 he;unfold trimL;rw [he];refine (eq_none.2 ?_).symm;rw [ByteArray.size_extract];have:(⟨#[]⟩:BA).size=0:=rfl;omega
 ·rw [deF he,cnF];refine (qAa (fun _=>by decide) _).trans ?_;have h2:(decide (((⟨#[48]⟩:BA).size:Int)=1) && decide (bAt (⟨#[48]⟩:BA) 0<128))=true:=by decide
  rw [h2,cnT];refine (qAa (by decide) _).trans ?_;rw [show bAt (⟨#[48]⟩:BA) 0=48 by decide,p_trimL1];rfl
theorem p_trimR (s:BA) (h:s.size<9223372036854775807):zcz_s s (⟨#[48]⟩:BA)=some (trimR s 48):=by
 unfold zcz_s;have h1:decide ((⟨#[48]⟩:BA)=(⟨#[]⟩:BA))=false:=by decide
 rw [h1,Bool.or_false];by_cases he:s=⟨#[]⟩
 ·rw [deT he,cnT];congr 1
  have:=eq_none.1 he;unfold trimR;rw [he];refine (eq_none.2 ?_).symm;rw [ByteArray.size_extract];have:(⟨#[]⟩:BA).size=0:=rfl;omega
 ·rw [deF he,cnF];refine (qAa (fun _=>by decide) _).trans ?_;have h2:(decide (((⟨#[48]⟩:BA).size:Int)=1) && decide (bAt (⟨#[48]⟩:BA) 0<128))=true:=by decide
  rw [h2,cnT];refine (qAa (by decide) _).trans ?_;rw [show bAt (⟨#[48]⟩:BA) 0=48 by decide,p_trimR1 s 48 h];rfl
theorem p_cut (s p:BA):zcx_s s p=some (cutPre s p,hasPre s p):=by
 unfold zcx_s zad_s zae_s;rw [qAa (fun h=>by have:=of_decide_eq_true h; omega)];have e:(decide ((p.size:Int)≤(s.size:Int)) && decide (s.extract 0 (Int.toNat (p.size:Int))=p))=hasPre s p:=by
  simp only [hasPre,Int.ofNat_le,Int.toNat_natCast]
 rw [e];simp only [obS];unfold cutPre;cases h:hasPre s p with
 | true =>
  have:=hasPre_le h;simp only [Bool.not_true,cnF,if_true];rw [qAa (by omega)];simp only [obS,Int.toNat_natCast]
 | false=>simp
def num (n:PNum):decimal_number:=⟨n.minus,n.int,n.digits,n.off,n.plain,n.down,n.exp⟩
theorem hasPre_45 (s:BA):hasPre s (⟨#[45]⟩:BA)=decide (bAt s 0=45):=hasPre_one rfl
theorem hasPre_46 (s:BA):hasPre s (⟨#[46]⟩:BA)=decide (bAt s 0=46):=hasPre_one rfl
theorem cut_45 (s:BA):cutPre s (⟨#[45]⟩:BA)=s.extract (atA s) s.size:=by
 unfold cutPre atA;rw [hasPre_45];by_cases h:bAt s 0=45
 ·simp only [h,decide_true,if_true]; rfl
 ·simp only [h,decide_false,if_false,Bool.false_eq_true,all_of]
theorem or32 {b:Int} (h0:0≤b) (h1:b≤255):decide (qBv .u8 b 32=101)=(decide (b=101) || decide (b=69)):=by
 have key:∀n:Fin 256,decide (qBv .u8 (n.val:Int) 32=101)=(decide ((n.val:Int)=101) || decide ((n.val:Int)=69)):=by decide +kernel
 have:=key ⟨b.toNat,by omega⟩;simpa [Int.toNat_of_nonneg h0] using this
section
variable (s:BA) (hsz:s.size<4000000000000000000)
include hsz
theorem p_read0:zab_p0 (s.extract (atA s) s.size)=some (if badA s=true then .inl false else .inr (s.extract (atB s) s.size,s.extract (atA s) (atB s))):=by
 have hA:=atA_le s;have hAB:=atA_le_atB s;have hB:=atB_le s;have hr:runS (s.extract (atA s) s.size)=atB s - atA s:=runS_tail s (atA s);have hz:=qCd s (atA s);have hb0:=bAt_tail s (atA s) 0 (by omega);simp only [Int.add_zero] at hb0;unfold zab_p0;rw [p_run _ (by omega),obS];refine (qAa (fun h _=>by have:=of_decide_eq_true h; omega) _).trans ?_;have hbad:badA s=(decide ((runS (s.extract (atA s) s.size):Int)=0) || decide (1<(runS (s.extract (atA s) s.size):Int)) && decide (bAt (s.extract (atA s) s.size) 0=48)):=by
  rw [hr,hb0];unfold badA;rw [Bool.and_comm];congr 1
  ·rw [decide_eq_decide]; omega
  ·congr 1
   rw [decide_eq_decide]; omega
 rw [←hbad];cases hbd:badA s with
 | true=>rfl
 | false =>
  simp only [cnF];refine (qAa (by omega) _).trans ?_;refine (qAa (by omega) _).trans ?_;rw [hr,Int.toNat_natCast,head_tail,qGt,show atA s+(atB s - atA s)=atB s by omega,show min (atB s) s.size=atB s by omega];rfl
theorem p_read1:zab_p1 (s.extract (atB s) s.size) (⟨#[]⟩:BA) true=some (if (dotS s && decide (atK s=atB s+1))=true then .inl false else .inr (s.extract (atC s) s.size,fracS s,!dotS s)):=by
 have hb0:=bAt_tail s (atB s) 0 (by omega);simp only [Int.add_zero] at hb0;have hdot:decide (bAt (s.extract (atB s) s.size) 0=46)=dotS s:=by rw [hb0]; rfl
 have hz:=qCd s (atB s);unfold zab_p1;rw [p_cut,obS];simp only [hasPre_46,hdot];cases hd:dotS s with
 | false=>simp [fracS,atC,hd]
 | true =>
  have hBl:=atB_lt hd;have hKl:=atK_le hd;have hKg:=atK_ge s;have hcp:cutPre (s.extract (atB s) s.size) ⟨#[46]⟩=s.extract (atB s+1) s.size:=by
   unfold cutPre;rw [hasPre_46,hdot,hd];exact qGt s (atB s) 1
  have hr:runS (s.extract (atB s+1) s.size)=atK s - (atB s+1):=runS_tail s (atB s+1);have hz1:=qCd s (atB s+1);simp only [hcp,cnT];rw [p_run _ (by omega),obS];have hq:decide ((runS (s.extract (atB s+1) s.size):Int)=0)=decide (atK s=atB s+1):=by rw [hr,decide_eq_decide]; omega
  rw [hq];cases hk:decide (atK s=atB s+1) with
  | true=>rfl
  | false =>
   simp only [cnF];refine (qAa (by omega) _).trans ?_;refine (qAa (by omega) _).trans ?_;rw [hr,Int.toNat_natCast,head_tail,qGt,show atB s+1+(atK s - (atB s+1))=atK s by omega,show min (atK s) s.size=atK s by omega];simp [fracS,atC,hd]
theorem p_read3 (he:expS s=true):zab_p3 (s.extract (atE s) s.size)=some (if badE s=true then .inl false else .inr ((⟨#[]⟩:BA),false,(qFc s).exp)):=by
 have hEl:=atE_le he;have hFl:=atF_le he;have hFg:=atF_ge s;have hr:runS (s.extract (atE s) s.size)=atF s - atE s:=runS_tail s (atE s);have hz2:=qCd s (atE s);have hne2:=tail_none s (atE s);unfold zab_p3;by_cases hn:s.extract (atE s) s.size=⟨#[]⟩
 ·have:badE s=true:=by simp [badE,he,hne2.1 hn]
  rw [deT hn,this];rfl
 ·rw [deF hn,cnF,p_run _ (by omega),obS,hr,hz2];have hle:¬s.size≤atE s:=fun h=>hn (hne2.2 h)
  have hbe:(!decide (((atF s - atE s:Nat):Int)=((s.size - atE s:Nat):Int)))=badE s:=by
   unfold badE;rw [he,Bool.true_and,deF hle,Bool.false_or,←decide_not,decide_eq_decide];omega
  rw [hbe];cases hb:badE s with
  | true=>rfl
  | false =>
   simp only [cnF];rw [p_trimL,obS];simp [qFc,he,expT]
theorem p_read2 (pl:Bool):zab_p2 (s.extract (atC s) s.size) pl false (⟨#[]⟩:BA)=some (if badE s=true then .inl (false,expS s && decide (bAt s (atC s+1)=45)) else .inr (if expS s=true then ⟨#[]⟩ else s.extract (atC s) s.size,pl && !expS s,expS s && decide (bAt s (atC s+1)=45),(qFc s).exp)):=by
 have hC:=atC_le s;have hb0:=bAt_tail s (atC s) 0 (by omega);simp only [Int.add_zero] at hb0;have hz:=qCd s (atC s);have hrg:=qCy s (atC s);have hne:=tail_none s (atC s);have hexp:(!decide (s.extract (atC s) s.size=⟨#[]⟩) && decide (qBv .u8 (bAt (s.extract (atC s) s.size) 0) 32=101))=expS s:=by
  unfold expS;rw [hb0];by_cases he:s.size≤atC s
  ·have:bAt s (atC s) = -1:=qBo (by omega);simp [hne.2 he,this]
  ·have hn:¬s.extract (atC s) s.size=⟨#[]⟩:=fun e=>he (hne.1 e)
   have h0:0≤bAt s (atC s):=bAt_nn (by omega) (by omega);rw [or32 h0 hrg.2];simp [hn]
 unfold zab_p2;refine (qAa (fun h=>by
  have:¬s.size≤atC s:=fun h'=>by simp [hne.2 h'] at h
  omega) _).trans ?_
 rw [hexp];cases he:expS s with
 | false=>simp [qFc,he,badE]
 | true =>
  have hCl:=atC_lt he;have hEl:=atE_le he;have hb1:=bAt_tail s (atC s+1) 0 (by omega);simp only [Int.add_zero] at hb1;have hz1:=qCd s (atC s+1);have hne1:=tail_none s (atC s+1);have htt:(s.extract (atC s) s.size).extract 1 (s.extract (atC s) s.size).size=s.extract (atC s+1) s.size:=qGt s (atC s) 1;simp only [cnT];refine (qAa (by omega) _).trans ?_;simp only [htt];refine (qAa (fun h=>by
   have:¬s.size≤atC s+1:=fun h'=>by simp [hne1.2 h'] at h
   omega) _).trans ?_
  refine (qAa (fun _ h=>by
   have:¬s.size≤atC s+1:=fun h'=>by simp [hne1.2 h'] at h
   omega) _).trans ?_
  have hsg:(!decide (s.extract (atC s+1) s.size=⟨#[]⟩) && (decide (bAt (s.extract (atC s+1) s.size) 0=43) || decide (bAt (s.extract (atC s+1) s.size) 0=45)))=sgnS s:=by
   unfold sgnS;rw [hb1];by_cases h:s.size≤atC s+1
   ·have:bAt s ((atC s+1:Nat):Int) = -1:=qBo (by omega);have h2:bAt s ((atC s:Int)+1) = -1:=by rw [←this]; rfl
    simp [hne1.2 h,h2]
   ·have hn:¬s.extract (atC s+1) s.size=⟨#[]⟩:=fun e=>h (hne1.1 e)
    simp [hn]
  rw [hsg];cases hs:sgnS s with
  | false =>
   have hnd:¬bAt s ((atC s:Int)+1)=45:=fun e=>by simp [sgnS,e] at hs
   have hE:s.extract (atC s+1) s.size=s.extract (atE s) s.size:=by simp [atE,hs]
   simp only [cnF];rw [hE,p_read3 s hsz he,obS];cases badE s <;> simp [hnd]
  | true =>
   have hsl:=sgn_lt hs;have hE:(s.extract (atC s+1) s.size).extract 1 (s.extract (atC s+1) s.size).size=s.extract (atE s) s.size:=by rw [qGt]; simp [atE,hs]
   have hb1':bAt (s.extract (atC s+1) s.size) 0=bAt s ((atC s:Int)+1):=hb1;simp only [cnT];refine (qAa (by omega) _).trans ?_;refine (qAa (by omega) _).trans ?_;rw [hE,p_read3 s hsz he,obS,hb1'];cases badE s <;> simp
theorem p_read4:zab_p4 (if expS s=true then ⟨#[]⟩ else s.extract (atC s) s.size) (fracS s) (s.extract (atA s) (atB s)) (expS s && decide (bAt s (atC s+1)=45)) (qFc s).exp=some (expS s || decide (s.size≤atC s),(qFc s).digits,(qFc s).off,(qFc s).down):=by
 have hne:=tail_none s (atC s);have hi:(s.extract (atA s) (atB s)).size≤s.size:=by rw [ByteArray.size_extract]; omega
 have hfr:(fracS s).size≤s.size:=by
  unfold fracS;split
  ·rw [ByteArray.size_extract]; omega
  ·exact Nat.zero_le _
 have hap:(s.extract (atA s) (atB s)++fracS s).size=(s.extract (atA s) (atB s)).size+(fracS s).size:=ByteArray.size_append;have htl:(trimL (s.extract (atA s) (atB s)++fracS s) 48).size≤(s.extract (atA s) (atB s)++fracS s).size:=by rw [trimL,ByteArray.size_extract]; omega
 have hrest:decide ((if expS s=true then ⟨#[]⟩ else s.extract (atC s) s.size)=(⟨#[]⟩:BA))=(expS s || decide (s.size≤atC s)):=by
  cases he:expS s
  ·simp [hne]
  ·simp
 have hdn:(qFc s).down=(expS s && decide (bAt s (atC s+1)=45) && !decide ((qFc s).exp=⟨#[]⟩)):=by
  cases he:expS s
  ·simp [qFc,he]
  ·simp [qFc,he]
 unfold zab_p4;refine (qAa (by omega) _).trans ?_;rw [p_trimL,obS];refine (qAa (by unfold qAe; omega) _).trans ?_;refine (qAa (by unfold qAe; omega) _).trans ?_;rw [p_trimR _ (by omega),obS,hrest,hdn];cases decide ((qFc s).exp=⟨#[]⟩) <;> simp [qFc]
theorem p_readA (m:Bool) (hm:m=decide (bAt s 0=45)):((zab_p0 (s.extract (atA s) s.size)).bind fun o3=>(Sum.elim (fun (o3_0:Bool) =>
   some ((⟨m,(⟨#[]⟩:BA),(⟨#[]⟩:BA),(0:Int),true,false,(⟨#[]⟩:BA)⟩:decimal_number),o3_0)) (fun (o3_1:BA × BA) =>
   (zab_p1 o3_1.1 (⟨#[]⟩:BA) true).bind fun o6=>(Sum.elim (fun (o6_0:Bool) =>
    some ((⟨m,o3_1.2,(⟨#[]⟩:BA),(0:Int),true,false,(⟨#[]⟩:BA)⟩:decimal_number),o6_0)) (fun (o6_1:BA × BA × Bool) =>
    (zab_p2 o6_1.1 o6_1.2.2 false (⟨#[]⟩:BA)).bind fun o11=>(Sum.elim (fun (o11_0:Bool × Bool) =>
     some ((⟨m,o3_1.2,(⟨#[]⟩:BA),(0:Int),o6_1.2.2,o11_0.2,(⟨#[]⟩:BA)⟩:decimal_number),o11_0.1)) (fun (o11_1:BA × Bool × Bool × BA) =>
     (zab_p4 o11_1.1 o6_1.2.1 o3_1.2 o11_1.2.2.1 o11_1.2.2.2).bind fun o14 =>
     some ((⟨m,o3_1.2,o14.2.1,o14.2.2.1,o11_1.2.1,o14.2.2.2,o11_1.2.2.2⟩:decimal_number),o14.1))) o11)) o6)) o3)=some (num (qFs s),qB0 s):=by
 subst hm;rw [p_read0 s hsz,obS];cases hbd:badA s with
 | true =>
  have hro:qB0 s=false:=by simp [qB0,hbd]
  rw [progAll_1 hbd,hro];rfl
 | false =>
  simp only [Bool.false_eq_true,if_false,Sum.elim_inr];rw [p_read1 s hsz,obS];cases hdk:(dotS s && decide (atK s=atB s+1)) with
  | true =>
   have hro:qB0 s=false:=by simp only [qB0,hbd,hdk,Bool.not_true,Bool.not_false,Bool.and_false,Bool.false_and]
   rw [progAll_2 hbd hdk,hro];rfl
  | false =>
   simp only [Bool.false_eq_true,if_false,Sum.elim_inr];rw [p_read2 s hsz,obS];cases hbe:badE s with
   | true =>
    have hro:qB0 s=false:=by
     rw [←progOk_eq];simp [progOk,hbe]
    rw [progAll_3 hbd hdk hbe,hro];rfl
   | false =>
    have hro:qB0 s=(expS s || decide (s.size≤atC s)):=by
     rw [←progOk_eq];simp only [progOk,hbd,hdk,hbe,Bool.not_false,Bool.true_and]
    simp only [Bool.false_eq_true,if_false,Sum.elim_inr];rw [p_read4 s hsz,obS,progAll_4 hbd hdk hbe,hro];rfl
theorem p_read:zab_s s 0=some (num (qFs s),qB0 s):=by
 unfold zab_s;rw [deT rfl,cnT,p_cut,obS,hasPre_45,cut_45];exact p_readA s hsz _ rfl
end
end Go.Proofs.YtnifdcmeffnpaaaGreatDoor
namespace Go.Proofs.YtnifdcmeffnpaaaGreatDoor
open Go.Eng
set_option linter.unusedVariables false
set_option linter.unusedSimpArgs false
theorem tdiv_neg (x:Int) (h:0≤x):Int.tdiv (-x) 10 = -(x / 10):=by
 rw [Int.neg_tdiv,Int.tdiv_eq_ediv_of_nonneg h]
def qEi (t:BA):Nat→Nat→Int→Option Int
 | 0,_,v=>some v
 | j+1,i,v=>if (9223372036854775808 - (bAt t (i:Int) - 48) % 256) / 10<v then none else qEi t j (i+1) (10*v+(bAt t (i:Int) - 48) % 256)
def qC3 (s:BA):Int × Bool :=
 if qB0 s=true∧(qCw s).plain=true then match qEi (qCw s).text (qCw s).text.size 0 0 with
  | none=>(0,false)
  | some u=>if (qCw s).minus=true then (-u,true) else if u=9223372036854775808 then (0,false) else (u,true)
 else (0,false)
theorem wholeV_no {s:BA} (h:¬(qB0 s=true∧(qCw s).plain=true)):qC3 s=(0,false):=if_neg h
theorem wholeV_yes {s:BA} (h:qB0 s=true∧(qCw s).plain=true):qC3 s=match qEi (qCw s).text (qCw s).text.size 0 0 with
  | none=>(0,false)
  | some u=>if (qCw s).minus=true then (-u,true) else if u=9223372036854775808 then (0,false) else (u,true):=if_pos h
theorem whole_pj (t:BA) (hs:t.size≤3000000):∀(j i:Nat) (v:Int),i+j=t.size→0≤v∧v≤9223372036854775808 →
  (qEi t j i v=none∧qEt v (t.size:Int) (i:Int) t=some (.inl (0,false))) ∨
  (∃u:Int,qEi t j i v=some u∧(0≤u∧u≤9223372036854775808)∧qEt v (t.size:Int) (i:Int) t=some (.inr u))
 | 0,i,v,h,hv=>by
  refine .inr ⟨v,rfl,hv,?_⟩;unfold qEt;refine qAh ?_;unfold qB9;dsimp only;rw [deF (by omega),cnF]
 | j+1,i,v,h,hv=>by
  obtain ⟨d,hd⟩:∃d,d=(bAt t i - 48) % 256:=⟨_,rfl⟩;have hd2:0≤d∧d<256:=by omega
  have e1:(9223372036854775808 - d % 18446744073709551616) % 18446744073709551616=9223372036854775808 - d:=by omega
  have s1:qB9 v (t.size:Int) (i:Int) t=if (9223372036854775808 - d) / 10<v then some (.inr (.inl (0,false))) else some (.inl (10*v+d,((i+1:Nat):Int))):=by
   unfold qB9;rw [←hd,deT (by omega),cnT];refine (qAa (by omega) _).trans ?_;rw [e1];refine (qAa (by omega) _).trans ?_;by_cases hl:(9223372036854775808 - d) / 10<v
   ·rw [deT hl,cnT,if_pos hl]
   ·rw [deF hl,cnF,if_neg hl];refine (qAa (by unfold qAe; omega) _).trans ?_;rw [show (10*v % 18446744073709551616+d % 18446744073709551616) % 18446744073709551616=10*v+d by omega];rfl
  by_cases hl:(9223372036854775808 - d) / 10<v
  ·have hw:qEi t (j+1) i v=none:=by unfold qEi; rw [←hd,if_pos hl]
   rw [if_pos hl] at s1;refine .inl ⟨hw,?_⟩;unfold qEt;exact qAh s1
  ·have hw:qEi t (j+1) i v=qEi t j (i+1) (10*v+d):=by rw [qEi,←hd,if_neg hl]
   rw [if_neg hl] at s1;have ih:=whole_pj t hs j (i+1) (10*v+d) (by omega) (by omega);have w1:qEt v (t.size:Int) (i:Int) t=qEt (10*v+d) (t.size:Int) ((i+1:Nat):Int) t:=by
    unfold qEt;exact qAs s1
   rw [hw,w1];exact ih
theorem whole_j (s:BA) (hs:s.size≤3000000):zaa_s s=some (qC3 s):=by
 unfold zaa_s;rw [p_read s (by omega),obS];cases hr:qB0 s with
 | false =>
  rw [wholeV_no (by rw [hr]; simp)];rfl
 | true =>
  rw [progAll_ok hr];have hp:(num (qFc s)).plain=(rnum (qCw s)).plain:=rfl;simp only [Bool.not_true,Bool.false_or];rw [hp];cases hpl:(rnum (qCw s)).plain with
  | false =>
   have hpl:(qCw s).plain=false:=hpl;rw [wholeV_no (by rw [hpl]; simp)];rfl
  | true =>
   have hpl:(qCw s).plain=true:=hpl;rw [wholeV_yes ⟨hr,hpl⟩];generalize hrs:qCw s=r at *
   simp only [Bool.not_true,cnF];have ht:(num (qFc s)).whole=r.text:=by rw [←hrs]; rfl
   have hm:(num (qFc s)).minus=r.minus:=by rw [←hrs]; rfl
   rw [ht,hm];have hz:(rnum r).text.size≤3000000:=by
    rw [←hrs];show (s.extract _ _).size≤_;rw [ByteArray.size_extract]; omega
   have et:(rnum r).text=r.text:=rfl;have em:(rnum r).minus=r.minus:=rfl;rw [et] at hz;have:=whole_pj r.text hz r.text.size 0 0 (by omega) (by omega);rw [show ((0:Nat):Int)=0 from rfl] at this;rcases this with ⟨h0,h1⟩ | ⟨u,h0,hu,h1⟩
   ·rw [h0];rw [h1]; rfl
   ·rw [h0,h1,obS];simp only [Sum.elim_inr];cases r.minus with
    | true =>
     rw [if_pos rfl];simp only [Bool.not_true,Bool.false_and,cnF,cnT];unfold w64;rw [IntKind.wrap_i64];congr 2
     omega
    | false =>
     simp only [Bool.not_false,Bool.true_and,cnF];rw [if_neg (by decide)];by_cases h0:u=9223372036854775808
     ·rw [if_pos h0];rw [deT h0,cnT]
     ·rw [if_neg h0];rw [deF h0,cnF];unfold w64;rw [IntKind.wrap_i64];congr 2
      omega
theorem whole_pair (t:BA) (hs:t.size≤3000000):∀(j i:Nat) (v:Int),i+j=t.size→0≤v∧v≤9223372036854775808 →
  (qEi t j i v=none∧qEt v (t.size:Int) (i:Int) t=some (.inl (0,false))∧zbu_p0 (-v) (i:Int) t=some (.inl (0,false))) ∨
  (∃u:Int,qEi t j i v=some u∧(0≤u∧u≤9223372036854775808)∧qEt v (t.size:Int) (i:Int) t=some (.inr u)∧zbu_p0 (-v) (i:Int) t=some (.inr (-u)))
 | 0,i,v,h,hv=>by
  refine .inr ⟨v,rfl,hv,?_,?_⟩
  ·unfold qEt;refine qAh ?_;unfold qB9;dsimp only;rw [deF (by omega),cnF]
  ·unfold zbu_p0;refine qAh ?_;unfold qDz;dsimp only;rw [deF (by omega),cnF]
 | j+1,i,v,h,hv=>by
  obtain ⟨d,hd⟩:∃d,d=(bAt t i - 48) % 256:=⟨_,rfl⟩;have hd2:0≤d∧d<256:=by omega
  have hq:Int.tdiv (-9223372036854775808+d) 10 = -((9223372036854775808 - d) / 10):=by
   rw [show (-9223372036854775808+d) = -(9223372036854775808 - d) by omega];exact tdiv_neg _ (by omega)
  have e1:(9223372036854775808 - d % 18446744073709551616) % 18446744073709551616=9223372036854775808 - d:=by omega
  have s1:qB9 v (t.size:Int) (i:Int) t=if (9223372036854775808 - d) / 10<v then some (.inr (.inl (0,false))) else some (.inl (10*v+d,((i+1:Nat):Int))):=by
   unfold qB9;rw [←hd,deT (by omega),cnT];refine (qAa (by omega) _).trans ?_;rw [e1];refine (qAa (by omega) _).trans ?_;by_cases hl:(9223372036854775808 - d) / 10<v
   ·rw [deT hl,cnT,if_pos hl]
   ·rw [deF hl,cnF,if_neg hl];refine (qAa (by unfold qAe; omega) _).trans ?_;rw [show (10*v % 18446744073709551616+d % 18446744073709551616) % 18446744073709551616=10*v+d by omega];rfl
  have s2:qDz (-v) (i:Int) t=if (9223372036854775808 - d) / 10<v then some (.inr (.inl (0,false))) else some (.inl (-(10*v+d),((i+1:Nat):Int))):=by
   unfold qDz;rw [←hd,deT (by omega),cnT];refine (qAa (by omega) _).trans ?_;refine (qAa (by unfold qAe; omega) _).trans ?_;refine (qAa (by unfold qAe; omega) _).trans ?_;refine (qAa ⟨by decide,by unfold qAe; omega⟩ _).trans ?_;rw [hq];by_cases hl:(9223372036854775808 - d) / 10<v
   ·rw [deT (by omega),cnT,if_pos hl]
   ·rw [deF (by omega),cnF,if_neg hl];refine (qAa (by unfold qAe; omega) _).trans ?_;refine (qAa (by unfold qAe; omega) _).trans ?_;refine (qAa (by unfold qAe; omega) _).trans ?_;rw [show 10 * -v - d = -(10*v+d) by omega];rfl
  by_cases hl:(9223372036854775808 - d) / 10<v
  ·have hw:qEi t (j+1) i v=none:=by unfold qEi; rw [←hd,if_pos hl]
   rw [if_pos hl] at s1 s2;refine .inl ⟨hw,?_,?_⟩
   ·unfold qEt;exact qAh s1
   ·unfold zbu_p0;exact qAh s2
  ·have hw:qEi t (j+1) i v=qEi t j (i+1) (10*v+d):=by rw [qEi,←hd,if_neg hl]
   rw [if_neg hl] at s1 s2;have ih:=whole_pair t hs j (i+1) (10*v+d) (by omega) (by omega);have w1:qEt v (t.size:Int) (i:Int) t=qEt (10*v+d) (t.size:Int) ((i+1:Nat):Int) t:=by
    unfold qEt;exact qAs s1
   have w2:zbu_p0 (-v) (i:Int) t=zbu_p0 (-(10*v+d)) ((i+1:Nat):Int) t:=by
    unfold zbu_p0;exact qAs s2
   rw [hw,w1,w2];exact ih
theorem whole_is (s:BA) (hs:s.size≤3000000):zaa_s s=some (qC3 s)∧zbu_s s=some (qC3 s):=by
 unfold zaa_s zbu_s;rw [p_read s (by omega),p_Read s (by omega),obS,obS];cases hr:qB0 s with
 | false =>
  rw [wholeV_no (by rw [hr]; simp)];exact ⟨rfl,rfl⟩
 | true =>
  rw [progAll_ok hr,readAll_ok hr];have hp:(num (qFc s)).plain=(rnum (qCw s)).plain:=rfl;simp only [Bool.not_true,Bool.false_or];rw [hp];cases hpl:(rnum (qCw s)).plain with
  | false =>
   have hpl:(qCw s).plain=false:=hpl;rw [wholeV_no (by rw [hpl]; simp)];exact ⟨rfl,rfl⟩
  | true =>
   have hpl:(qCw s).plain=true:=hpl;rw [wholeV_yes ⟨hr,hpl⟩];generalize hrs:qCw s=r at *
   simp only [Bool.not_true,cnF];have ht:(num (qFc s)).whole=r.text:=by rw [←hrs]; rfl
   have hm:(num (qFc s)).minus=r.minus:=by rw [←hrs]; rfl
   rw [ht,hm];have hz:(rnum r).text.size≤3000000:=by
    rw [←hrs];show (s.extract _ _).size≤_;rw [ByteArray.size_extract]; omega
   have et:(rnum r).text=r.text:=rfl;have em:(rnum r).minus=r.minus:=rfl;rw [et] at hz;rw [et,em];have:=whole_pair r.text hz r.text.size 0 0 (by omega) (by omega);rw [show (-0:Int)=0 from rfl,show ((0:Nat):Int)=0 from rfl] at this;rcases this with ⟨h0,h1,h2⟩ | ⟨u,h0,hu,h1,h2⟩
   ·rw [h0];exact ⟨by rw [h1]; rfl,by rw [h2]; rfl⟩
   ·rw [h0,h1,h2,obS,obS];simp only [Sum.elim_inr];cases r.minus with
    | true =>
     rw [if_pos rfl];refine ⟨?_,rfl⟩;simp only [Bool.not_true,Bool.false_and,cnF,cnT];unfold w64;rw [IntKind.wrap_i64];congr 2
     omega
    | false =>
     simp only [Bool.not_false,Bool.true_and,cnF];rw [if_neg (by decide)];by_cases h0:u=9223372036854775808
     ·rw [if_pos h0];refine ⟨?_,?_⟩
      ·rw [deT h0,cnT]
      ·rw [deT (by omega),cnT]
     ·rw [if_neg h0];refine ⟨?_,?_⟩
      ·rw [deF h0,cnF];unfold w64;rw [IntKind.wrap_i64];congr 2
       omega
      ·rw [deF (by omega),cnF];refine (qAa (by unfold qAe; omega) _).trans ?_;rw [show 0 - -u=u by omega]
instance memDec (s:BA):(l:List BA)→Decidable (s∈l)
 | []=>isFalse (by simp)
 | x::r=>if h:s=x then isTrue (by simp [h]) else match memDec s r with
  | isTrue h2=>isTrue (List.mem_cons_of_mem _ h2)
  | isFalse h2=>isFalse (by simp [h,h2])
theorem p_among (s:BA) (l:List BA) (hl:l.length≤2000000):zce_s l s=some (decide (s∈l)):=by
 have key:∀(j i:Nat),i+j=l.length→zce_p0 s (i:Int) l=some (if s∈l.drop i then .inl true else .inr ()):=by
  intro j;induction j with
  | zero =>
   intro i hi;rw [List.drop_eq_nil_of_le (by omega),if_neg (by simp)];unfold zce_p0;refine qAh ?_;unfold qDv;rw [deF (by omega),cnF]
  | succ j ih =>
   intro i hi;have hlt:i<l.length:=by omega
   have hd:l.drop i=l[i]::l.drop (i+1):=List.drop_eq_getElem_cons hlt;have hg:l.getD i (⟨#[]⟩:BA)=l[i]:=by rw [List.getD_eq_getElem?_getD,List.getElem?_eq_getElem hlt]; rfl
   have hst:qDv s (i:Int) l=if l[i]=s then some (.inr (.inl true)) else some (.inl ((i+1:Nat):Int)):=by
    unfold qDv;rw [deT (by omega),cnT,qAa (by omega),qAa (by omega)];simp only [Int.toNat_natCast];have hg':l.getD i (ET.dft .str)=l[i]:=hg;simp only [hg'];by_cases h:l[i]=s
    ·rw [if_pos h,deT h,cnT]
    ·rw [if_neg h,deF h,cnF];exact qAa (by unfold qAe; omega) _
   unfold zce_p0;by_cases h:l[i]=s
   ·rw [if_pos h] at hst;rw [qAh hst,if_pos (by rw [hd,h]; exact List.mem_cons_self)]
   ·rw [if_neg h] at hst;rw [qAs hst];have:=ih (i+1) (by omega);unfold zce_p0 at this;rw [this];congr 1
    have:(s∈l.drop i)=(s∈l.drop (i+1)):=by
     rw [hd,List.mem_cons];exact propext ⟨fun h'=>h'.resolve_left (fun e=>h e.symm),.inr⟩
    simp only [this]
 have:=key l.length 0 (by omega);rw [List.drop_zero,show ((0:Nat):Int)=0 from rfl] at this;unfold zce_s;rw [this,obS];by_cases h:s∈l
 ·rw [if_pos h,deT h]; rfl
 ·rw [if_neg h,deF h]; rfl
structure NmR (obj:Bool) (nm:MapC) (names:List BA):Prop where
 some_:nm.isSome=obj
 mem:∀s,obj=true→(0<mget nm s↔s∈names)
theorem mfind_mset (l:List (BA × Int)) (s t:BA) (x:Int):mfind (mset l s x) t=if t=s then some x else mfind l t:=by
 induction l with
 | nil =>
  show (bif decide (t=s) then some x else none)=_;by_cases h:t=s
  ·rw [if_pos h,deT h]; rfl
  ·rw [if_neg h,deF h]; rfl
 | cons y r ih =>
  unfold mset;by_cases hs:s=y.1
  ·rw [deT hs,cnT];show (bif decide (t=s) then some x else mfind r t)=_;by_cases h:t=s
   ·rw [if_pos h,deT h]; rfl
   ·rw [if_neg h,deF h,cnF];show mfind r t=(bif decide (t=y.1) then some y.2 else mfind r t);rw [deF (by rw [←hs]; exact h),cnF]
  ·rw [deF hs,cnF];unfold mfind;rw [ih];by_cases hy:t=y.1
   ·rw [deT hy,cnT,cnT,if_neg (by rw [hy]; exact fun h=>hs h.symm)]
   ·rw [deF hy,cnF,cnF]
theorem NmR.put {obj:Bool} {nm:MapC} {names:List BA} (h:NmR obj nm names) (s:BA):NmR obj (mput nm s 1) (names++[s]):=by
 cases nm with
 | none =>
  refine ⟨h.some_,fun t ht=>?_⟩;have:=h.some_;rw [ht] at this;cases this
 | some l =>
  refine ⟨h.some_,fun t ht=>?_⟩;have h2:=h.mem t ht;show 0<(mfind (mset l s 1) t).getD 0↔_;rw [mfind_mset,List.mem_append,List.mem_singleton];by_cases hts:t=s
  ·rw [if_pos hts];exact ⟨fun _=>.inr hts,fun _=>by decide⟩
  ·rw [if_neg hts];exact ⟨fun h=>.inl (h2.1 h),fun h=>h2.2 (h.resolve_right hts)⟩
end Go.Proofs.YtnifdcmeffnpaaaGreatDoor
