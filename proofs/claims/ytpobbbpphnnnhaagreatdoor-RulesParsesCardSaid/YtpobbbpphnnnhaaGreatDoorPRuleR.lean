/-
  Texts of a claim.
-/
import Derived.Test.YtpobbbpphnnnhaaGreatDoorEngPan
import Derived.Test.YtpobbbpphnnnhaaGreatDoorRP
namespace Go.Proofs.YtpobbbpphnnnhaaGreatDoor
open Go.Eng
set_option linter.unusedVariables false
set_option linter.unusedSimpArgs false
theorem idx_any {l:List UInt8} {p:Int→Bool} (h:∀n:Fin 256,decide (0≤Lib.indexByte l n.val.toUInt8)=p (n.val:Int)) (h0:p (-1)=p 0) {c:Int} (hc : -1≤c∧c≤255):decide (0≤Lib.indexByte l (Int.toNat c).toUInt8)=p c:=by
 rcases Int.lt_or_le c 0 with h1 | h1
 ·obtain rfl:c = -1:=by omega
  rw [h0];exact h ⟨0,by omega⟩
 ·have:=h ⟨c.toNat,by omega⟩;rwa [show ((c.toNat:Nat):Int)=c by omega] at this
def isSgn (c:Int):Bool:=decide (c=40) || decide (c=41) || decide (c=46) || decide (c=61) || decide (c=33) || decide (c=60) || decide (c=62) || decide (c=45)
def isExp (c:Int):Bool:=decide (c=43) || decide (c=45) || decide (c=46) || decide (c=101) || decide (c=69)
theorem idx_blank {c:Int} (hc : -1≤c∧c≤255):decide (0≤Lib.indexByte (⟨#[32,9,10,13]⟩:BA).data.toList (Int.toNat c).toUInt8)=qBr c:=idx_any (by decide +kernel) (by decide) hc
theorem idx_sgn {c:Int} (hc : -1≤c∧c≤255):decide (0≤Lib.indexByte (⟨#[40,41,46,61,33,60,62,45]⟩:BA).data.toList (Int.toNat c).toUInt8)=isSgn c:=idx_any (by decide +kernel) (by decide) hc
theorem idx_exp {c:Int} (hc : -1≤c∧c≤255):decide (0≤Lib.indexByte (⟨#[43,45,46,101,69]⟩:BA).data.toList (Int.toNat c).toUInt8)=isExp c:=idx_any (by decide +kernel) (by decide) hc
theorem u_indexB (s:BA) (c:Int):zdm_s s c=some (Lib.indexByte s.data.toList (Int.toNat c).toUInt8):=rfl
theorem u_letter (c:Int):zaw_s c=some (isLet c):=rfl
theorem u_digit (c:Int):zav_s c=some (qBu c):=rfl
theorem u_namch (c:Int):zbe_s c=some (qE1 c):=by
 unfold zbe_s qE1;rw [u_letter,u_digit,obS,obS];cases isLet c <;> rfl
theorem u_numch {c:Int} (hc : -1≤c∧c≤255):zbr_s c=some (qDj c):=by
 unfold zbr_s;rw [u_digit,u_indexB,obS,obS,idx_exp hc];unfold qDj isExp;cases qBu c <;> simp [Bool.or_assoc]
section
variable {t:BA} (hs:t.size≤1024) (o:Int) (out:RNl)
include hs
theorem u_skip0 (a:Nat):zbf_p0 t (a:Int)=some (qAq t a:Int):=by
 have hst:∀a:Nat,qFz t (a:Int)=some (if qBr (bAt t a)=true then .inl ((a+1:Nat):Int) else .inr (a:Int)):=by
  intro a;unfold qFz;rw [qAb (fun h=>⟨by omega,of_decide_eq_true h⟩),u_indexB,obS,idx_blank (qCv t a)];cases hb:qBr (bAt t a) with
  | true =>
   have:=qBn hb;rw [deT (by omega),Bool.true_and,cnT,if_pos rfl,qAb (by unfold qAf; omega)];rfl
  | false=>rw [Bool.and_false,cnF,if_neg (by simp)]
 unfold zbf_p0;induction h:t.size - a using Nat.strongRecOn generalizing a with
 | _ n ih =>
  by_cases hb:qBr (bAt t a)=true
  ·have:=qBn hb;rw [qAr (by rw [hst,if_pos hb]),qFu hb];exact ih (t.size - (a+1)) (by omega) (a+1) rfl
  ·rw [qAi (by rw [hst,if_neg hb]),qFc (by simpa using hb)]
omit hs in
def qCk (t:BA) (i:Nat):Int :=
 if t.size≤i then 0 else if isLet (bAt t i)=true then 1 else if qBu (bAt t i)=true then 2 else if bAt t i=34 then 3 else if isSgn (bAt t i)=true then 4 else 5
theorem u_nextk (a:Nat) (ha:a≤t.size):zbf_s ⟨t,(a:Int),o,out⟩=some (⟨t,(qAq t a:Int),o,out⟩,qCk t (qAq t a)):=by
 have h2:=qA6 t a ha;unfold zbf_s;dsimp only;rw [u_skip0 hs,obS];generalize qAq t a=i at *
 unfold qCk;by_cases hi:t.size≤i
 ·rw [deT (by omega),cnT,if_pos hi]
 ·rw [deF (by omega),cnF,if_neg hi,qAb (by omega),u_letter,u_digit,u_indexB];simp only [obS];cases h1:isLet (bAt t i) with
  | true=>rfl
  | false =>
   cases h2:qBu (bAt t i) with
   | true=>rfl
   | false =>
    by_cases h3:bAt t i=34
    ·rw [deT h3,if_pos h3];rfl
    ·rw [deF h3,idx_sgn (qCv t i),if_neg h3];cases isSgn (bAt t i) <;> rfl
theorem u_run0 (a:Nat) (ha:a≤t.size):zbm_s ⟨t,(a:Int),o,out⟩ ()=some (digB t a):=by
 have hst:∀a:Nat,qF0 (a:Int) t=some (if qBu (bAt t a)=true then .inl ((a+1:Nat):Int) else .inr (a:Int)):=by
  intro a;unfold qF0;rw [qAb (fun h=>⟨by omega,of_decide_eq_true h⟩),u_digit,obS];cases hb:qBu (bAt t a) with
  | true =>
   have:=qDc qBj hb;rw [deT (by omega),cnT,cnT,if_pos rfl,qAb (by unfold qAf; omega)];rfl
  | false =>
   rw [if_neg (by simp)];cases decide ((a:Int)<(t.size:Int)) <;> rfl
 have h1:=qFs (t:=t) qBj a;have h2:=qDx (t:=t) qBj a ha;unfold zbm_s zbm_p0;dsimp only;rw [qFt qBj hst,obS,qAb (by omega)];rfl
theorem u_run1 (a:Nat) (ha:a≤t.size):zbn_s ⟨t,(a:Int),o,out⟩ ()=some (qA5 t a):=by
 have hst:∀a:Nat,qF1 (a:Int) t=some (if qE1 (bAt t a)=true then .inl ((a+1:Nat):Int) else .inr (a:Int)):=by
  intro a;unfold qF1;rw [qAb (fun h=>⟨by omega,of_decide_eq_true h⟩),u_namch,obS];cases hb:qE1 (bAt t a) with
  | true =>
   have:=qDc qBf hb;rw [deT (by omega),cnT,cnT,if_pos rfl,qAb (by unfold qAf; omega)];rfl
  | false =>
   rw [if_neg (by simp)];cases decide ((a:Int)<(t.size:Int)) <;> rfl
 have h1:=qFs (t:=t) qBf a;have h2:=qDx (t:=t) qBf a ha;unfold zbn_s zbn_p0;dsimp only;rw [qFt qBf hst,obS,qAb (by omega)];rfl
theorem u_run2 (a:Nat) (ha:a≤t.size):zbo_s ⟨t,(a:Int),o,out⟩ ()=some (t.extract a (rnS qDj t a)):=by
 have hst:∀a:Nat,qF2 (a:Int) t=some (if qDj (bAt t a)=true then .inl ((a+1:Nat):Int) else .inr (a:Int)):=by
  intro a;unfold qF2;rw [qAb (fun h=>⟨by omega,of_decide_eq_true h⟩),u_numch (qCv t a),obS];cases hb:qDj (bAt t a) with
  | true =>
   have:=qDc qCn hb;rw [deT (by omega),cnT,cnT,if_pos rfl,qAb (by unfold qAf; omega)];rfl
  | false =>
   rw [if_neg (by simp)];cases decide ((a:Int)<(t.size:Int)) <;> rfl
 have h1:=qFs (t:=t) qCn a;have h2:=qDx (t:=t) qCn a ha;unfold zbo_s zbo_p0;dsimp only;rw [qFt qCn hst,obS,qAb (by omega)];rfl
theorem u_name (a:Nat) (ha:a≤t.size):zbd_s ⟨t,(a:Int),o,out⟩=some (qA5 t a):=by
 unfold zbd_s;rw [u_run1 hs o out a ha];rfl
omit hs in
theorem word_first {t:BA} {i:Nat} {w:BA} (hw:0<w.size) (h:qA5 t i=w):bAt t i=bAt w 0:=by
 subst h;have h0:i<rnS qE1 t i:=by
  unfold qA5 at hw;rw [ByteArray.size_extract] at hw;omega
 unfold qA5;rw [qA8 t i (rnS qE1 t i) 0 (by omega) (by omega)];rfl
theorem u_keyw (a:Nat) (ha:a≤t.size) {w:BA} (hw:0<w.size) (hl:isLet (bAt w 0)=true):zbc_s ⟨t,(a:Int),o,out⟩ w=some (if qA5 t (qAq t a)=w then (⟨t,((qAq t a+w.size:Nat):Int),o,out⟩,true) else (⟨t,(qAq t a:Int),o,out⟩,false)):=by
 have h2:=qA6 t a ha;unfold zbc_s;rw [u_nextk hs o out a ha,obS];dsimp only;generalize qAq t a=i at *
 by_cases hw1:qA5 t i=w
 ·have h3:=qCc h2 hw1;have hk:qCk t i=1:=by
   unfold qCk;rw [if_neg (by omega),if_pos (by rw [word_first hw hw1]; exact hl)]
  rw [if_pos hw1,hk,u_name hs o out i h2,obS];simp only [decide_true,Bool.not_true,cnF,hw1];rw [qAb (by unfold qAf; omega)];rfl
 ·rw [if_neg hw1];by_cases hk:qCk t i=1
  ·rw [deT hk,Bool.not_true,cnF,u_name hs o out i h2,obS,deF hw1];rfl
  ·rw [deF hk];rfl
theorem u_sign (a:Nat) (ha:a≤t.size) {c:Int} (hc:isSgn c=true):zbp_s ⟨t,(a:Int),o,out⟩ c=some (if bAt t (qAq t a:Int)=c then (⟨t,((qAq t a+1:Nat):Int),o,out⟩,true) else (⟨t,(qAq t a:Int),o,out⟩,false)):=by
 have h2:=qA6 t a ha;unfold zbp_s;rw [u_nextk hs o out a ha,obS];dsimp only;generalize qAq t a=i at *
 have hc0:0≤c∧isLet c=false∧qBu c=false∧c≠34:=by
  simp only [isSgn,Bool.or_eq_true,decide_eq_true_eq] at hc;rcases hc with (((((((rfl | rfl) | rfl) | rfl) | rfl) | rfl) | rfl) | rfl) <;> decide
 have hk4:qCk t i=4→i<t.size:=fun h=>by
  unfold qCk at h;split at h
  ·cases h
  ·omega
 by_cases hb:bAt t (i:Int)=c
 ·have h3:=bNN hc0.1 hb;have hk:qCk t i=4:=by
   unfold qCk;rw [if_neg (by omega),hb,hc0.2.1,hc0.2.2.1,if_neg (by simp),if_neg (by simp),if_neg hc0.2.2.2,if_pos hc]
  rw [if_pos hb,hk,qAb (fun _=>by omega),hb];simp only [decide_true,Bool.not_true,Bool.or_false,cnF];rw [qAb (by unfold qAf; omega)];rfl
 ·rw [if_neg hb,deF hb,Bool.not_false,Bool.or_true,cnT,qAb (fun h=>by
   have:qCk t i=4:=by simpa using h
   have:=hk4 this;omega)]
end
end Go.Proofs.YtpobbbpphnnnhaaGreatDoor
namespace Go.Proofs.YtpobbbpphnnnhaaGreatDoor
open Go.Eng
set_option linter.unusedVariables false
set_option linter.unusedSimpArgs false
theorem kw_iff (s:BA):s∈Eng.kwT↔kwB s=true:=by
 simp only [Eng.kwT,kwB,List.mem_cons,List.not_mem_nil,or_false,Bool.or_eq_true,decide_eq_true_eq];unfold bAnd bOr bNot bHas bCont bTrue bFalse bNull;simp only [or_assoc]
theorem u_index (l:List BA) (hl:l.length≤1000) (v:BA):∀k i:Nat,i+k=l.length→(∃j:Nat,zdj_p0 v (l.length:Int) (i:Int) l=some (.inl (j:Int))∧v∈l.drop i)∨(zdj_p0 v (l.length:Int) (i:Int) l=some (.inr ())∧v ∉ l.drop i)
 | 0,i,h=>by
  refine .inr ⟨?_,by rw [List.drop_eq_nil_of_le (by omega)]; simp⟩;unfold zdj_p0;rw [qAi (o:=.inr ()) (by unfold qEo; rw [deF (by omega)]; rfl)]
 | k+1,i,h=>by
  have hst:qEo v (l.length:Int) (i:Int) l=some (if v=l.getD i (ET.dft .str) then .inr (.inl (i:Int)) else .inl ((i+1:Nat):Int)):=by
   unfold qEo;rw [deT (by omega),cnT,qAb (by omega),qAb (by omega),qAb (by unfold qAf; omega)];simp only [Int.toNat_natCast];by_cases hv:v=l.getD i (ET.dft .str)
   ·rw [deT hv,if_pos hv]; rfl
   ·rw [deF hv,if_neg hv]; rfl
  have hd:l.drop i=l.getD i (ET.dft .str)::l.drop (i+1):=by
   rw [List.getD_eq_getElem?_getD,List.getElem?_eq_getElem (by omega),List.drop_eq_getElem_cons (by omega)]; rfl
  by_cases hv:v=l.getD i (ET.dft .str)
  ·rw [if_pos hv] at hst;exact .inl ⟨i,qAi hst,by rw [hd]; exact List.mem_cons.2 (.inl hv)⟩
  ·rw [if_neg hv] at hst;have e:zdj_p0 v (l.length:Int) (i:Int) l=zdj_p0 v (l.length:Int) ((i+1:Nat):Int) l:=qAr hst;rcases u_index l hl v k (i+1) (by omega) with ⟨j,h1,h2⟩ | ⟨h1,h2⟩
   ·exact .inl ⟨j,e.trans h1,by rw [hd]; exact List.mem_cons_of_mem _ h2⟩
   ·exact .inr ⟨e.trans h1,by rw [hd]; exact fun hm=>(List.mem_cons.1 hm).elim hv h2⟩
theorem u_kw (s:BA):zdi_s Eng.kwT s=some (kwB s):=by
 unfold zdi_s zdj_s;rcases u_index Eng.kwT (by decide) s Eng.kwT.length 0 (by omega) with ⟨j,h1,h2⟩ | ⟨h1,h2⟩
 ·have h3:=(kw_iff s).1 (by simpa using h2);rw [show ((0:Nat):Int)=0 from rfl] at h1;rw [h1,h3];show some (decide ((0:Int)≤(j:Int)))=_;rw [deT (by omega)]
 ·have h3:kwB s=false:=by
   cases h:kwB s with
   | false=>rfl
   | true=>exact absurd ((kw_iff s).2 h) (by simpa using h2)
  rw [show ((0:Nat):Int)=0 from rfl] at h1;rw [h1,h3];rfl
theorem rn_while {p:Int→Bool} (hp:p (-1)=false) {s:BA} {step:Int→Option (Int ⊕ (Bool ⊕ Unit))} (hst:∀i:Nat,i≤s.size→step (i:Int)=some (if s.size≤i then .inr (.inr ()) else if p (bAt s i)=true then .inl ((i+1:Nat):Int) else .inr (.inl false))) (i:Nat) (hi:i≤s.size) :
  qAw step (i:Int)=some (if rnS p s i=s.size then .inr () else .inl false):=by
 rcases Nat.lt_or_ge i s.size with h | h
 ·by_cases hb:p (bAt s i)=true
  ·rw [qAr (by rw [hst i hi,if_neg (by omega),if_pos hb]),qGx hp hb];exact rn_while hp hst (i+1) (by omega)
  ·rw [qAi (by rw [hst i hi,if_neg (by omega),if_neg hb]),qGn (by simpa using hb),if_neg (by omega)]
 ·rw [qAi (by rw [hst i hi,if_pos h]),qGn (by rw [qBm (by omega)]; exact hp),if_pos (by omega)]
termination_by s.size - i
theorem u_named {s:BA} (hs:s.size≤1024):zax_s s=some (namedS s):=by
 have hst:∀i:Nat,i≤s.size→qFy s (s.size:Int) (i:Int)=some (if s.size≤i then .inr (.inr ()) else if qE1 (bAt s i)=true then .inl ((i+1:Nat):Int) else .inr (.inl false)):=by
  intro i hi;unfold qFy;rcases Nat.lt_or_ge i s.size with h | h
  ·rw [deT (by omega),cnT,qAb (by omega),if_neg (by omega),u_letter,u_digit];simp only [obS];rw [qAb (fun _=>by omega),qAb (by unfold qAf; omega)];unfold qE1;cases isLet (bAt s i) <;> cases qBu (bAt s i) <;> rfl
  ·rw [deF (by omega),cnF,if_pos h]
 have hemp:s=(⟨#[]⟩:BA)↔s.size=0:=⟨fun h=>by rw [h]; rfl,fun h=>ext_bAt h fun i hi=>by omega⟩;unfold zax_s namedS;by_cases h0:s.size=0
 ·rw [deT (hemp.2 h0),qAb (fun h=>by cases h),cnT,deF (by omega)];rfl
 ·rw [deF (fun h=>h0 (hemp.1 h)),qAb (fun _=>by omega),cnF,deT (show 0<s.size by omega),u_letter,obS,u_kw,obS];cases isLet (bAt s 0) with
  | false=>rfl
  | true =>
   cases kwB s with
   | true=>rfl
   | false =>
    have:=rn_while qBf hst 0 (by omega);unfold zax_p0;rw [show ((0:Nat):Int)=0 from rfl] at this;rw [this];by_cases he:rnS qE1 s 0=s.size
    ·rw [if_pos he,deT he]; rfl
    ·rw [if_neg he,deF he]; rfl
theorem one_zero {s:BA}:s=(⟨#[48]⟩:BA)↔s.size=1∧bAt s 0=48:=by
 refine ⟨fun h=>by rw [h]; exact ⟨rfl,rfl⟩,fun ⟨h1,h2⟩=>ext_bAt h1 fun i hi=>?_⟩;obtain rfl:i=0:=by omega
 exact h2
theorem u_placed {s:BA} (hs:s.size≤1024):zbs_s s=some (placedS s):=by
 have hst:∀i:Nat,i≤s.size→qF3 s (s.size:Int) (i:Int)=some (if s.size≤i then .inr (.inr ()) else if qBu (bAt s i)=true then .inl ((i+1:Nat):Int) else .inr (.inl false)):=by
  intro i hi;unfold qF3;rcases Nat.lt_or_ge i s.size with h | h
  ·rw [deT (by omega),cnT,qAb (by omega),if_neg (by omega),u_digit];simp only [obS];rw [qAb (by unfold qAf; omega)];cases qBu (bAt s i) <;> rfl
  ·rw [deF (by omega),cnF,if_pos h]
 have hemp:s=(⟨#[]⟩:BA)↔s.size=0:=⟨fun h=>by rw [h]; rfl,fun h=>ext_bAt h fun i hi=>by omega⟩;have hw:=rn_while qBj hst 0 (by omega);rw [show ((0:Nat):Int)=0 from rfl] at hw;unfold zbs_s zbs_p0 placedS;rw [hw];by_cases he:rnS qBu s 0=s.size
 ·rw [if_pos he,deT he,obS];simp only [Sum.elim_inr,Bool.and_true];by_cases h0:s.size=0
  ·rw [deT (hemp.2 h0),deF (show ¬0<s.size by omega),qAb (fun h=>by cases h),deF (fun h=>by have:=(one_zero.1 h).1; omega)];rfl
  ·rw [deF (fun h=>h0 (hemp.1 h)),deT (show 0<s.size by omega),qAb (fun _ _=>by omega)];by_cases hb:bAt s 0=48
   ·rw [deT hb];by_cases h1:s.size=1
    ·rw [deT (one_zero.2 ⟨h1,hb⟩),deF (show ¬1<s.size by omega)];rfl
    ·rw [deF (fun h=>h1 (one_zero.1 h).1),deT (show 1<s.size by omega)];rfl
   ·rw [deF hb];simp
 ·rw [if_neg he,deF he,Bool.and_false];rfl
def rsP {α:Type} (t:BA) (o:Int) (out:RNl):Rd α→(rules_parser × α) ⊕ PV
 | .ok b x=>.inl (⟨t,(b:Int),o,out⟩,x)
 | .bad c b=>.inr (29,.agg #[.int .i64 c,.int .i64 (b:Int)])
section
variable {t:BA} (hs:t.size≤1024) (o:Int) (out:RNl)
include hs
theorem u_quoted0 (i:Nat) (hi:i<t.size) (h34:bAt t (i:Int)=34) (e:Nat) (he:i<e):zbk_p0 (e:Int) t (i:Int) o out=some (match qEnd t e with
  | none=>.inr (.inr ())
  | some q=>if (tokR (t.extract i (q+1))).2.1=0 then .inl (((tokR (t.extract i (q+1))).1.getD 0 (ET.dft .node)).text,((q+1:Nat):Int)) else .inr (.inl (29,.agg #[.int .i64 180,.int .i64 (i:Int)]))):=by
 unfold zbk_p0;rw [qEnd_eq];rcases Nat.lt_or_ge e t.size with h | h
 ·rw [if_neg (by omega)];by_cases h2:bAt t (e:Int)=34
  ·rw [if_pos h2];refine qAi ?_;unfold qDo;rw [deT (by omega),cnT,qAb (by omega),h2,deF (by decide),cnF,deT rfl,cnT,qAb (by unfold qAf; omega),qAb (by omega),show ((e:Int)+1)=((e+1:Nat):Int) by omega,Int.toNat_natCast,Int.toNat_natCast,p_tok (by rw [qBa (by omega)]; omega) (tok_first (by omega) (by omega) h34),obS,qAb rfl];dsimp only;by_cases hc:(tokR (t.extract i (e+1))).2.1=0
   ·have hne:0<(tokR (t.extract i (e+1))).1.length:=by
     rcases tok_cases (t.extract i (e+1)) with ⟨l,h1⟩ | ⟨_,c,b,h1,h2⟩
     ·rw [h1]; exact Nat.one_pos
     ·rw [h1] at hc; exact absurd hc h2
    rw [deT hc,Bool.not_true,cnF,qAb (by unfold qAf; omega),qAb ⟨by omega,by omega⟩,qAb (show Int.toNat 0<_ from hne),qAb (show Int.toNat 0<_ from hne),if_pos hc];rfl
   ·rw [deF hc,Bool.not_false,cnT,if_neg hc];rfl
  ·rw [if_neg h2];by_cases h3:bAt t (e:Int)=92
   ·rw [if_pos h3,qAr (y:=((e+2:Nat):Int)) (by
     unfold qDo;rw [deT (by omega),cnT,qAb (by omega),deT h3,cnT,qAb (by unfold qAf; omega),qAb (by unfold qAf; omega)];rfl)]
    exact u_quoted0 i hi h34 (e+2) (by omega)
   ·rw [if_neg h3,qAr (y:=((e+1:Nat):Int)) (by
     unfold qDo;rw [deT (by omega),cnT,qAb (by omega),deF h3,cnF,deF h2,cnF,qAb (by unfold qAf; omega)];rfl)]
    exact u_quoted0 i hi h34 (e+1) (by omega)
 ·rw [if_pos h];refine qAi ?_;unfold qDo;rw [deF (by omega),cnF]
termination_by t.size - e
theorem u_quoted (i:Nat) (hi:i<t.size) (h34:bAt t (i:Int)=34):zbk_s ⟨t,(i:Int),o,out⟩=some (rsP t o out (strS t i)):=by
 unfold zbk_s strS;dsimp only;rw [qAb (by unfold qAf; omega),show ((i:Int)+1)=((i+1:Nat):Int) by omega,u_quoted0 hs o out i hi h34 (i+1) (by omega),obS];cases qEnd t (i+1) with
 | none=>rfl
 | some q =>
  dsimp only;split <;> rfl
theorem u_part (first:Bool) (a:Nat) (ha:a≤t.size):zbi_s ⟨t,(a:Int),o,out⟩ first=some (rsP t o out (qE4 t first a)):=by
 have h2:=qA6 t a ha;unfold zbi_s qE4;rw [u_nextk hs o out a ha,obS];dsimp only;generalize qAq t a=i at *
 by_cases hi:t.size≤i
 ·have hk:qCk t i=0:=by unfold qCk; rw [if_pos hi]
  rw [hk,if_pos hi];rfl
 ·rw [if_neg hi];have hw:=qHj t i h2;have hd:(digB t i).size=rnS qBu t i - i:=qBa (qDx qBj i h2);have g1:=qFs (t:=t) qBf i;have g2:=qDx (t:=t) qBf i h2;have g3:=qFs (t:=t) qBj i;have g4:=qDx (t:=t) qBj i h2;by_cases h34:bAt t (i:Int)=34
  ·have hk:qCk t i=3:=by
    unfold qCk;rw [if_neg hi,h34,if_neg (by decide),if_neg (by decide),if_pos rfl]
   rw [hk,if_pos h34,deT rfl,cnT,u_quoted hs o out i (by omega) h34,obS];cases strS t i <;> rfl
  ·rw [if_neg h34];cases hl:isLet (bAt t (i:Int)) with
   | true =>
    have hk:qCk t i=1:=by unfold qCk; rw [if_neg hi,if_pos hl]
    have hn:qBu (bAt t (i:Int))=false:=by
     simp only [isLet,qBu,Bool.or_eq_true,Bool.and_eq_true,decide_eq_true_eq,Bool.and_eq_false_iff,decide_eq_false_iff_not] at hl ⊢;omega
    rw [hk,deF (by decide),cnF,deT rfl,cnT,u_name hs o out i h2,obS,u_named (by omega),obS,if_neg (by rw [hn]; simp)];cases hnm:namedS (qA5 t i) with
    | true =>
     rw [Bool.not_true,cnF,if_pos rfl];unfold zbi_p0;rw [qAb (by unfold qAf; omega),obS,show (i:Int)+((qA5 t i).size:Int)=((rnS qE1 t i:Nat):Int) by omega];rfl
    | false =>
     rw [Bool.not_false,cnT,if_neg (by simp)];rfl
   | false =>
    cases hn:qBu (bAt t (i:Int)) with
    | true =>
     have hk:qCk t i=2:=by unfold qCk; rw [if_neg hi,if_neg (by rw [hl]; simp),if_pos hn]
     rw [hk,deF (by decide),cnF,deF (by decide),cnF,deT rfl,cnT,u_run0 hs o out i h2,obS,if_pos rfl];cases first with
     | true =>
      rw [cnT,if_pos (.inl rfl)];rfl
     | false =>
      rw [cnF,u_placed (by omega),obS];cases hp:placedS (digB t i) with
      | true =>
       rw [Bool.not_true,cnF,if_neg (by simp)];unfold zbi_p0;rw [qAb (by unfold qAf; omega),obS,show (i:Int)+((digB t i).size:Int)=((rnS qBu t i:Nat):Int) by omega];rfl
      | false =>
       rw [Bool.not_false,cnT,if_pos (.inr rfl)];rfl
    | false =>
     have hk:qCk t i=4∨qCk t i=5:=by
      unfold qCk;rw [if_neg hi,if_neg (by rw [hl]; simp),if_neg (by rw [hn]; simp),if_neg h34];split
      ·exact .inl rfl
      ·exact .inr rfl
     have hnw:namedS (qA5 t i)=false:=by
      have:qA5 t i=⟨#[]⟩:=by
       unfold qA5;rw [qGn (by unfold qE1; rw [hl,hn]; rfl)];exact ByteArray.extract_eq_empty_iff.2 (by omega)
      rw [this];rfl
     rw [if_neg (by simp),hnw,if_neg (by simp)];rcases hk with hk | hk <;> rw [hk] <;> rfl
theorem u_path0:∀(n:Nat) (a:Nat) (l:List BA),a≤t.size→t.size+1 - a≤n→l.length≤a→zbj_p0 t (a:Int) o out l=some (match pathN t n a l with
  | .bad c b=>.inl (29,.agg #[.int .i64 c,.int .i64 (b:Int)])
  | .ok b l'=>.inr (t,(b:Int),o,out,l'))
 | 0,a,l,ha,hn,hl=>by omega
 | n+1,a,l,ha,hn,hl=>by
  have h1:=qB6 t a;have h2:=qA6 t a ha;unfold zbj_p0 pathN;by_cases hd:bAt t (qAq t a:Int)=46
  ·have h3:=bNN (by omega) hd;have hst:qEh t (a:Int) o out l=some (match qE4 t false (qAq t a+1) with
     | .bad c b=>.inr (.inl (29,.agg #[.int .i64 c,.int .i64 (b:Int)]))
     | .ok b w=>.inl (t,(b:Int),o,out,l++[w])):=by
    unfold qEh;rw [u_sign hs o out a ha rfl,if_pos hd,obS];dsimp only;rw [cnT,u_part hs o out false (qAq t a+1) (by omega),obS];cases hp:qE4 t false (qAq t a+1) with
    | bad c b=>rfl
    | ok b w =>
     exact qAb (by simp only [List.length_cons,List.length_nil]; omega) _
   rw [if_pos hd];cases hp:qE4 t false (qAq t a+1) with
   | bad c b =>
    rw [hp] at hst;exact qAi hst
   | ok b w =>
    have h4:=qDd (by omega) hp;rw [hp] at hst;exact (qAr hst).trans (u_path0 n b (l++[w]) h4.2 (by omega) (by simp; omega))
  ·rw [if_neg hd];refine qAi ?_;unfold qEh;rw [u_sign hs o out a ha rfl,if_neg hd,obS];rfl
theorem u_path (a:Nat) (ha:a≤t.size):zbj_s ⟨t,(a:Int),o,out⟩=some (rsP t o out (qFb t a)):=by
 unfold zbj_s qFb;rw [u_part hs o out true a ha,obS];cases hp:qE4 t true a with
 | bad c b=>rfl
 | ok b w =>
  have h4:=qDd ha hp;show (zbj_p0 t (b:Int) o out [w]).bind _=_;rw [u_path0 hs o out (t.size+1 - b) b [w] h4.2 (Nat.le_refl _) (by simp; omega),obS];show _=some (rsP t o out (pathN t (t.size+1 - b) b [w]));cases hq:pathN t (t.size+1 - b) b [w] <;> rfl
omit hs in
theorem pre_one {t:BA} {i:Nat} {c:UInt8} (hi:i≤t.size):(decide (((⟨#[c]⟩:BA).size:Int)≤((t.extract i t.size).size:Int)) && decide ((t.extract i t.size).extract 0 (Int.toNat ((⟨#[c]⟩:BA).size:Int))=⟨#[c]⟩))=decide (bAt t (i:Int)=(c.toNat:Int)):=by
 have hz:(t.extract i t.size).size=t.size - i:=qBa (Nat.le_refl _);have e1:(⟨#[c]⟩:BA).size=1:=rfl;rw [e1,hz];by_cases h:i<t.size
 ·rw [deT (by omega),Bool.true_and];refine decide_eq_decide.2 ⟨fun he=>?_,fun he=>?_⟩
  ·have:bAt ((t.extract i t.size).extract 0 1) 0=bAt (⟨#[c]⟩:BA) 0:=congrArg (fun s=>bAt s 0) he;rw [qA8 _ 0 1 0 (by omega) (by omega),qA8 t i t.size _ (by omega) (by omega),show bAt (⟨#[c]⟩:BA) 0=(c.toNat:Int) from rfl] at this;simpa using this
  ·refine ext_bAt ?_ fun j hj=>?_
   ·rw [ByteArray.size_extract,hz,e1]; simp; omega
   ·rw [ByteArray.size_extract,hz] at hj;obtain rfl:j=0:=by simp at hj; omega
    show bAt ((t.extract i t.size).extract 0 1) 0=_;rw [qA8 _ 0 1 0 (by omega) (by omega),qA8 t i t.size _ (by omega) (by omega),show bAt (⟨#[c]⟩:BA) ((0:Nat):Int)=(c.toNat:Int) from rfl];simpa using he
 ·rw [deF (by omega),Bool.false_and,deF (fun he=>by have:=bNN (by omega) he; omega)]
omit hs in
theorem pre_two {t:BA} {i:Nat} {c d:UInt8} (hi:i≤t.size):(decide (((⟨#[c,d]⟩:BA).size:Int)≤((t.extract i t.size).size:Int)) && decide ((t.extract i t.size).extract 0 (Int.toNat ((⟨#[c,d]⟩:BA).size:Int))=⟨#[c,d]⟩))=decide (bAt t (i:Int)=(c.toNat:Int)∧bAt t (i+1:Nat)=(d.toNat:Int)):=by
 have hz:(t.extract i t.size).size=t.size - i:=qBa (Nat.le_refl _);have e1:(⟨#[c,d]⟩:BA).size=2:=rfl;rw [e1,hz];by_cases h:i+1<t.size
 ·rw [deT (by omega),Bool.true_and];have k:∀j:Nat,j<2→bAt ((t.extract i t.size).extract 0 2) (j:Int)=bAt t ((i+j:Nat):Int):=fun j hj=>by
   rw [qA8 _ 0 2 (j:Int) (by omega) (by omega),qA8 t i t.size _ (by omega) (by omega)];congr 1
   simp
  refine decide_eq_decide.2 ⟨fun he=>?_,fun he=>?_⟩
  ·have k0:=k 0 (by omega);have k1:=k 1 (by omega);rw [show (Int.toNat ((2:Nat):Int))=2 from rfl] at he;rw [he] at k0 k1;exact ⟨k0.symm,k1.symm⟩
  ·refine ext_bAt ?_ fun j hj=>?_
   ·rw [ByteArray.size_extract,hz,e1]; simp; omega
   ·rw [ByteArray.size_extract,hz] at hj;have hj2:j<2:=by simp at hj; omega
    show bAt ((t.extract i t.size).extract 0 2) (j:Int)=_;rw [k j hj2];match j,hj2 with
    | 0,_=>exact he.1
    | 1,_=>exact he.2
 ·rw [deF (by omega),Bool.false_and,deF (fun he=>by have:=bNN (by omega) he.2; omega)]
theorem u_oper1 (i:Nat) (hi:i≤t.size) (hb:qAq t i=i) (j:Nat) (hj:j<6):zbh_p1 6 (j:Int) t (i:Int) o out Eng.opT=some (if (qCk t i=4∧((decide (((Eng.opT.getD j (ET.dft .tag)).text.size:Int)≤((t.extract i t.size).size:Int)) && decide ((t.extract i t.size).extract 0 (Int.toNat ((Eng.opT.getD j (ET.dft .tag)).text.size:Int))=(Eng.opT.getD j (ET.dft .tag)).text))=true)) then
  .inl ((Eng.opT.getD j (ET.dft .tag)).num,t,((i+(Eng.opT.getD j (ET.dft .tag)).text.size:Nat):Int),o,out) else .inr (.inl (((j+1:Nat):Int),t,(i:Int),o,out))):=by
 have hl:(Eng.opT.getD j (ET.dft .tag)).text.size≤2:=by
  match j,hj with
  | 0,_ | 1,_ | 2,_ | 3,_ | 4,_ | 5,_=>decide
 unfold zbh_p1;rw [deT (by omega),cnT,qAb ⟨by omega,by show (j:Int)<((6:Nat):Int); omega⟩,qAb (by show Int.toNat (j:Int)<6; omega),u_nextk hs o out i hi,obS,hb];dsimp only;rw [qAb (fun _=>by omega),Int.toNat_natCast];unfold zdl_s zae_s zbh_p2;rw [Int.toNat_natCast,qAb (fun h=>⟨by omega,by omega,of_decide_eq_true h⟩)];simp only [obS];generalize (Eng.opT.getD j (ET.dft .tag))=x at *
 by_cases hk:qCk t i=4
 ·rw [deT hk,Bool.true_and];cases hp:(decide ((x.text.size:Int)≤((t.extract i t.size).size:Int)) && decide ((t.extract i t.size).extract 0 (Int.toNat (x.text.size:Int))=x.text)) with
  | true =>
   rw [cnT,qAb (by unfold qAf; omega),if_pos ⟨hk,rfl⟩];rfl
  | false =>
   rw [cnF,if_neg (by simp)];show gd _ _=_;rw [qAb (by unfold qAf; omega)];rfl
 ·rw [deF hk,Bool.false_and,cnF,if_neg (fun h=>hk h.1)];show gd _ _=_;rw [qAb (by unfold qAf; omega)];rfl
end
end Go.Proofs.YtpobbbpphnnnhaaGreatDoor
namespace Go.Proofs.YtpobbbpphnnnhaaGreatDoor
open Go.Eng
set_option linter.unusedVariables false
set_option linter.unusedSimpArgs false
theorem strS_bad {t:BA} {a b:Nat} {c:Int} (h:strS t a=.bad c b):c=180∧b=a:=by
 unfold strS at h;split at h
 ·cases h; exact ⟨rfl,rfl⟩
 ·split at h
  ·cases h
  ·cases h; exact ⟨rfl,rfl⟩
theorem partS_bad {t:BA} {f:Bool} {a b:Nat} {c:Int} (ha:a≤t.size) (h:qE4 t f a=.bad c b):c=180∧b≤t.size:=by
 have h2:=qA6 t a ha;unfold qE4 at h;dsimp only at h;split at h
 ·cases h; exact ⟨rfl,h2⟩
 ·split at h
  ·obtain ⟨rfl,rfl⟩:=strS_bad h; exact ⟨rfl,h2⟩
  ·split at h
   ·split at h
    ·cases h; exact ⟨rfl,h2⟩
    ·cases h
   ·split at h
    ·cases h
    ·cases h; exact ⟨rfl,h2⟩
theorem pathN_bad {t:BA}:∀ {n a b:Nat} {l:List BA} {c:Int},a≤t.size→t.size+1 - a≤n→pathN t n a l=.bad c b→c=180∧b≤t.size
 | 0,a,b,l,c,ha,hn,h=>by omega
 | n+1,a,b,l,c,ha,hn,h=>by
  have h1:=qB6 t a;have h2:=qA6 t a ha;unfold pathN at h;split at h
  ·rename_i hd;have h3:=bNN (by omega) hd;split at h
   ·rename_i c1 b1 hp;cases h;exact partS_bad (by omega) hp
   ·rename_i b1 w hp;have h4:=qDd (by omega) hp;exact pathN_bad h4.2 (by omega) h
  ·cases h
theorem pathS_bad {t:BA} {a b:Nat} {c:Int} (ha:a≤t.size) (h:qFb t a=.bad c b):c=180∧b≤t.size:=by
 unfold qFb at h;split at h
 ·rename_i c1 b1 hp;cases h;exact partS_bad ha hp
 ·rename_i b1 w hp;exact pathN_bad (qDd ha hp).2 (Nat.le_refl _) h
theorem valS_bad {t:BA} {f:Bool} {a b:Nat} {c:Int} (ha:a≤t.size) (h:valS t f a=.bad c b):c=180∧b≤t.size:=by
 have h2:=qA6 t a ha;unfold valS at h;dsimp only at h;split at h
 ·cases h; exact ⟨rfl,h2⟩
 ·split at h
  ·split at h
   ·rename_i c1 b1 hs;cases h;obtain ⟨rfl,rfl⟩:=strS_bad hs; exact ⟨rfl,h2⟩
   ·cases h
  ·(repeat' split at h) <;> first | (cases h; exact ⟨rfl,h2⟩) | cases h
theorem v_letter (c:Int):zcq_s c=some (isLet c):=rfl
theorem v_digit (c:Int):zcp_s c=some (qBu c):=rfl
section
variable {t:BA} (hs:t.size≤1024) (o e bd:Int) (out:RNl)
include hs
theorem qC7 (a:Nat):zca_s ⟨t,(a:Int),out,o,e,bd⟩=some (⟨t,(qAq t a:Int),out,o,e,bd⟩,decide (qAq t a<t.size)):=by
 have hst:∀a:Nat,qEm t (a:Int)=some (if qBr (bAt t a)=true then .inl ((a+1:Nat):Int) else .inr (a:Int)):=by
  intro a;unfold qEm;have h:(decide ((a:Int)<(t.size:Int)))=true→0≤(a:Int)∧(a:Int)<t.size:=fun h=>⟨by omega,of_decide_eq_true h⟩
  rw [qAb h,qAb (fun _=>h),qAb (fun _=>h),qAb (fun _=>h)];rw [show ((((decide ((bAt t (a:Int))=(32:Int))) || (decide ((bAt t (a:Int))=(9:Int)))) || (decide ((bAt t (a:Int))=(10:Int)))) || (decide ((bAt t (a:Int))=(13:Int))))=qBr (bAt t (a:Int)) from rfl]
  cases hb:qBr (bAt t a) with
  | true =>
   have:=qBn hb;rw [deT (by omega),Bool.true_and,cnT,if_pos rfl,qAb (by unfold qAf; omega)];rfl
  | false=>rw [Bool.and_false,cnF,if_neg (by simp)]
 unfold zca_s zca_p0;dsimp only;have key:qAw (fun x:Int=>qEm t x) (a:Int)=some (qAq t a:Int):=by
  induction h:t.size - a using Nat.strongRecOn generalizing a with
  | _ n ih =>
   by_cases hb:qBr (bAt t a)=true
   ·have:=qBn hb;rw [qAr (by rw [hst,if_pos hb]),qFu hb];exact ih (t.size - (a+1)) (by omega) (a+1) rfl
   ·rw [qAi (by rw [hst,if_neg hb]),qFc (by simpa using hb)]
 rw [key,obS];congr 2
 exact decide_eq_decide.2 (by omega)
theorem v_word (a:Nat) (ha:a≤t.size):zco_s ⟨t,(a:Int),out,o,e,bd⟩=some (qA5 t a):=by
 have hst:∀a:Nat,qF9 (a:Int) t=some (if qE1 (bAt t a)=true then .inl ((a+1:Nat):Int) else .inr (a:Int)):=by
  intro a;unfold qF9;have h:(decide ((a:Int)<(t.size:Int)))=true→0≤(a:Int)∧(a:Int)<t.size:=fun h=>⟨by omega,of_decide_eq_true h⟩
  rw [qAb h,v_letter,v_digit];simp only [obS];rcases Nat.lt_or_ge a t.size with hlt | hge
  ·rw [deT (by omega),cnT,qAb (fun _=>by omega),qAb (by unfold qAf; omega)];unfold qE1;cases isLet (bAt t a) <;> cases qBu (bAt t a) <;> rfl
  ·rw [deF (by omega),cnF,qBm (by omega)];rfl
 have h1:=qFs (t:=t) qBf a;have h2:=qDx (t:=t) qBf a ha;unfold zco_s zco_p0;dsimp only;rw [qFt qBf hst,obS,qAb (by omega)];rfl
omit hs in
theorem qE7 (r:qHl) (h:r.err=0) (c b:Int):qF6 r c b=some ⟨r.text,r.at_,r.out,r.open_,c,b⟩:=by
 unfold qF6;rw [deT h,cnT]
theorem v_text0 (e:Nat):∃q:Nat,zcm_p0 (e:Int) t=some (q:Int)∧match qEnd t e with
  | none=>t.size≤q
  | some z=>q=z∧q<t.size:=by
 unfold zcm_p0;rw [qEnd_eq];rcases Nat.lt_or_ge e t.size with h | h
 ·rw [if_neg (by omega)];by_cases h2:bAt t (e:Int)=34
  ·rw [if_pos h2];refine ⟨e,qAi ?_,rfl,h⟩;unfold qDs;rw [qAb (fun _=>by omega),h2,deT (by omega)];rfl
  ·rw [if_neg h2];by_cases h3:bAt t (e:Int)=92
   ·rw [if_pos h3];obtain ⟨q,k1,k2⟩:=v_text0 (e+2);refine ⟨q,?_,k2⟩;rw [qAr (y:=((e+2:Nat):Int)) (by
     unfold qDs;rw [qAb (fun _=>by omega),deT (by omega),deF h2,Bool.not_false,Bool.true_and,cnT,qAb (by omega),deT h3,cnT,qAb (by unfold qAf; omega),qAb (by unfold qAf; omega)];rfl)]
    exact k1
   ·rw [if_neg h3];obtain ⟨q,k1,k2⟩:=v_text0 (e+1);refine ⟨q,?_,k2⟩;rw [qAr (y:=((e+1:Nat):Int)) (by
     unfold qDs;rw [qAb (fun _=>by omega),deT (by omega),deF h2,Bool.not_false,Bool.true_and,cnT,qAb (by omega),deF h3,cnF,qAb (by unfold qAf; omega)];rfl)]
    exact k1
 ·rw [if_pos h];refine ⟨e,qAi ?_,h⟩;unfold qDs;rw [qAb (fun h=>by have:=of_decide_eq_true h; omega),deF (by omega)];rfl
termination_by t.size - e
theorem v_text (i:Nat) (hi:i<t.size) (h34:bAt t (i:Int)=34):zcm_s ⟨t,(i:Int),out,o,0,bd⟩=some (match strS t i with
  | .ok b w=>(⟨t,(b:Int),out,o,0,bd⟩,w)
  | .bad c b=>(⟨t,(i:Int),out,o,c,(b:Int)⟩,⟨#[]⟩)):=by
 unfold zcm_s strS;dsimp only;obtain ⟨q,k1,k2⟩:=v_text0 hs (i+1);rw [qAb (by unfold qAf; omega),show ((i:Int)+1)=((i+1:Nat):Int) by omega,k1,obS];cases hq:qEnd t (i+1) with
 | none =>
  rw [hq] at k2;rw [deT (show (t.size:Int)≤(q:Int) by omega),cnT,qE7 _ rfl];rfl
 | some z =>
  rw [hq] at k2;obtain ⟨rfl,hz⟩:=k2;have hz0:=qEnd_in t (i+1) hq;rw [deF (by omega),cnF,qAb (by unfold qAf; omega),qAb (by omega),show ((q:Int)+1)=((q+1:Nat):Int) by omega,Int.toNat_natCast,Int.toNat_natCast,r_tok (by rw [qBa (by omega)]; omega) (tok_first (by omega) (by omega) h34),obS,qAb rfl];dsimp only;by_cases hc:(tokR (t.extract i (q+1))).2.1=0
  ·have hne:0<(tokR (t.extract i (q+1))).1.length:=by
    rcases tok_cases (t.extract i (q+1)) with ⟨l,h1⟩ | ⟨_,c,b,h1,h2⟩
    ·rw [h1]; exact Nat.one_pos
    ·rw [h1] at hc; exact absurd hc h2
   rw [deT hc,Bool.not_true,cnF,qAb (by unfold qAf; omega),qAb ⟨by omega,by omega⟩,qAb (show Int.toNat 0<_ from hne),qAb (show Int.toNat 0<_ from hne),if_pos hc];rfl
  ·rw [deF hc,Bool.not_false,cnT,if_neg hc,qE7 _ rfl];rfl
omit hs in
theorem v_named {s:BA} (hs:s.size≤1024):zbw_s s=some (namedS s):=by
 have hst:∀i:Nat,i≤s.size→qF4 s (i:Int)=some (if s.size≤i then .inr (.inr ()) else if qE1 (bAt s i)=true then .inl ((i+1:Nat):Int) else .inr (.inl false)):=by
  intro i hi;unfold qF4;rcases Nat.lt_or_ge i s.size with h | h
  ·rw [deT (by omega),cnT,qAb (by omega),if_neg (by omega),v_letter,v_digit];simp only [obS];rw [qAb (fun _=>by omega),qAb (by unfold qAf; omega)];unfold qE1;cases isLet (bAt s i) <;> cases qBu (bAt s i) <;> rfl
  ·rw [deF (by omega),cnF,if_pos h]
 have hkw:zcr_s s=some (kwB s):=by
  unfold zcr_s zcr_p0 kwB bAnd bOr bNot bHas bCont bTrue bFalse bNull;cases decide (s=(⟨#[97,110,100]⟩:BA)) <;> cases decide (s=(⟨#[111,114]⟩:BA)) <;> cases decide (s=(⟨#[110,111,116]⟩:BA)) <;> cases decide (s=(⟨#[104,97,115]⟩:BA)) <;> cases decide (s=(⟨#[99,111,110,116,97,105,110,115]⟩:BA)) <;> cases decide (s=(⟨#[116,114,117,101]⟩:BA)) <;> cases decide (s=(⟨#[102,97,108,115,101]⟩:BA)) <;> cases decide (s=(⟨#[110,117,108,108]⟩:BA)) <;> rfl
 unfold zbw_s namedS;by_cases h0:s.size=0
 ·rw [deT (by omega),qAb (fun h=>by cases h),cnT,deF (by omega)];rfl
 ·rw [deF (by omega),qAb (fun _=>by omega),cnF,deT (show 0<s.size by omega),v_letter,obS,hkw,obS];cases isLet (bAt s 0) with
  | false=>rfl
  | true =>
   cases kwB s with
   | true=>rfl
   | false =>
    have:=rn_while qBf hst 0 (by omega);unfold zbw_p0;rw [show ((0:Nat):Int)=0 from rfl] at this;rw [this];by_cases he:rnS qE1 s 0=s.size
    ·rw [if_pos he,deT he]; rfl
    ·rw [if_neg he,deF he]; rfl
omit hs in
theorem v_place0 {s:BA} (hs:s.size≤3000000) (i:Nat) (hi:i≤s.size) (n:Int) (hn:0≤n∧n≤1099511627776):∃z:(Int × Bool) ⊕ Int,zby_p0 s n (i:Int)=some z∧(if rnS qBu s i=s.size then ∃v:Int,z=.inr v∧0≤v∧v≤1099511627776 else z=.inl (0,false)):=by
 unfold zby_p0;rcases Nat.lt_or_ge i s.size with h | h
 ·by_cases hb:qBu (bAt s i)=true
  ·have hr:48≤bAt s (i:Int)∧bAt s (i:Int)≤57:=by simpa [qBu] using hb
   have hm:((bAt s (i:Int)) - 48) % 256=bAt s (i:Int) - 48:=by omega
   obtain ⟨z,k1,k2⟩:=v_place0 hs (i+1) (by omega) (if (1099511627776:Int)<(((10:Int)*n)+(((bAt s (i:Int)) - (48:Int)) % 256)) then (1099511627776:Int) else (((10:Int)*n)+(((bAt s (i:Int)) - (48:Int)) % 256))) (by split <;> omega)
   refine ⟨z,?_,by rw [qGx qBj hb]; exact k2⟩;rw [qAr (y:=((if (1099511627776:Int)<(((10:Int)*n)+(((bAt s (i:Int)) - (48:Int)) % 256)) then (1099511627776:Int) else (((10:Int)*n)+(((bAt s (i:Int)) - (48:Int)) % 256))),((i+1:Nat):Int))) (by
    unfold qEl;dsimp only;rw [deT (by omega),cnT,qAb (by omega),v_digit,obS,hb,Bool.not_true,cnF,qAb (by unfold qAf; omega),qAb (by omega),qAb (by unfold qAf; omega),qAb (by unfold qAf; omega),qAb (by unfold qAf; omega)];rfl)]
   exact k1
  ·refine ⟨.inl (0,false),qAi ?_,by rw [qGn (by simpa using hb),if_neg (by omega)]⟩;unfold qEl;dsimp only;rw [deT (by omega),cnT,qAb (by omega),v_digit,obS,show qBu (bAt s (i:Int))=false by simpa using hb];rfl
 ·refine ⟨.inr n,qAi ?_,by rw [qGn (by rw [qBm (by omega)]; rfl),if_pos (by omega)]; exact ⟨n,rfl,hn⟩⟩;unfold qEl;dsimp only;rw [deF (by omega),cnF]
termination_by s.size - i
omit hs in
theorem v_place {s:BA} (hs:s.size≤3000000):∃v:Int,zby_s s=some (v,placedS s)∧0≤v∧v≤1099511627776:=by
 unfold zby_s placedS;by_cases h0:s.size=0
 ·refine ⟨0,?_,by omega,by omega⟩;rw [qAb (fun h=>by have:=of_decide_eq_true h; omega),deT (show (s.size:Int)=0 by omega),deF (show ¬0<s.size by omega)];rfl
 ·rw [qAb (fun _ _=>by omega),deF (show ¬(s.size:Int)=0 by omega),Bool.false_or,deT (show 0<s.size by omega)];rw [show decide ((1:Int)<(s.size:Int))=decide (1<s.size) from decide_eq_decide.2 (by omega)];cases hz:(decide (1<s.size) && decide (bAt s 0=48)) with
  | true=>exact ⟨0,by rw [cnT]; rfl,by omega,by omega⟩
  | false =>
   rw [cnF];obtain ⟨z,k1,k2⟩:=v_place0 hs 0 (by omega) 0 (by omega);rw [show ((0:Nat):Int)=0 from rfl] at k1;rw [k1,obS];by_cases he:rnS qBu s 0=s.size
   ·rw [if_pos he] at k2;obtain ⟨v,rfl,hv⟩:=k2;exact ⟨v,by rw [deT he]; rfl,hv⟩
   ·rw [if_neg he] at k2;subst k2;exact ⟨0,by rw [deF he]; rfl,by omega,by omega⟩
omit hs in
theorem rnS_at {p:Int→Bool} (hp:p (-1)=false) (t:BA) (a:Nat):p (bAt t (rnS p t a:Int))=false:=by
 by_cases h:p (bAt t a)=true
 ·rw [qGx hp h];exact rnS_at hp t (a+1)
 ·rw [qGn (by simpa using h)];simpa using h
termination_by t.size - a
decreasing_by have:=qDc hp h; omega
omit hs in
theorem dig_word0 {t:BA} {i:Nat} (hi:i≤t.size) (j:Nat) (hj:j≤(qA5 t i).size):rnS qBu (qA5 t i) j+i=rnS qBu t (i+j):=by
 have hz:=qHj t i hi;have g1:=qFs (t:=t) qBf i;have g2:=qDx (t:=t) qBf i hi;rcases Nat.lt_or_ge j (qA5 t i).size with h | h
 ·have hb:bAt (qA5 t i) (j:Int)=bAt t ((i+j:Nat):Int):=by
   unfold qA5;rw [qA8 t i _ (j:Int) (by omega) (by omega)];congr 1
  by_cases hn:qBu (bAt t ((i+j:Nat):Int))=true
  ·rw [qGx qBj (by rw [hb]; exact hn),qGx qBj hn];exact dig_word0 hi (j+1) (by omega)
  ·rw [qGn (by rw [hb]; simpa using hn),qGn (by simpa using hn)];omega
 ·have he:i+j=rnS qE1 t i:=by omega
  have hn:qBu (bAt t ((i+j:Nat):Int))=false:=by
   have:=rnS_at qBf t i;rw [←he] at this;unfold qE1 at this;simp only [Bool.or_eq_false_iff] at this;exact this.2
  rw [qGn (by rw [qBm (by omega)]; rfl),qGn hn];omega
termination_by (qA5 t i).size - j
theorem dig_of_word {i:Nat} (hi:i≤t.size):∃q:Nat,zch_p0 (qA5 t i) 0=some (q:Int)∧q≤(qA5 t i).size∧(qA5 t i).extract 0 q=digB t i:=by
 have hz:=qHj t i hi;have g2:=qDx (t:=t) qBf i hi;have hst:∀a:Nat,qF8 (qA5 t i) (a:Int)=some (if qBu (bAt (qA5 t i) a)=true then .inl ((a+1:Nat):Int) else .inr (a:Int)):=by
  intro a;unfold qF8;rw [qAb (fun h=>⟨by omega,of_decide_eq_true h⟩),v_digit,obS];cases hb:qBu (bAt (qA5 t i) a) with
  | true =>
   have:=qDc qBj hb;rw [deT (by omega),cnT,cnT,if_pos rfl,qAb (by unfold qAf; omega)];rfl
  | false =>
   rw [if_neg (by simp)];cases decide ((a:Int)<((qA5 t i).size:Int)) <;> rfl
 have h0:=dig_word0 hi 0 (by omega);have h1:=qDx (t:=qA5 t i) qBj 0 (by omega);refine ⟨rnS qBu (qA5 t i) 0,?_,h1,?_⟩
 ·unfold zch_p0;exact qFt qBj hst 0
 ·have:((qA5 t i).extract 0 (rnS qBu (qA5 t i) 0))=t.extract i (rnS qBu t i):=by
   rw [show i+0=i from rfl] at h0;rw [←h0];refine ext_bAt ?_ fun j hj=>?_
   ·rw [qBa h1,qBa (by omega)];omega
   ·rw [qBa h1] at hj;rw [qA8 _ 0 _ _ (by omega) (by omega),qA8 t i _ _ (by omega) (by omega)];unfold qA5;rw [qA8 t i _ _ (by omega) (by omega)];congr 1
    omega
  exact this
theorem v_part (first:Bool) (a:Nat) (ha:a≤t.size):zch_s ⟨t,(a:Int),out,o,0,bd⟩ first=some (match qE4 t first a with
  | .ok b w=>(⟨t,(b:Int),out,o,0,bd⟩,w)
  | .bad c b=>(⟨t,(b:Int),out,o,c,(b:Int)⟩,⟨#[]⟩)):=by
 have h2:=qA6 t a ha;unfold zch_s qE4;dsimp only;rw [deT rfl,Bool.not_true,cnF,qC7 hs,obS];dsimp only;generalize qAq t a=i at *
 by_cases hi:t.size≤i
 ·rw [if_pos hi,deF (by omega),Bool.not_false,cnT,qE7 _ rfl];rfl
 ·rw [if_neg hi,deT (by omega),Bool.not_true,cnF,qAb (by omega)];have hw:=qHj t i h2;have g1:=qFs (t:=t) qBf i;have g2:=qDx (t:=t) qBf i h2;have g3:=qFs (t:=t) qBj i;have g4:=qDx (t:=t) qBj i h2;have hd:(digB t i).size=rnS qBu t i - i:=qBa g4;by_cases h34:bAt t (i:Int)=34
  ·rw [deT h34,cnT,if_pos h34,v_text hs o bd out i (by omega) h34,obS];cases h:strS t i with
   | ok b w=>rfl
   | bad c b=>obtain ⟨rfl,rfl⟩:=strS_bad h; rfl
  ·rw [deF h34,cnF,if_neg h34,v_word hs o 0 bd out i h2,obS,v_digit,obS];by_cases hn:qBu (bAt t (i:Int))=true
   ·obtain ⟨q,k1,k2,k3⟩:=dig_of_word hs h2;obtain ⟨v,k4,_⟩:=v_place (s:=digB t i) (by omega);rw [if_pos hn,hn,cnT,k1,obS,qAb (by omega),Int.toNat_natCast,k3,k4,obS];dsimp only;cases first with
    | true =>
     rw [if_pos (.inl rfl),Bool.true_or,cnT,qE7 _ rfl];rfl
    | false =>
     rw [Bool.false_or];cases hp:placedS (digB t i) with
     | false =>
      rw [if_pos (.inr rfl),Bool.not_false,cnT,qE7 _ rfl];rfl
     | true =>
      rw [if_neg (by simp),Bool.not_true,cnF];unfold zch_p1;rw [qAb (by unfold qAf; omega),obS,show (i:Int)+((digB t i).size:Int)=((rnS qBu t i:Nat):Int) by omega]
   ·rw [if_neg hn,show qBu (bAt t (i:Int))=false by simpa using hn,cnF,v_named (by omega),obS];cases hnm:namedS (qA5 t i) with
    | false =>
     rw [if_neg (by simp),Bool.not_false,cnT,qE7 _ rfl];rfl
    | true =>
     rw [if_pos rfl,Bool.not_true,cnF];unfold zch_p1;rw [qAb (by unfold qAf; omega),obS,show (i:Int)+((qA5 t i).size:Int)=((rnS qE1 t i:Nat):Int) by omega]
end
end Go.Proofs.YtpobbbpphnnnhaaGreatDoor
