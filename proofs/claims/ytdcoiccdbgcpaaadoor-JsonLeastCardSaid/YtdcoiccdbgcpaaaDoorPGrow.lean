/-
  JsonLeast, the third part: a text that is broken off can be gone on with. No program.
-/
import Derived.Test.YtdcoiccdbgcpaaaDoorPRespell
namespace Go.Proofs.YtdcoiccdbgcpaaaDoor
open Go.Eng
set_option linter.unusedVariables false
set_option linter.unusedSimpArgs false
noncomputable def cl (t:BA) (ins:Bool) (i:Nat) (o:List Int):Option (List Int):=zbm_p0 t ins (i:Int) o
section
variable {t:BA}
theorem qD3 {ins:Bool} {i:Nat} {o:List Int} (h:t.size≤i):cl t ins i o=some o:=by
 unfold cl zbm_p0;refine qAq ?_;unfold qB6;dsimp only;rw [deF (by omega),cnF]
theorem cl_p1 {i:Nat} (h:i≤3000000):zbm_p1 (i:Int)=some ((i+1:Nat):Int):=by
 unfold zbm_p1;rw [qAa (by unfold qAh; omega)];congr 1
variable (hs:t.size≤200000)
include hs
theorem cl_esc {i:Nat} {o:List Int} (hi:i<t.size) (h:bAt t (i:Int)=92):cl t true i o=cl t true (i+2) o:=by
 unfold cl zbm_p0;refine qAt (y:=(true,((i+2:Nat):Int),o)) ?_;unfold qB6;dsimp only;rw [deT (by omega),cnT,qAa (fun _=>by omega),deT h,Bool.and_self,cnT,qAa (by unfold qAh; omega),show (i:Int)+1=((i+1:Nat):Int) by omega,cl_p1 (by omega),obS]
theorem cl_quote {ins:Bool} {i:Nat} {o:List Int} (hi:i<t.size) (h:bAt t (i:Int)=34):cl t ins i o=cl t (!ins) (i+1) o:=by
 unfold cl zbm_p0;refine qAt (y:=(!ins,((i+1:Nat):Int),o)) ?_;unfold qB6;dsimp only;rw [deT (by omega),cnT,qAa (fun _=>by omega),h,deF (by decide),Bool.and_false,cnF,qAa (by omega),deT rfl,cnT,cl_p1 (by omega),obS]
theorem cl_in {i:Nat} {o:List Int} (hi:i<t.size) (h1:bAt t (i:Int)≠34) (h2:bAt t (i:Int)≠92):cl t true i o=cl t true (i+1) o:=by
 unfold cl zbm_p0;refine qAt (y:=(true,((i+1:Nat):Int),o)) ?_;unfold qB6;dsimp only;rw [deT (by omega),cnT,qAa (fun _=>by omega),deF h2,Bool.and_false,cnF,qAa (by omega),deF h1,cnF,cnT,cl_p1 (by omega),obS]
theorem cl_open {i:Nat} {o:List Int} (obj:Bool) (h:bAt t (i:Int)=(if obj=true then 123 else 91)) (ho:o.length≤1000):cl t false i o=cl t false (i+1) (o++[qDo obj]):=by
 have hi:i<t.size:=qAi (by rw [h]; cases obj <;> decide)
 unfold cl zbm_p0;refine qAt (y:=(false,((i+1:Nat):Int),o++[qDo obj])) ?_;unfold qB6;dsimp only;rw [deT (by omega),cnT,qAa (fun h=>by cases h),Bool.false_and,cnF,qAa (by omega),h];cases obj with
 | false =>
  rw [if_neg (by decide),deF (by decide),cnF,cnF,qAa (by omega),deT rfl,cnT,qAa (by simp only [List.length_singleton]; omega),cl_p1 (by omega),obS];rfl
 | true =>
  rw [if_pos rfl,deF (by decide),cnF,cnF,qAa (by omega),deF (by decide),cnF,qAa (by omega),deT rfl,cnT,qAa (by simp only [List.length_singleton]; omega),cl_p1 (by omega),obS];rfl
theorem cl_close {i:Nat} {o:List Int} {x:Int} (obj:Bool) (h:bAt t (i:Int)=qDo obj) (ho:o.length≤1000):cl t false i (o++[x])=cl t false (i+1) o:=by
 have hi:i<t.size:=qAi (by rw [h]; cases obj <;> decide)
 unfold cl zbm_p0;refine qAt (y:=(false,((i+1:Nat):Int),o)) ?_;unfold qB6;dsimp only;have hlen:(o++[x]).length=o.length+1:=by rw [List.length_append,List.length_singleton]
 have h93:bAt t (i:Int)=93∨bAt t (i:Int)=125:=by rw [h]; cases obj <;> simp [qDo]
 have e:(decide (bAt t (i:Int)=(93:Int)) || decide (bAt t (i:Int)=(125:Int)))=true:=by simpa using h93
 have htk:(o++[x]).take (Int.toNat (((o++[x]).length:Int) - 1))=o:=by
  rw [hlen,show Int.toNat (((o.length+1:Nat):Int) - 1)=o.length by omega];simp
 rw [deT (by omega),cnT,qAa (fun h=>by cases h),Bool.false_and,cnF,qAa (by omega),deF (by omega),cnF,cnF,qAa (by omega),deF (by omega),cnF,qAa (by omega),deF (by omega),cnF,qAa (by omega),qAa (fun _=>by omega),e,cnT,deT (by rw [hlen]; omega),cnT,qAa (by rw [hlen]; unfold qAh; omega),qAa (by rw [hlen]; omega),htk,cl_p1 (by omega),obS]
def qEl (c:Int):Prop:=c≠34∧c≠91∧c≠123∧c≠93∧c≠125
theorem qB8 {i:Nat} {o:List Int} (hi:i<t.size) (h:qEl (bAt t (i:Int))):cl t false i o=cl t false (i+1) o:=by
 unfold cl zbm_p0;refine qAt (y:=(false,((i+1:Nat):Int),o)) ?_;unfold qB6;dsimp only;have e:(decide (bAt t (i:Int)=(93:Int)) || decide (bAt t (i:Int)=(125:Int)))=false:=by
  rw [Bool.or_eq_false_iff,decide_eq_false_iff_not,decide_eq_false_iff_not]; exact h.2.2.2
 rw [deT (by omega),cnT,qAa (fun h=>by cases h),Bool.false_and,cnF,qAa (by omega),deF h.1,cnF,cnF,qAa (by omega),deF h.2.1,cnF,qAa (by omega),deF h.2.2.1,cnF,qAa (by omega),qAa (fun _=>by omega),e,cnF,cl_p1 (by omega),obS]
theorem cl_plains {o:List Int} {b:Nat} (hb:b≤t.size):∀(n a:Nat),b - a≤n→a≤b→(∀j:Nat,a≤j→j<b→qEl (bAt t (j:Int)))→cl t false a o=cl t false b o
 | 0,a,h1,h2,h=>by rw [show a=b by omega]
 | n+1,a,h1,h2,h=>by
  rcases Nat.lt_or_ge a b with hab | hab
  ·rw [qB8 hs (by omega) (h a (Nat.le_refl _) hab)];exact cl_plains hb n (a+1) (by omega) hab fun j h3 h4=>h j (by omega) h4
  ·rw [show a=b by omega]
theorem cl_ins {o:List Int} {b:Nat} (hb:b≤t.size):∀(n a:Nat),b - a≤n→a≤b→(∀j:Nat,a≤j→j<b→128≤by8 t j)→cl t true a o=cl t true b o
 | 0,a,h1,h2,h=>by rw [show a=b by omega]
 | n+1,a,h1,h2,h=>by
  rcases Nat.lt_or_ge a b with hab | hab
  ·have h8:=h a (Nat.le_refl _) hab;have:=qCu (t:=t) (i:=a) (by omega);rw [cl_in hs (by omega) (by omega) (by omega)];exact cl_ins hb n (a+1) (by omega) hab fun j h3 h4=>h j (by omega) h4
  ·rw [show a=b by omega]
theorem qC0 {o:List Int}:∀(n a:Nat),t.size - a≤n→cl t false a o=cl t false (qAm t a) o
 | 0,a,h=>by
  have:=qAy t a;rw [qD3 (by omega),qD3 (by omega)]
 | n+1,a,h=>by
  by_cases hb:qBf (bAt t a)=true
  ·have hlt:=qDf hb;rw [qEz hb,←qC0 n (a+1) (by omega),qB8 hs hlt];unfold qBf at hb;simp only [Bool.or_eq_true,decide_eq_true_eq] at hb;unfold qEl;omega
  ·rw [qDc (by simpa using hb)]
theorem cl_fourOk {half:Bool} {f:Nat} {o:List Int}:∀ {m i a b:Nat} {v x:Int},qBt t half f m i a v=.ok b x→cl t true a o=cl t true b o
 | 0,i,a,b,v,x,h=>by cases h; rfl
 | m+1,i,a,b,v,x,h=>by
  unfold qBt at h;split at h
  ·cases h
  ·split at h
   ·cases h
   ·rename_i h1 h2;have hal:=qAi (t:=t) (a:=a) (by omega);have hx:¬hexS (bAt t (a:Int))<0:=fun hx=>h2 (.inl hx)
    rw [←cl_fourOk h,cl_in hs hal (fun he=>hx (by rw [he]; decide)) (fun he=>hx (by rw [he]; decide))]
theorem cl_fourBad {half:Bool} {f:Nat} {o:List Int}:∀ {m i a:Nat} {v:Int},qBt t half f m i a v=.bad 31 t.size→cl t true a o=some o
 | 0,i,a,v,h=>by cases h
 | m+1,i,a,v,h=>by
  unfold qBt at h;split at h
  ·rename_i h1;refine qD3 (Nat.le_of_not_lt fun hlt=>?_);have:=qF0 t a;have:=qCu hlt;omega
  ·split at h
   ·cases h
   ·rename_i h1 h2;have hal:=qAi (t:=t) (a:=a) (by omega);have hx:¬hexS (bAt t (a:Int))<0:=fun hx=>h2 (.inl hx)
    rw [cl_in hs hal (fun he=>hx (by rw [he]; decide)) (fun he=>hx (by rw [he]; decide)),cl_fourBad h]
omit hs in
theorem neg_out {a:Nat} (h:bAt t (a:Int)<0):t.size≤a:=Nat.le_of_not_lt fun hlt=>by
 have:=qCu hlt;omega
theorem cl_escOk {a b:Nat} {v:Int} {o:List Int} (h92:bAt t (a:Int)=92) (h:escR t a=.ok b v):cl t true a o=cl t true b o:=by
 have hal:=qAi (t:=t) (a:=a) (by omega);rw [cl_esc hs hal h92];unfold escR at h;split at h
 ·cases h
 ·split at h
  ·split at h
   ·cases h
   ·rename_i b1 v1 h3;rw [cl_fourOk hs h3];split at h
    ·cases h; rfl
    ·unfold qG1 at h;split at h
     ·cases h
     ·split at h
      ·cases h
      ·rename_i h4 h5;have h5:bAt t (b1:Int)=92:=Decidable.not_not.1 h5;split at h
       ·cases h
       ·split at h
        ·cases h
        ·split at h
         ·cases h
         ·rename_i h6;cases h;rw [cl_esc hs (qAi (by omega)) h5,cl_fourOk hs h6]
  ·split at h
   ·cases h
   ·cases h; rfl
theorem cl_escBad {a:Nat} {o:List Int} (h92:bAt t (a:Int)=92) (h:escR t a=.bad 31 t.size):cl t true a o=some o:=by
 have hal:=qAi (t:=t) (a:=a) (by omega);rw [cl_esc hs hal h92];unfold escR at h;split at h
 ·rename_i h1;have:=neg_out h1;exact qD3 (by omega)
 ·split at h
  ·split at h
   ·rename_i h3;cases h;exact cl_fourBad hs h3
   ·rename_i b1 v1 h3;rw [cl_fourOk hs h3];split at h
    ·cases h
    ·unfold qG1 at h;split at h
     ·rename_i h4;exact qD3 (neg_out h4)
     ·split at h
      ·cases h
      ·rename_i h4 h5;have h5:bAt t (b1:Int)=92:=Decidable.not_not.1 h5;rw [cl_esc hs (qAi (by omega)) h5];split at h
       ·rename_i h6;have:=neg_out h6;exact qD3 (by omega)
       ·split at h
        ·cases h
        ·split at h
         ·rename_i h6;cases h;exact cl_fourBad hs h6
         ·cases h
  ·split at h
   ·cases h
   ·cases h
theorem cl_quoOk {o:List Int}:∀ {n a b:Nat} {acc l:List Int},quoR t n a acc=.ok b l→cl t true a o=cl t false b o
 | 0,a,b,acc,l,h=>by cases h
 | n+1,a,b,acc,l,h=>by
  unfold quoR at h;split at h
  ·cases h
  ·rename_i h0;have hal:=qAi (t:=t) (a:=a) (by omega);split at h
   ·rename_i h34;cases h;exact cl_quote hs hal h34
   ·split at h
    ·rename_i h92;split at h
     ·cases h
     ·rename_i h4;rw [cl_escOk hs h92 h4];exact cl_quoOk h
    ·split at h
     ·rw [cl_in hs hal (by omega) (by omega)];exact cl_quoOk h
     ·split at h
      ·rename_i hk;have h8:128≤by8 t a:=by have:=qCu hal; omega
       have hw:=qC1 hal h8 hk;rw [cl_ins hs hw.1 (seqW t a) a (by omega) (by omega) fun j h1 h2=>by
        have:=seq_high hal h8 hk (j - a) (by omega);rwa [show a+(j - a)=j by omega] at this]
       exact cl_quoOk h
      ·cases h
theorem cl_quoBad {o:List Int}:∀ {n a:Nat} {acc:List Int},t.size - a<n→quoR t n a acc=.bad 31 t.size→cl t true a o=some o
 | 0,a,acc,hn,h=>by omega
 | n+1,a,acc,hn,h=>by
  unfold quoR at h;split at h
  ·cases h;exact qD3 (Nat.le_refl _)
  ·rename_i h0;have hal:=qAi (t:=t) (a:=a) (by omega);split at h
   ·cases h
   ·split at h
    ·rename_i h92;split at h
     ·rename_i h4;cases h;exact cl_escBad hs h92 h4
     ·rename_i h4;have:=qDx h4;rw [cl_escOk hs h92 h4];exact cl_quoBad (by omega) h
    ·split at h
     ·rw [cl_in hs hal (by omega) (by omega)];exact cl_quoBad (by omega) h
     ·have h8:128≤by8 t a:=by have:=qCu hal; omega
      split at h
      ·rename_i hk;have hw:=qC1 hal h8 hk;rw [cl_ins hs hw.1 (seqW t a) a (by omega) (by omega) fun j h1 h2=>by
        have:=seq_high hal h8 hk (j - a) (by omega);rwa [show a+(j - a)=j by omega] at this]
       exact cl_quoBad (by omega) h
      ·rename_i hk;have hk31:seqK t a=31:=by simp only [Rd.bad.injEq] at h; exact h.1
       rw [cl_ins hs (Nat.le_refl _) (t.size - a) a (by omega) (by omega) fun j h1 h2=>seq_tail hal h8 hk31 j h1 h2];exact qD3 (Nat.le_refl _)
where
 seq_tail {t:BA} {a:Nat} (ha:a<t.size) (h8:128≤by8 t a) (hk:seqK t a=31) (j:Nat) (h1:a≤j) (h2:j<t.size):128≤by8 t j:=by
  have key:∀ {n:Nat} {b:Nat→Nat} {m i lo hi:Nat},128≤lo→qEk n b m i lo hi=31→∀k,i≤k→k<n→128≤b k:=by
   intro n b m;induction m with
   | zero=>intro i lo hi _ h; cases h
   | succ m ih =>
    intro i lo hi hlo h k hk1 hk2;unfold qEk at h;split at h
    ·omega
    ·split at h
     ·cases h
     ·by_cases hki:k=i
      ·subst hki; omega
      ·exact ih (by decide) h k (by omega) hk2
  by_cases hj:j=a
  ·subst hj; exact h8
  ·unfold seqK at hk;split at hk
   ·cases hk
   ·rename_i hne;have hf:=qG2 ⟨by8 t a,by8_lt t a⟩ h8;simp only at hf;have:=key (k:=j - a) (accLo_ge (by rcases Lib.firstT_cases (by8 t a) with g | g | g | g | g | g | g | g | g <;> rw [g] at hne hf ⊢ <;> first | omega | (exact (hne rfl).elim) | (exact (hf rfl).elim))) hk (by omega) (by omega)
    rwa [show a+(j - a)=j by omega] at this
omit hs in
theorem dig_plain {i:Nat} (h:digS t (i:Int)=true):qEl (bAt t (i:Int)):=by
 unfold digS at h;simp only [Bool.and_eq_true,decide_eq_true_eq] at h;unfold qEl;omega
theorem cl_many {a:Nat} {o:List Int} (ha:a≤t.size):cl t false a o=cl t false (qDn t a) o :=
 cl_plains hs (manyS_le t a ha) (t.size - a) a (by have:=manyS_le t a ha; omega) (qDd t a) fun j h1 h2=>dig_plain (manyS_digS t a j h1 h2)
theorem cl_digOk {a b:Nat} {x:Unit} {o:List Int} (ha:a≤t.size) (h:digR t a=.ok b x):cl t false a o=cl t false b o:=by
 rw [cl_many hs ha];unfold digR at h;split at h
 ·cases h
 ·cases h; rfl
omit hs in
theorem digR_end {a:Nat} (h:digR t a=.bad 31 t.size):a=t.size:=by
 unfold digR at h;split at h
 ·cases h; rfl
 ·cases h
theorem cl_sign {a:Nat} {o:List Int} (ha:a<t.size):cl t false a o=cl t false (qDq t a) o:=by
 unfold qDq;split
 ·rename_i h;exact qB8 hs ha (by rw [h]; unfold qEl; decide)
 ·rfl
theorem cl_zeroOk {a b:Nat} {x:Unit} {o:List Int} (ha:a≤t.size) (h:qGj t a=.ok b x):cl t false a o=cl t false b o:=by
 unfold qGj at h;split at h
 ·rename_i h1;cases h;exact qB8 hs (qAi (by omega)) (by rw [h1]; unfold qEl; decide)
 ·exact cl_digOk hs ha h
theorem cl_dotOk {a b:Nat} {x:Unit} {o:List Int} (ha:a≤t.size) (h:dotR t a=.ok b x):cl t false a o=cl t false b o:=by
 unfold dotR at h;split at h
 ·rename_i h1;have hal:=qAi (t:=t) (a:=a) (by omega);rw [qB8 hs hal (by rw [h1]; unfold qEl; decide)];exact cl_digOk hs (by omega) h
 ·cases h; rfl
theorem cl_powOk {a b:Nat} {x:Unit} {o:List Int} (ha:a≤t.size) (h:powR t a=.ok b x):cl t false a o=cl t false b o:=by
 unfold powR at h;split at h
 ·rename_i h1;have hal:=qAi (t:=t) (a:=a) (by omega);rw [qB8 hs hal (by unfold qEl; omega)];split at h
  ·rename_i h2;have hal2:=qAi (t:=t) (a:=a+1) (by omega);rw [qB8 hs hal2 (by unfold qEl; omega)];exact cl_digOk hs (by omega) h
  ·exact cl_digOk hs (by omega) h
 ·cases h; rfl
theorem cl_numOk {a b:Nat} {x:Unit} {o:List Int} (ha:a<t.size) (h:numR t a=.ok b x):cl t false a o=cl t false b o:=by
 have hsg:qDq t a≤t.size:=by unfold qDq; split <;> omega
 rw [cl_sign hs ha];unfold numR at h;split at h
 ·cases h
 ·rename_i h1;have z1:=qFp hsg h1;split at h
  ·cases h
  ·rename_i h2;have z2:=dotR_adv z1.2 h2;rw [cl_zeroOk hs hsg h1,cl_dotOk hs z1.2 h2,cl_powOk hs z2.2 h]
theorem cl_numBad {a:Nat} {o:List Int} (ha:a<t.size) (h:numR t a=.bad 31 t.size):cl t false a o=some o:=by
 have hsg:qDq t a≤t.size:=by unfold qDq; split <;> omega
 rw [cl_sign hs ha];unfold numR at h;split at h
 ·rename_i h1;cases h;unfold qGj at h1;split at h1
  ·cases h1
  ·exact qD3 (by have:=digR_end h1; omega)
 ·rename_i b1 x1 h1;have z1:=qFp hsg h1;rw [cl_zeroOk hs hsg h1];split at h
  ·rename_i h2;cases h;unfold dotR at h2;split at h2
   ·rename_i h3;have hal:=qAi (t:=t) (a:=b1) (by omega);rw [qB8 hs hal (by rw [h3]; unfold qEl; decide)];exact qD3 (by have:=digR_end h2; omega)
   ·cases h2
  ·rename_i b2 x2 h2;have z2:=dotR_adv z1.2 h2;rw [cl_dotOk hs z1.2 h2];unfold powR at h;split at h
   ·rename_i h3;have hal:=qAi (t:=t) (a:=b2) (by omega);rw [qB8 hs hal (by unfold qEl; omega)];split at h
    ·rename_i h4;have hal2:=qAi (t:=t) (a:=b2+1) (by omega);rw [qB8 hs hal2 (by unfold qEl; omega)];exact qD3 (by have:=digR_end h; omega)
    ·exact qD3 (by have:=digR_end h; omega)
   ·cases h
theorem cl_litOk {o:List Int}:∀ {w:List Int} {a b:Nat} {x:Unit},(∀c∈w,0≤c∧qEl c)→litR t w a=.ok b x→cl t false a o=cl t false b o
 | [],a,b,x,hw,h=>by cases h; rfl
 | c::w,a,b,x,hw,h=>by
  unfold litR at h;split at h
  ·rename_i h1;have hc:=hw c List.mem_cons_self;rw [qB8 hs (qAi (by omega)) (by rw [h1]; exact hc.2)];exact cl_litOk (fun c hc=>hw c (List.mem_cons_of_mem _ hc)) h
  ·cases h
theorem cl_litBad {o:List Int}:∀ {w:List Int} {a:Nat},(∀c∈w,0≤c∧qEl c)→litR t w a=.bad 31 t.size→cl t false a o=some o
 | [],a,hw,h=>by cases h
 | c::w,a,hw,h=>by
  unfold litR at h;split at h
  ·rename_i h1;have hc:=hw c List.mem_cons_self;rw [qB8 hs (qAi (by omega)) (by rw [h1]; exact hc.2)];exact cl_litBad (fun c hc=>hw c (List.mem_cons_of_mem _ hc)) h
  ·cases h;exact qD3 (Nat.le_refl _)
theorem cl_scalOk {a b:Nat} {l:List Eng.Node} {o:List Int} (h:qCa t a=.ok b l):cl t false a o=cl t false b o:=by
 have lit:∀ {w:List Int} {n:Eng.Node},(∀c∈w,0≤c∧qEl c)→(match litR t w a with | .bad c b=>Rd.bad c b | .ok b _=>Rd.ok b [n])=.ok b l→cl t false a o=cl t false b o:=fun hw h=>by
  split at h
  ·cases h
  ·rename_i h1;cases h;exact cl_litOk hs hw h1
 unfold qCa at h;split at h
 ·rename_i h1;split at h
  ·cases h
  ·rename_i h2;cases h;rw [cl_quote hs (qAi (by omega)) h1];exact cl_quoOk hs h2
 ·split at h
  ·have hal:=qAi (t:=t) (a:=a) (by omega);split at h
   ·cases h
   ·rename_i h2;cases h;exact cl_numOk hs hal h2
  ·split at h
   ·exact lit (by unfold qEl; decide) h
   ·split at h
    ·exact lit (by unfold qEl; decide) h
    ·split at h
     ·exact lit (by unfold qEl; decide) h
     ·cases h
theorem cl_scalBad {a:Nat} {o:List Int} (h:qCa t a=.bad 31 t.size):cl t false a o=some o:=by
 have lit:∀ {w:List Int} {n:Eng.Node},(∀c∈w,0≤c∧qEl c)→(match litR t w a with | .bad c b=>Rd.bad c b | .ok b _=>Rd.ok b [n])=.bad 31 t.size→cl t false a o=some o:=fun hw h=>by
  split at h
  ·rename_i h1;cases h;exact cl_litBad hs hw h1
  ·cases h
 unfold qCa at h;split at h
 ·rename_i h1;have hal:=qAi (t:=t) (a:=a) (by omega);split at h
  ·rename_i h2;cases h;rw [cl_quote hs hal h1];exact cl_quoBad hs (by omega) h2
  ·cases h
 ·split at h
  ·have hal:=qAi (t:=t) (a:=a) (by omega);split at h
   ·rename_i h2;cases h;exact cl_numBad hs hal h2
   ·cases h
  ·split at h
   ·exact lit (by unfold qEl; decide) h
   ·split at h
    ·exact lit (by unfold qEl; decide) h
    ·split at h
     ·exact lit (by unfold qEl; decide) h
     ·cases h;exact qD3 (Nat.le_refl _)
def ClAt (t:BA) (d:Nat):Prop:=∀(a b:Nat) (l:List Eng.Node) (o:List Int),a≤t.size→o.length+d≤100→valR t d a=.ok b l→cl t false a o=cl t false b o
theorem cl_item {d:Nat} (hd:ClAt t d) {obj:Bool} {names:List BA} {a b:Nat} {x:BA × List Eng.Node} {o:List Int} (ha:a≤t.size) (ho:o.length+d≤100) (h:qCb t (valR t d) obj names a=.ok b x):cl t false a o=cl t false b o:=by
 unfold qCb at h;cases obj with
 | false =>
  rw [if_neg (by decide)] at h;split at h
  ·cases h
  ·rename_i h1;cases h;exact hd _ _ _ _ ha ho h1
 | true =>
  rw [if_pos rfl] at h;split at h
  ·rename_i h1;have hal:=qAi (t:=t) (a:=a) (by omega);split at h
   ·cases h
   ·rename_i b1 l1 h2;have h3:=qDu h2 (by simp);have k2:=qAo t b1 h3.2.1;split at h
    ·cases h
    ·split at h
     ·rename_i h4;have hsl:=qAi (t:=t) (a:=qAm t b1) (by omega);have k4:=qAo t (qAm t b1+1) (by omega);split at h
      ·cases h
      ·rename_i h5;cases h;rw [cl_quote hs hal h1,Bool.not_false,cl_quoOk hs h2,qC0 hs _ b1 (Nat.le_refl _),qB8 hs hsl (by rw [h4]; unfold qEl; decide),qC0 hs _ (qAm t b1+1) (Nat.le_refl _)];exact hd _ _ _ _ k4 ho h5
     ·cases h
  ·cases h
theorem cl_row {d:Nat} (hd:ClAt t d) {obj:Bool} {o:List Int} (ho:o.length+(d+1)≤100):∀ {m a k:Nat} {acc:List Eng.Node} {names:List BA} {b:Nat} {x:Nat × List Eng.Node},a≤t.size→rowR t (valR t d) obj m a k acc names=.ok b x→cl t false a (o++[qDo obj])=cl t false b o
 | 0,a,k,acc,names,b,x,ha,h=>by cases h
 | m+1,a,k,acc,names,b,x,ha,h=>by
  have ho2:(o++[qDo obj]).length+d≤100:=by rw [List.length_append,List.length_singleton]; omega
  unfold rowR at h;split at h
  ·cases h
  ·rename_i b1 y h1;have h2:=qEv (qBx t d) ha h1;have k2:=qAo t b1 h2.2.1;rw [cl_item hs hd ha ho2 h1,qC0 hs _ b1 (Nat.le_refl _)];split at h
   ·rename_i h3;cases h;exact cl_close hs obj h3 (by omega)
   ·split at h
    ·rename_i h4;have hsl:=qAi (t:=t) (a:=qAm t b1) (by omega);have k4:=qAo t (qAm t b1+1) (by omega);rw [qB8 hs hsl (by rw [h4]; unfold qEl; decide),qC0 hs _ (qAm t b1+1) (Nat.le_refl _)];exact cl_row hd ho k4 h
    ·cases h
theorem cl_val:∀d,ClAt t d
 | 0=>fun a b l o ha ho h=>by
  unfold valR at h;split at h
  ·cases h
  ·exact cl_scalOk hs h
 | d+1=>fun a b l o ha ho h=>by
  unfold valR at h;split at h
  ·rename_i h1;have hal:=qAi (t:=t) (a:=a) (by omega);have hop:bAt t (a:Int)=(if decide (bAt t (a:Int)=123)=true then 123 else 91):=by
    rcases h1 with h1 | h1 <;> rw [h1] <;> rfl
   have k2:=qAo t (a+1) (by omega);rw [cl_open hs _ hop (by omega),qC0 hs _ (a+1) (Nat.le_refl _)];unfold boxR at h;split at h
   ·rename_i h2;cases h;exact cl_close hs _ h2 (by omega)
   ·split at h
    ·cases h
    ·rename_i h3;cases h;exact cl_row hs (cl_val d) (by omega) k2 h3
  ·exact cl_scalOk hs h
end
end Go.Proofs.YtdcoiccdbgcpaaaDoor
namespace Go.Proofs.YtdcoiccdbgcpaaaDoor
open Go.Eng
set_option linter.unusedVariables false
set_option linter.unusedSimpArgs false
def qFo:List (List Int):=[[],[48],[110],[117,48,48,48,48],[48,48,48,48],[48,48,48],[48,48],[48],[48,48,92,117,100,99,48,48],[48,92,117,100,99,48,48],[92,117,100,99,48,48],[117,100,99,48,48],[100,99,48,48],[99,48,48],[128],[128,128],[128,128,128],[160,128],[144,128,128],[117,108,108],[108,108],[108],[114,117,101],[117,101],[101],[97,108,115,101],[108,115,101],[115,101]]
section
variable {t:BA}
theorem four_cut {half:Bool} {f p:Nat} (hp:p≤t.size) (h:qBt t half f 4 0 p 0=.bad 31 t.size):∃k,k<4∧p+k=t.size∧(∀j,j<k→0≤hexS (bAt t ((p+j:Nat):Int))) ∧
  (half=true→(1≤k→hexS (bAt t (p:Int))=13)∧(2≤k→12≤hexS (bAt t ((p+1:Nat):Int))))∧(half=false→2≤k→¬(hexS (bAt t (p:Int))=13∧12≤hexS (bAt t ((p+1:Nat):Int)))):=by
 have out:∀ {a:Nat},bAt t (a:Int)<0→t.size≤a:=fun {a} h=>Nat.le_of_not_lt fun hlt=>by
  have:=qCu hlt;omega
 simp only [qBt] at h;split at h
 ·rename_i n0;have:=out n0;exact ⟨0,by omega,by omega,fun j hj=>by omega,fun _=>⟨fun h=>by omega,fun h=>by omega⟩,fun _ h=>by omega⟩
 split at h
 ·cases h
 rename_i n0 b0;have l0:=qAi (t:=t) (a:=p) (by omega);split at h
 ·rename_i n1;have:=out n1;unfold qEs at b0;simp only [not_or] at b0;refine ⟨1,by omega,by omega,fun j hj=>?_,fun hh=>⟨fun _=>?_,fun h=>by omega⟩,fun _ h=>by omega⟩
  ·obtain rfl:j=0:=by omega
   rw [Nat.add_zero];omega
  ·subst hh;simp only [true_and] at b0;omega
 split at h
 ·cases h
 rename_i n1 b1;have l1:=qAi (t:=t) (a:=p+1) (by omega);split at h
 ·rename_i n2;have:=out n2;unfold qEs at b0 b1;simp only [not_or] at b0 b1;refine ⟨2,by omega,by omega,fun j hj=>?_,fun hh=>⟨fun _=>?_,fun _=>?_⟩,fun hh _=>?_⟩
  ·rcases (by omega:j=0∨j=1) with rfl | rfl
   ·rw [Nat.add_zero]; omega
   ·omega
  ·subst hh;simp only [true_and] at b0;omega
  ·subst hh;simp only [true_and,Nat.zero_add] at b1;omega
  ·subst hh;simp only [true_and,Nat.zero_add] at b1;omega
 split at h
 ·cases h
 rename_i n2 b2;have l2:=qAi (t:=t) (a:=p+1+1) (by omega);split at h
 ·rename_i n3;have:=out n3;unfold qEs at b0 b1 b2;simp only [not_or] at b0 b1 b2;refine ⟨3,by omega,by omega,fun j hj=>?_,fun hh=>⟨fun _=>?_,fun _=>?_⟩,fun hh _=>?_⟩
  ·rcases (by omega:j=0∨j=1∨j=2) with rfl | rfl | rfl
   ·rw [Nat.add_zero]; omega
   ·omega
   ·rw [show p+2=p+1+1 by omega]; omega
  ·subst hh;simp only [true_and] at b0;omega
  ·subst hh;simp only [true_and,Nat.zero_add] at b1;omega
  ·subst hh;simp only [true_and,Nat.zero_add] at b1;omega
 split at h
 ·cases h
 ·cases h
end
section
variable {t u:BA} (ag:Agree t u t.size)
theorem has_get {u:BA}:∀ {L:List Int} {a:Nat},Has u a L→∀i,i<L.length→bAt u ((a+i:Nat):Int)=L.getD i 0
 | [],a,_,i,hi=>by simp at hi
 | c::L,a,h,0,hi=>h.1
 | c::L,a,h,i+1,hi=>by
  have:=has_get h.2 i (by simpa using hi);rw [show a+(i+1)=a+1+i by omega,this];rfl
theorem four_of {u:BA} {p f:Nat} {D:Nat→Int} (half:Bool) (hD:∀j,j<4→hexS (bAt u ((p+j:Nat):Int))=D j∧0≤D j) (hh:half=true→D 0=13∧12≤D 1) (hn:half=false→¬(D 0=13∧12≤D 1)) :
  qBt u half f 4 0 p 0=.ok (p+4) (4096*D 0+256*D 1+16*D 2+D 3):=by
 have h0:=hD 0 (by omega);have h1:=hD 1 (by omega);have h2:=hD 2 (by omega);have h3:=hD 3 (by omega);exact fourR_says (by rw [Nat.add_zero] at h0; exact h0.1) h1.1 (by rw [show p+1+1=p+2 by omega]; exact h2.1) (by rw [show p+1+1+1=p+3 by omega]; exact h3.1) h0.2 h1.2 h2.2 h3.2 half hh hn
theorem hexS_le (c:Int):hexS c≤15:=(qFg c).2
theorem pair_of {u:BA} {f b:Nat} {v:Int} (h1:bAt u (b:Int)=92) (h2:bAt u ((b+1:Nat):Int)=117) {x:Int} (h3:qBt u true f 4 0 (b+2) 0=.ok (b+6) x):qG1 u f b v=.ok (b+6) (65536+1024*(v - 55296)+x - 56320):=by
 unfold qG1;rw [h1,h2,if_neg (by decide),if_neg (by decide),if_neg (by decide),if_neg (by decide),h3]
theorem esc_one {u:BA} {a:Nat} {v:Int} (h1:bAt u ((a+1:Nat):Int)=117) (h2:qBt u false a 4 0 (a+2) 0=.ok (a+6) v) (h3:v<55296∨57343<v):escR u a=.ok (a+6) v:=escR_unit h1 h2 h3
theorem esc_two {u:BA} {a:Nat} {v x:Int} (h1:bAt u ((a+1:Nat):Int)=117) (h2:qBt u false a 4 0 (a+2) 0=.ok (a+6) v) (h3:¬(v<55296∨57343<v)) (h4:qG1 u a (a+6) v=.ok (a+12) x):escR u a=.ok (a+12) x:=by
 unfold escR;rw [h1,if_neg (by decide),if_pos rfl,h2];dsimp only;rw [if_neg h3,h4]
include ag
theorem four_grow {p k f:Nat} {L:List Int} (hk:p+k=t.size) (hL:Has u t.size L) (half:Bool) {D:Nat→Int} (h1:∀j,j<k→j<4→hexS (bAt t ((p+j:Nat):Int))=D j∧0≤D j) (h2:∀j,k≤j→j<4→j - k<L.length∧hexS (L.getD (j - k) 0)=D j∧0≤D j)
  (hh:half=true→D 0=13∧12≤D 1) (hn:half=false→¬(D 0=13∧12≤D 1)):qBt u half f 4 0 p 0=.ok (p+4) (4096*D 0+256*D 1+16*D 2+D 3):=by
 refine four_of half (fun j hj=>?_) hh hn;rcases Nat.lt_or_ge j k with hjk | hjk
 ·rw [←ag.same (p+j) (by omega)];exact h1 j hjk hj
 ·have h3:=h2 j hjk hj;have:=has_get hL (j - k) h3.1;rw [show t.size+(j - k)=p+j by omega] at this;rw [this];exact h3.2
omit ag in
theorem dc00 {b f:Nat} (h:Has u b [100,99,48,48]):qBt u true f 4 0 b 0=.ok (b+4) 56320:=by
 obtain ⟨k1,k2,k3,k4,_⟩:=h;have:=fourR_says (t:=u) (f:=f) (a:=b) (d0:=13) (d1:=12) (d2:=0) (d3:=0) (by rw [k1]; decide) (by rw [k2]; decide) (by rw [k3]; decide) (by rw [k4]; decide) (by decide) (by decide) (by decide) (by decide) true (fun _=>by decide) (fun h=>by cases h);exact this
omit ag in
theorem esc_grow {a:Nat} (h92:bAt t (a:Int)=92) (h:escR t a=.bad 31 t.size):∃w,w∈qFo∧∀u,Agree t u t.size→Has u t.size w→∃v,escR u a=.ok (t.size+w.length) v:=by
 have hal:=qAi (t:=t) (a:=a) (by omega);have out:∀ {a:Nat},bAt t (a:Int)<0→t.size≤a:=fun {a} h=>Nat.le_of_not_lt fun hlt=>by
  have:=qCu hlt;omega
 unfold escR at h;split at h
 ·rename_i h1;have:=out h1;refine ⟨[110],by decide,fun u ag hw=>⟨10,?_⟩⟩;have:=escR_two (t:=u) (a:=a) (c:=110) (by rw [show a+1=t.size by omega]; exact hw.1) (by decide) (by decide) (by decide);rw [this,show t.size+([110]:List Int).length=a+2 by simp only [List.length_singleton]; omega];rfl
 ·split at h
  ·rename_i h0 h117;have hl1:=qAi (t:=t) (a:=a+1) (by omega);have h117u:∀u,Agree t u t.size→bAt u ((a+1:Nat):Int)=117:=fun u ag=>by rw [←ag.same _ hl1]; exact h117
   split at h
   ·rename_i h3;cases h;obtain ⟨k,k1,k2,k3,_,k5⟩:=four_cut (by omega) h3;have k5:=k5 rfl;have r0:=hexS_le (bAt t ((a+2:Nat):Int));have r1:=hexS_le (bAt t ((a+2+1:Nat):Int));have r2:=hexS_le (bAt t ((a+2+2:Nat):Int));have d0:1≤k→0≤hexS (bAt t ((a+2:Nat):Int)):=fun h=>by have:=k3 0 (by omega); rwa [Nat.add_zero] at this
    have d1:2≤k→0≤hexS (bAt t ((a+2+1:Nat):Int)):=fun h=>k3 1 (by omega)
    have d2:3≤k→0≤hexS (bAt t ((a+2+2:Nat):Int)):=fun h=>k3 2 (by omega)
    have z48:hexS 48=0:=by decide
    have dig:∀u,Agree t u t.size→∀(n:Nat) (L R:List Int),L=List.replicate n 48++R→n=4 - k→Has u t.size L→qBt u false a 4 0 (a+2) 0=.ok (a+6) (4096*(if 1≤k then hexS (bAt t ((a+2:Nat):Int)) else 0)+256*(if 2≤k then hexS (bAt t ((a+2+1:Nat):Int)) else 0)+16*(if 3≤k then hexS (bAt t ((a+2+2:Nat):Int)) else 0)+0):=by
     intro u ag n L R hL hn hw;have:=four_grow ag (p:=a+2) (k:=k) (f:=a) (L:=L) k2 hw false (D:=fun j=>if j<k then hexS (bAt t ((a+2+j:Nat):Int)) else 0)
      (fun j hj _=>⟨by rw [if_pos hj],by rw [if_pos hj]; exact k3 j hj⟩)
      (fun j hj hj4=>by
       have hlt:j - k<n:=by omega
       refine ⟨by rw [hL,List.length_append,List.length_replicate]; omega,?_,by rw [if_neg (by omega)]; exact Int.le_refl _⟩;rw [if_neg (by omega),hL,List.getD_eq_getElem?_getD,List.getElem?_append_left (by rw [List.length_replicate]; exact hlt),List.getElem?_replicate,if_pos hlt];exact z48)
      (fun h=>by cases h) (fun _ hc=>by
       by_cases h2:2≤k
       ·rw [if_pos (by omega),if_pos (by omega),Nat.add_zero] at hc;exact k5 h2 hc
       ·rw [if_neg (show ¬1<k by omega)] at hc;omega)
     rw [this];congr 1
     rw [if_neg (show ¬3<k by omega)];rfl
    by_cases hk0:k=0
    ·refine ⟨[48,48,48,48],by decide,fun u ag hw=>⟨0,?_⟩⟩;have:=dig u ag 4 _ [] rfl (by omega) hw;rw [if_neg (by omega),if_neg (by omega),if_neg (by omega)] at this;rw [esc_one (h117u u ag) this (by decide),show t.size+([48,48,48,48]:List Int).length=a+6 by simp only [List.length_cons,List.length_nil]; omega];rfl
    ·by_cases hk1:k=1
     ·refine ⟨[48,48,48],by decide,fun u ag hw=>⟨4096*hexS (bAt t ((a+2:Nat):Int)),?_⟩⟩;have:=dig u ag 3 _ [] rfl (by omega) hw;rw [if_pos (by omega),if_neg (by omega),if_neg (by omega)] at this;have d0:=d0 (by omega);rw [show 4096*hexS (bAt t ((a+2:Nat):Int))+256*0+16*0+0=4096*hexS (bAt t ((a+2:Nat):Int)) by omega] at this;rw [esc_one (h117u u ag) this (by omega),show t.size+([48,48,48]:List Int).length=a+6 by simp only [List.length_cons,List.length_nil]; omega]
     ·have d0:=d0 (by omega);have d1:=d1 (by omega);have k5:=k5 (by omega);have pr:∀u,Agree t u t.size→∀(n:Nat),Has u (a+6) [92,117,100,99,48,48]→∀v,qG1 u a (a+6) v=.ok (a+12) (65536+1024*(v - 55296)+56320 - 56320):=fun u ag n hw v=>by
       exact pair_of hw.1 hw.2.1 (dc00 (b:=a+6+2) hw.2.2)
      by_cases hk2:k=2
      ·by_cases hsur:hexS (bAt t ((a+2:Nat):Int))=13∧8≤hexS (bAt t ((a+2+1:Nat):Int))
       ·refine ⟨[48,48,92,117,100,99,48,48],by decide,fun u ag hw=>?_⟩;have:=dig u ag 2 _ [92,117,100,99,48,48] rfl (by omega) hw;rw [if_pos (by omega),if_pos (by omega),if_neg (by omega)] at this;rw [show t.size+([48,48,92,117,100,99,48,48]:List Int).length=a+12 by simp only [List.length_cons,List.length_nil]; omega];exact ⟨_,esc_two (h117u u ag) this (by omega) (pr u ag 0 (by have:=hw.2.2; rwa [show t.size+1+1=a+6 by omega] at this) _)⟩
       ·refine ⟨[48,48],by decide,fun u ag hw=>?_⟩;have:=dig u ag 2 _ [] rfl (by omega) hw;rw [if_pos (by omega),if_pos (by omega),if_neg (by omega)] at this;exact ⟨_,by rw [esc_one (h117u u ag) this (by omega),show t.size+([48,48]:List Int).length=a+6 by simp only [List.length_cons,List.length_nil]; omega]⟩
      ·have d2:=d2 (by omega);by_cases hsur:hexS (bAt t ((a+2:Nat):Int))=13∧8≤hexS (bAt t ((a+2+1:Nat):Int))
       ·refine ⟨[48,92,117,100,99,48,48],by decide,fun u ag hw=>?_⟩;have:=dig u ag 1 _ [92,117,100,99,48,48] rfl (by omega) hw;rw [if_pos (by omega),if_pos (by omega),if_pos (by omega)] at this;rw [show t.size+([48,92,117,100,99,48,48]:List Int).length=a+12 by simp only [List.length_cons,List.length_nil]; omega];exact ⟨_,esc_two (h117u u ag) this (by omega) (pr u ag 0 (by have:=hw.2; rwa [show t.size+1=a+6 by omega] at this) _)⟩
       ·refine ⟨[48],by decide,fun u ag hw=>?_⟩;have:=dig u ag 1 _ [] rfl (by omega) hw;rw [if_pos (by omega),if_pos (by omega),if_pos (by omega)] at this;exact ⟨_,by rw [esc_one (h117u u ag) this (by omega),show t.size+([48]:List Int).length=a+6 by simp only [List.length_cons,List.length_nil]; omega]⟩
   ·rename_i b1 v h3;have h3b:=fourR_ok h3;obtain ⟨hb1,hb2,_⟩:=h3b;obtain rfl:b1=a+6:=by omega
    have h3u:∀u,Agree t u t.size→qBt u false a 4 0 (a+2) 0=.ok (a+6) v:=fun u ag=>(qCy ag false a 4 0 (a+2) 0).1 _ _ h3 hb2
    split at h
    ·cases h
    ·rename_i hsur;unfold qG1 at h;split at h
     ·rename_i h4;have:=out h4;refine ⟨[92,117,100,99,48,48],by decide,fun u ag hw=>?_⟩;rw [show t.size=a+6 by omega] at hw ⊢;exact ⟨_,esc_two (h117u u ag) (h3u u ag) hsur (pair_of hw.1 hw.2.1 (dc00 (b:=a+6+2) hw.2.2))⟩
     ·rename_i h4;have hl2:=qAi (t:=t) (a:=a+6) (by omega);split at h
      ·cases h
      ·rename_i h5;have h5:bAt t ((a+6:Nat):Int)=92:=Decidable.not_not.1 h5;have h5u:∀u,Agree t u t.size→bAt u ((a+6:Nat):Int)=92:=fun u ag=>by rw [←ag.same _ hl2]; exact h5
       split at h
       ·rename_i h6;have:=out h6;refine ⟨[117,100,99,48,48],by decide,fun u ag hw=>?_⟩;rw [show t.size=a+6+1 by omega] at hw ⊢;exact ⟨_,esc_two (h117u u ag) (h3u u ag) hsur (pair_of (h5u u ag) hw.1 (dc00 (b:=a+6+2) hw.2))⟩
       ·rename_i h6;have hl3:=qAi (t:=t) (a:=a+6+1) (by omega);split at h
        ·cases h
        ·rename_i h7;have h7:bAt t ((a+6+1:Nat):Int)=117:=Decidable.not_not.1 h7;have h7u:∀u,Agree t u t.size→bAt u ((a+6+1:Nat):Int)=117:=fun u ag=>by rw [←ag.same _ hl3]; exact h7
         split at h
         ·rename_i h8;cases h;obtain ⟨k,k1,k2,k3,k4,_⟩:=four_cut (by omega) h8;obtain ⟨k4,k5⟩:=k4 rfl;have fin:∀(L:List Int),L∈qFo→(∀u,Agree t u t.size→Has u t.size L→qBt u true a 4 0 (a+6+2) 0=.ok (a+6+2+4) (4096*(13:Int)+256*(if 2≤k then hexS (bAt t ((a+6+2+1:Nat):Int)) else 12)+16*(if 3≤k then hexS (bAt t ((a+6+2+2:Nat):Int)) else 0)+0))→t.size+L.length=a+12→∃w,w∈qFo∧∀u,Agree t u t.size→Has u t.size w→∃v,escR u a=.ok (t.size+w.length) v:=fun L hL hf hlen=>by
           refine ⟨L,hL,fun u ag hw=>?_⟩;rw [hlen];exact ⟨_,esc_two (h117u u ag) (h3u u ag) hsur (pair_of (h5u u ag) (h7u u ag) (hf u ag hw))⟩
          have grow:∀(L:List Int),(∀j,k≤j→j<4→j - k<L.length∧hexS (L.getD (j - k) 0)=(if j=0 then 13 else if j=1 then 12 else 0))→∀u,Agree t u t.size→Has u t.size L→qBt u true a 4 0 (a+6+2) 0=.ok (a+6+2+4) (4096*(13:Int)+256*(if 2≤k then hexS (bAt t ((a+6+2+1:Nat):Int)) else 12)+16*(if 3≤k then hexS (bAt t ((a+6+2+2:Nat):Int)) else 0)+0):=fun L hL u ag hw=>by
           have:=four_grow ag (p:=a+6+2) (k:=k) (f:=a) (L:=L) k2 hw true (D:=fun j=>if j<k then hexS (bAt t ((a+6+2+j:Nat):Int)) else if j=0 then 13 else if j=1 then 12 else 0)
            (fun j hj _=>⟨by rw [if_pos hj],by rw [if_pos hj]; exact k3 j hj⟩)
            (fun j hj hj4=>by
             obtain ⟨g1,g2⟩:=hL j hj hj4;refine ⟨g1,by rw [if_neg (by omega)]; exact g2,?_⟩;rw [if_neg (by omega)];split
             ·decide
             ·split <;> decide)
            (fun _=>by
             constructor
             ·by_cases h1:1≤k
              ·rw [if_pos (by omega),Nat.add_zero]; exact k4 h1
              ·rw [if_neg (by omega)]; rfl
             ·by_cases h1:2≤k
              ·rw [if_pos (by omega)]; exact k5 h1
              ·rw [if_neg (by omega)]; decide)
            (fun h=>by cases h)
           rw [this];congr 1
           have e0:(if 0<k then hexS (bAt t ((a+6+2+0:Nat):Int)) else if (0:Nat)=0 then (13:Int) else if (0:Nat)=1 then 12 else 0)=13:=by
            by_cases h1:1≤k
            ·rw [if_pos (by omega),Nat.add_zero]; exact k4 h1
            ·rw [if_neg (by omega)]; rfl
           have e1:(if 1<k then hexS (bAt t ((a+6+2+1:Nat):Int)) else if (1:Nat)=0 then (13:Int) else if (1:Nat)=1 then 12 else 0)=(if 2≤k then hexS (bAt t ((a+6+2+1:Nat):Int)) else 12):=by
            by_cases h1:2≤k
            ·rw [if_pos (by omega),if_pos h1]
            ·rw [if_neg (by omega),if_neg h1]; rfl
           have e2:(if 2<k then hexS (bAt t ((a+6+2+2:Nat):Int)) else if (2:Nat)=0 then (13:Int) else if (2:Nat)=1 then 12 else 0)=(if 3≤k then hexS (bAt t ((a+6+2+2:Nat):Int)) else 0):=by
            by_cases h1:3≤k
            ·rw [if_pos (by omega),if_pos h1]
            ·rw [if_neg (by omega),if_neg h1]; rfl
           have e3:(if 3<k then hexS (bAt t ((a+6+2+3:Nat):Int)) else if (3:Nat)=0 then (13:Int) else if (3:Nat)=1 then 12 else 0)=0:=by
            rw [if_neg (by omega)]; rfl
           rw [e0,e1,e2,e3]
          rcases (by omega:k=0∨k=1∨k=2∨k=3) with hk | hk | hk | hk
          ·exact fin [100,99,48,48] (by decide) (grow _ (fun j h1 h2=>by
            rcases (by omega:j=0∨j=1∨j=2∨j=3) with rfl | rfl | rfl | rfl <;> rw [hk] <;> decide)) (by simp only [List.length_cons,List.length_nil]; omega)
          ·exact fin [99,48,48] (by decide) (grow _ (fun j h1 h2=>by
            rcases (by omega:j=1∨j=2∨j=3) with rfl | rfl | rfl <;> rw [hk] <;> decide)) (by simp only [List.length_cons,List.length_nil]; omega)
          ·exact fin [48,48] (by decide) (grow _ (fun j h1 h2=>by
            rcases (by omega:j=2∨j=3) with rfl | rfl <;> rw [hk] <;> decide)) (by simp only [List.length_cons,List.length_nil]; omega)
          ·exact fin [48] (by decide) (grow _ (fun j h1 h2=>by
            obtain rfl:j=3:=by omega
            rw [hk];decide)) (by simp only [List.length_cons,List.length_nil]; omega)
         ·cases h
  ·split at h
   ·cases h
   ·cases h
end
end Go.Proofs.YtdcoiccdbgcpaaaDoor
