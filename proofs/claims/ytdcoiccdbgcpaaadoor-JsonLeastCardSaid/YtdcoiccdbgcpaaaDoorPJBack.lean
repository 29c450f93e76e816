/-
  JsonBack: the plain law. No program.
-/
import Derived.Test.YtdcoiccdbgcpaaaDoorPGrow
import Derived.Test.YtdcoiccdbgcpaaaDoorPFind
import Derived.Test.YtdcoiccdbgcpaaaDoorPRespell
namespace Go.Proofs.YtdcoiccdbgcpaaaDoor
open Go.Eng
set_option linter.unusedVariables false
set_option linter.unusedSimpArgs false
section
variable {u:BA} {a:Nat}
theorem seq_mk2 (h0:194≤by8 u a∧by8 u a<224) (h1:128≤by8 u (a+1)∧by8 u (a+1)≤191) (hsz:a+2≤u.size):seqK u a=0∧seqW u a=2:=by
 have f:Lib.firstT (by8 u a)=2:=by
  unfold Lib.firstT;rw [if_neg (by omega),if_neg (by omega),if_pos (by omega)]
 refine ⟨?_,by unfold seqW; rw [f]⟩;unfold seqK;rw [f,if_neg (by decide)];simp only [Nat.reduceMod,Nat.reduceDiv,Nat.reduceSub,qEk,Lib.accLo,Lib.accHi,if_true];rw [if_neg (by omega),if_neg (by omega)]
theorem seq_mk3 (h0:224≤by8 u a∧by8 u a<240) (h1:128≤by8 u (a+1)∧by8 u (a+1)≤191) (h2:128≤by8 u (a+2)∧by8 u (a+2)≤191) (g1:by8 u a=224→160≤by8 u (a+1)) (g2:by8 u a=237→by8 u (a+1)≤159) (hsz:a+3≤u.size):seqK u a=0∧seqW u a=3:=by
 have f:Lib.firstT (by8 u a)=if by8 u a=224 then 19 else if by8 u a=237 then 35 else 3:=by
  unfold Lib.firstT;rw [if_neg (by omega),if_neg (by omega),if_neg (by omega)];repeat' split
  all_goals first | rfl | omega
 unfold seqK seqW;rw [f];by_cases c1:by8 u a=224
 ·have:=g1 c1;rw [if_pos c1,if_neg (by decide)];simp only [Nat.reduceMod,Nat.reduceDiv,Nat.reduceSub,qEk,Lib.accLo,Lib.accHi,Nat.reduceAdd,if_true,Nat.reduceEqDiff,if_false];rw [if_neg (by omega),if_neg (by omega),if_neg (by omega),if_neg (by omega)];exact ⟨rfl,tV⟩
 ·rw [if_neg c1];by_cases c2:by8 u a=237
  ·have:=g2 c2;rw [if_pos c2,if_neg (by decide)];simp only [Nat.reduceMod,Nat.reduceDiv,Nat.reduceSub,qEk,Lib.accLo,Lib.accHi,Nat.reduceAdd,if_true,Nat.reduceEqDiff,if_false];rw [if_neg (by omega),if_neg (by omega),if_neg (by omega),if_neg (by omega)];exact ⟨rfl,tV⟩
  ·rw [if_neg c2,if_neg (by decide)];simp only [Nat.reduceMod,Nat.reduceDiv,Nat.reduceSub,qEk,Lib.accLo,Lib.accHi,Nat.reduceAdd,if_true,Nat.reduceEqDiff,if_false];rw [if_neg (by omega),if_neg (by omega),if_neg (by omega),if_neg (by omega)];exact ⟨rfl,tV⟩
theorem seq_mk4 (h0:240≤by8 u a∧by8 u a≤244) (h1:128≤by8 u (a+1)∧by8 u (a+1)≤191) (h2:128≤by8 u (a+2)∧by8 u (a+2)≤191) (h3:128≤by8 u (a+3)∧by8 u (a+3)≤191) (g1:by8 u a=240→144≤by8 u (a+1)) (g2:by8 u a=244→by8 u (a+1)≤143) (hsz:a+4≤u.size):seqK u a=0∧seqW u a=4:=by
 have f:Lib.firstT (by8 u a)=if by8 u a=240 then 52 else if by8 u a=244 then 68 else 4:=by
  unfold Lib.firstT;rw [if_neg (by omega),if_neg (by omega),if_neg (by omega),if_neg (by omega),if_neg (by omega),if_neg (by omega),if_neg (by omega)];repeat' split
  all_goals first | rfl | omega
 unfold seqK seqW;rw [f];by_cases c1:by8 u a=240
 ·have:=g1 c1;rw [if_pos c1,if_neg (by decide)];simp only [Nat.reduceMod,Nat.reduceDiv,Nat.reduceSub,qEk,Lib.accLo,Lib.accHi,Nat.reduceAdd,if_true,Nat.reduceEqDiff,if_false];rw [if_neg (by omega),if_neg (by omega),if_neg (by omega),if_neg (by omega),if_neg (by omega),if_neg (by omega)];exact ⟨rfl,tV⟩
 ·rw [if_neg c1];by_cases c2:by8 u a=244
  ·have:=g2 c2;rw [if_pos c2,if_neg (by decide)];simp only [Nat.reduceMod,Nat.reduceDiv,Nat.reduceSub,qEk,Lib.accLo,Lib.accHi,Nat.reduceAdd,if_true,Nat.reduceEqDiff,if_false];rw [if_neg (by omega),if_neg (by omega),if_neg (by omega),if_neg (by omega),if_neg (by omega),if_neg (by omega)];exact ⟨rfl,tV⟩
  ·rw [if_neg c2,if_neg (by decide)];simp only [Nat.reduceMod,Nat.reduceDiv,Nat.reduceSub,qEk,Lib.accLo,Lib.accHi,Nat.reduceAdd,if_true,Nat.reduceEqDiff,if_false];rw [if_neg (by omega),if_neg (by omega),if_neg (by omega),if_neg (by omega),if_neg (by omega),if_neg (by omega)];exact ⟨rfl,tV⟩
end
section
variable {t:BA}
theorem seq_cut {p:Nat} (hp:p<t.size) (h8:128≤by8 t p) (hk:seqK t p=31) :
  (194≤by8 t p∧by8 t p<224∧t.size=p+1) ∨
  (224≤by8 t p∧by8 t p<240∧(t.size=p+1∨(t.size=p+2∧128≤by8 t (p+1)∧by8 t (p+1)≤191∧(by8 t p=224→160≤by8 t (p+1))∧(by8 t p=237→by8 t (p+1)≤159)))) ∨
  (240≤by8 t p∧by8 t p≤244∧(t.size=p+1∨(128≤by8 t (p+1)∧by8 t (p+1)≤191∧(by8 t p=240→144≤by8 t (p+1))∧(by8 t p=244→by8 t (p+1)≤143)∧(t.size=p+2∨(t.size=p+3∧128≤by8 t (p+2)∧by8 t (p+2)≤191))))):=by
 have l0:=by8_lt t p;have hf:=qG2 ⟨by8 t p,l0⟩ h8;have hl:=lead_all ⟨by8 t p,l0⟩;simp only at hf hl;unfold seqK at hk;by_cases h1:Lib.firstT (by8 t p)=241
 ·rw [if_pos h1] at hk;cases hk
 ·rw [if_neg h1] at hk;generalize hb1:by8 t (p+1)=b1 at *
  generalize hb2:by8 t (p+2)=b2 at *
  generalize hb3:by8 t (p+3)=b3 at *
  generalize hn:t.size - p=n at *
  generalize by8 t p=b0 at *
  rcases Lib.firstT_cases b0 with g | g | g | g | g | g | g | g | g <;> first | exact (hf g).elim | exact (h1 g).elim | rw [g] at hk hl
  all_goals
   simp only [Nat.reduceMod,Nat.reduceDiv,Nat.reduceSub,qEk,Lib.accLo,Lib.accHi,Nat.reduceEqDiff,Nat.reduceAdd,Nat.reduceLeDiff,if_true,if_false,hb1,hb2,hb3,Nat.zero_add,Nat.add_zero,forall_const,false_imp_iff,true_and,and_true] at hk hl;repeat' split at hk
   all_goals first | (cases hk; done) | omega
theorem by8_has {u:BA} {L:List Int} {a:Nat} (h:Has u a L) {i:Nat} (hi:i<L.length):(by8 u (a+i):Int)=L.getD i 0:=by
 have h1:=has_get h i hi;have h2:=h.le;rwa [qCu (by omega)] at h1
theorem seq_grow {p:Nat} (hp:p<t.size) (h8:128≤by8 t p) (hk:seqK t p=31):∃w,w∈qFo∧∀u,Agree t u t.size→Has u t.size w→seqK u p=0∧p+seqW u p=t.size+w.length:=by
 have at1:∀ {u:BA} {w:List Int} {i j:Nat},Has u t.size w→t.size+i=j→i<w.length→(by8 u j:Int)=w.getD i 0:=fun hw hj hi=>by
  subst hj; exact by8_has hw hi
 rcases seq_cut hp h8 hk with ⟨h1,h2,h3⟩ | ⟨h1,h2,h3⟩ | ⟨h1,h2,h3⟩
 ·refine ⟨[128],by decide,fun u ag hw=>?_⟩;have e0:=ag.by8 hp;have e1:(by8 u (p+1):Int)=128:=at1 hw (i:=0) (by omega) (by decide);have hl:=hw.le;simp only [List.length_singleton] at hl ⊢;have:=seq_mk2 (u:=u) (a:=p) (by omega) (by omega) (by omega);exact ⟨this.1,by omega⟩
 ·rcases h3 with h3 | ⟨h3,h4,h5,h6,h7⟩
  ·by_cases c:by8 t p=224
   ·refine ⟨[160,128],by decide,fun u ag hw=>?_⟩;have e0:=ag.by8 hp;have e1:(by8 u (p+1):Int)=160:=at1 hw (i:=0) (by omega) (by decide);have e2:(by8 u (p+2):Int)=128:=at1 hw (i:=1) (by omega) (by decide);have hl:=hw.le;simp only [List.length_cons,List.length_nil] at hl ⊢;have:=seq_mk3 (u:=u) (a:=p) (by omega) (by omega) (by omega) (by omega) (by omega) (by omega);exact ⟨this.1,by omega⟩
   ·refine ⟨[128,128],by decide,fun u ag hw=>?_⟩;have e0:=ag.by8 hp;have e1:(by8 u (p+1):Int)=128:=at1 hw (i:=0) (by omega) (by decide);have e2:(by8 u (p+2):Int)=128:=at1 hw (i:=1) (by omega) (by decide);have hl:=hw.le;simp only [List.length_cons,List.length_nil] at hl ⊢;have:=seq_mk3 (u:=u) (a:=p) (by omega) (by omega) (by omega) (by omega) (by omega) (by omega);exact ⟨this.1,by omega⟩
  ·refine ⟨[128],by decide,fun u ag hw=>?_⟩;have e0:=ag.by8 hp;have e1:=ag.by8 (i:=p+1) (by omega);have e2:(by8 u (p+2):Int)=128:=at1 hw (i:=0) (by omega) (by decide);have hl:=hw.le;simp only [List.length_cons,List.length_nil] at hl ⊢;have:=seq_mk3 (u:=u) (a:=p) (by omega) (by omega) (by omega) (by omega) (by omega) (by omega);exact ⟨this.1,by omega⟩
 ·rcases h3 with h3 | ⟨h4,h5,h6,h7,h3 | ⟨h3,h9,h10⟩⟩
  ·by_cases c:by8 t p=240
   ·refine ⟨[144,128,128],by decide,fun u ag hw=>?_⟩;have e0:=ag.by8 hp;have e1:(by8 u (p+1):Int)=144:=at1 hw (i:=0) (by omega) (by decide);have e2:(by8 u (p+2):Int)=128:=at1 hw (i:=1) (by omega) (by decide);have e3:(by8 u (p+3):Int)=128:=at1 hw (i:=2) (by omega) (by decide);have hl:=hw.le;simp only [List.length_cons,List.length_nil] at hl ⊢;have:=seq_mk4 (u:=u) (a:=p) (by omega) (by omega) (by omega) (by omega) (by omega) (by omega) (by omega);exact ⟨this.1,by omega⟩
   ·refine ⟨[128,128,128],by decide,fun u ag hw=>?_⟩;have e0:=ag.by8 hp;have e1:(by8 u (p+1):Int)=128:=at1 hw (i:=0) (by omega) (by decide);have e2:(by8 u (p+2):Int)=128:=at1 hw (i:=1) (by omega) (by decide);have e3:(by8 u (p+3):Int)=128:=at1 hw (i:=2) (by omega) (by decide);have hl:=hw.le;simp only [List.length_cons,List.length_nil] at hl ⊢;have:=seq_mk4 (u:=u) (a:=p) (by omega) (by omega) (by omega) (by omega) (by omega) (by omega) (by omega);exact ⟨this.1,by omega⟩
  ·refine ⟨[128,128],by decide,fun u ag hw=>?_⟩;have e0:=ag.by8 hp;have e1:=ag.by8 (i:=p+1) (by omega);have e2:(by8 u (p+2):Int)=128:=at1 hw (i:=0) (by omega) (by decide);have e3:(by8 u (p+3):Int)=128:=at1 hw (i:=1) (by omega) (by decide);have hl:=hw.le;simp only [List.length_cons,List.length_nil] at hl ⊢;have:=seq_mk4 (u:=u) (a:=p) (by omega) (by omega) (by omega) (by omega) (by omega) (by omega) (by omega);exact ⟨this.1,by omega⟩
  ·refine ⟨[128],by decide,fun u ag hw=>?_⟩;have e0:=ag.by8 hp;have e1:=ag.by8 (i:=p+1) (by omega);have e2:=ag.by8 (i:=p+2) (by omega);have e3:(by8 u (p+3):Int)=128:=at1 hw (i:=0) (by omega) (by decide);have hl:=hw.le;simp only [List.length_cons,List.length_nil] at hl ⊢;have:=seq_mk4 (u:=u) (a:=p) (by omega) (by omega) (by omega) (by omega) (by omega) (by omega) (by omega);exact ⟨this.1,by omega⟩
theorem z_run {u:BA}:∀(Z:List Int) (a n:Nat) (acc:List Int),(∀z∈Z,z=122)→Has u a (Z++[34])→u.size - a<n→quoR u n a acc=.ok (a+(Z.length+1)) (acc++Z)
 | [],a,0,acc,_,hh,hn=>by omega
 | z::Z,a,0,acc,_,hh,hn=>by omega
 | [],a,n+1,acc,_,hh,hn=>by
  have h34:bAt u (a:Int)=34:=hh.1;unfold quoR;rw [h34,if_neg (by decide),if_pos rfl,List.append_nil];rfl
 | z::Z,a,n+1,acc,hz,hh,hn=>by
  have hz0:=hz z List.mem_cons_self;have h122:bAt u (a:Int)=122:=by rw [←hz0]; exact hh.1
  have hlt:=qAi (t:=u) (a:=a) (by omega);have ih:=z_run Z (a+1) n (acc++[122]) (fun z hz'=>hz z (List.mem_cons_of_mem _ hz')) hh.2 (by omega);unfold quoR;rw [h122,if_neg (by decide),if_neg (by decide),if_neg (by decide),if_pos (by decide),ih,hz0,List.length_cons,List.append_assoc];congr 1
  omega
theorem quo_grow:∀(n a:Nat) (acc:List Int),t.size - a<n→quoR t n a acc=.bad 31 t.size→∃w,w∈qFo∧∀u,Agree t u t.size→∀Z,(∀z∈Z,z=122)→Has u t.size (w++(Z++[34]))→∀n',u.size - a<n'→∃l,quoR u n' a acc=.ok (t.size+(w.length+(Z.length+1))) l∧Z.length≤l.length
 | 0,a,acc,hn,_=>by omega
 | n+1,a,acc,hn,h=>by
  unfold quoR at h;split at h
  ·cases h;refine ⟨[],by decide,fun u ag Z hZ hh n' hn'=>⟨acc++Z,?_,?_⟩⟩
   ·rw [z_run Z _ n' acc hZ hh hn'];simp only [List.length_nil];congr 1
    omega
   ·rw [List.length_append];omega
  ·rename_i h0;have hal:=qAi (t:=t) (a:=a) (by omega);split at h
   ·cases h
   ·rename_i h34;split at h
    ·rename_i h92;split at h
     ·rename_i h4;cases h;obtain ⟨w,hw,hg⟩:=esc_grow h92 h4;refine ⟨w,hw,fun u ag Z hZ hh n' hn'=>?_⟩;have hlu:=ag.lu;rw [Has.append] at hh;obtain ⟨v,hv⟩:=hg u ag hh.1;have hadv:=qDx hv;cases n' with
      | zero=>omega
      | succ n' =>
       refine ⟨(acc++utfL v)++Z,?_,by rw [List.length_append]; omega⟩;unfold quoR;rw [←ag.same a hal,if_neg h0,if_neg h34,if_pos h92,hv];dsimp only;rw [z_run Z _ n' (acc++utfL v) hZ hh.2 (by omega)];congr 1
       omega
     ·rename_i b1 v h4;have h5:=qDx h4;obtain ⟨w,hw,hg⟩:=quo_grow n b1 _ (by omega) h;refine ⟨w,hw,fun u ag Z hZ hh n' hn'=>?_⟩;have hlu:=ag.lu;cases n' with
      | zero=>omega
      | succ n' =>
       unfold quoR;rw [←ag.same a hal,if_neg h0,if_neg h34,if_pos h92,(escR_like ag a).1 _ _ h4 h5.2.1];exact hg u ag Z hZ hh n' (by omega)
    ·rename_i h92;split at h
     ·rename_i h128;obtain ⟨w,hw,hg⟩:=quo_grow n (a+1) _ (by omega) h;refine ⟨w,hw,fun u ag Z hZ hh n' hn'=>?_⟩;have hlu:=ag.lu;cases n' with
      | zero=>omega
      | succ n' =>
       unfold quoR;rw [←ag.same a hal,if_neg h0,if_neg h34,if_neg h92,if_pos h128];exact hg u ag Z hZ hh n' (by omega)
     ·rename_i h128;have h8:128≤by8 t a:=by have:=qCu hal; omega
      split at h
      ·rename_i hk;have hws:=qC1 hal h8 hk;obtain ⟨w,hw,hg⟩:=quo_grow n (a+seqW t a) _ (by omega) h;refine ⟨w,hw,fun u ag Z hZ hh n' hn'=>?_⟩;have hlu:=ag.lu;obtain ⟨k1,k2⟩:=seqK_ext (s:=u) (b:=a) hal h8 hk (fun k hk=>(ag.by8 (by omega)).symm) (by omega);cases n' with
       | zero=>omega
       | succ n' =>
        unfold quoR;rw [←ag.same a hal,if_neg h0,if_neg h34,if_neg h92,if_neg h128,if_pos k1,k2,←ag.ext (by omega)];exact hg u ag Z hZ hh n' (by omega)
      ·rename_i hk;have hk31:seqK t a=31:=by simp only [Rd.bad.injEq] at h; exact h.1
       obtain ⟨w,hw,hg⟩:=seq_grow hal h8 hk31;refine ⟨w,hw,fun u ag Z hZ hh n' hn'=>?_⟩;have hlu:=ag.lu;rw [Has.append] at hh;obtain ⟨k1,k2⟩:=hg u ag hh.1;have h8u:128≤by8 u a:=by rw [←ag.by8 hal]; exact h8
       have hws:=qC1 (by omega) h8u k1;cases n' with
       | zero=>omega
       | succ n' =>
        refine ⟨(acc++qAk (u.extract a (a+seqW u a)))++Z,?_,by rw [List.length_append]; omega⟩;unfold quoR;rw [←ag.same a hal,if_neg h0,if_neg h34,if_neg h92,if_neg h128,if_pos k1,k2,z_run Z _ n' _ hZ hh.2 (by omega)];congr 1
        omega
theorem num_tail {u:BA} {p:Nat} (h:Stop (bAt u (p:Int))):dotR u p=.ok p ()∧powR u p=.ok p ():=by
 unfold dotR powR;unfold Stop at h;rw [if_neg h.2.1,if_neg (by omega)];exact ⟨rfl,rfl⟩
theorem dig_zero {u:BA} {p:Nat} (h0:bAt u (p:Int)=48) (h:Stop (bAt u ((p+1:Nat):Int))):digR u p=.ok (p+1) ():=by
 have hd:digS u (p:Int)=true:=by unfold digS; rw [h0]; rfl
 have hm:qDn u p=p+1:=by rw [qCv hd,qDa (stop_dig (c:=0) h)]
 unfold digR;rw [hm,if_neg (by omega)]
theorem num_grow {a:Nat} (ha:a<t.size) (h:numR t a=.bad 31 t.size):∀u,Agree t u t.size→bAt u (t.size:Int)=48→Stop (bAt u ((t.size+1:Nat):Int))→numR u a=.ok (t.size+1) ():=by
 intro u ag h48 hst;have hsg:qDq t a≤t.size:=by unfold qDq; split <;> omega
 have hsu:qDq u a=qDq t a:=by unfold qDq; rw [ag.same a ha]
 have hdz:=dig_zero h48 hst;obtain ⟨t1,t2⟩:=num_tail hst;have dend:∀ {p},digR t p=.bad 31 t.size→p=t.size:=fun {p} h=>by
  unfold digR at h;split at h
  ·cases h; rfl
  ·cases h
 unfold numR at h ⊢;rw [hsu];split at h
 ·rename_i h1;cases h;have e:qDq t a=t.size:=by
   unfold qGj at h1;split at h1
   ·cases h1
   ·exact dend h1
  have z:qGj u (qDq t a)=.ok (t.size+1) ():=by rw [e]; unfold qGj; rw [if_pos h48]
  rw [z];dsimp only;rw [t1];exact t2
 ·rename_i b1 x1 h1;have z1:=qFp hsg h1;split at h
  ·rename_i h2;cases h;unfold dotR at h2;split at h2
   ·rename_i h46;have e:=dend h2;rw [(qFe ag _).1 _ _ h1 (.inl (by omega))];dsimp only;have d:dotR u b1=.ok (t.size+1) ():=by
     unfold dotR;rw [←ag.same b1 (by omega),if_pos h46,e];exact hdz
    rw [d];exact t2
   ·cases h2
  ·rename_i b2 x2 h2;have z2:=dotR_adv z1.2 h2;unfold powR at h;split at h
   ·rename_i h101;have hb2:=qAi (t:=t) (a:=b2) (by omega);have e:=dend h;rw [(qFe ag _).1 _ _ h1 (.inl (by omega))];dsimp only;rw [(dotR_like ag _).1 _ _ h2 (.inl (by omega))];show powR u b2=_;have hp:(if bAt u ((b2+1:Nat):Int)=43∨bAt u ((b2+1:Nat):Int)=45 then b2+2 else b2+1)=t.size:=by
     rcases Nat.lt_or_ge (b2+1) t.size with hlt | hge
     ·rw [←ag.same _ hlt];exact e
     ·have:b2+1=t.size:=by omega
      rw [this,h48];rfl
    unfold powR;rw [←ag.same b2 hb2,if_pos h101,hp];exact hdz
   ·cases h
theorem lit_grow:∀(w:List Int) (a:Nat),a≤t.size→(∀c∈w,0≤c)→litR t w a=.bad 31 t.size→∃k,k<w.length∧a+k=t.size∧∀u,Agree t u t.size→Has u t.size (w.drop k)→litR u w a=.ok (a+w.length) ()
 | [],a,ha,hw,h=>by cases h
 | c::w,a,ha,hw,h=>by
  unfold litR at h;split at h
  ·rename_i h1;have hal:=qAi (t:=t) (a:=a) (by rw [h1]; exact hw c List.mem_cons_self);obtain ⟨k,k1,k2,k3⟩:=lit_grow w (a+1) hal (fun c hc=>hw c (List.mem_cons_of_mem _ hc)) h;refine ⟨k+1,by rw [List.length_cons]; omega,by omega,fun u ag hh=>?_⟩;unfold litR;rw [←ag.same a hal,if_pos h1,k3 u ag hh,List.length_cons];congr 1
   omega
  ·cases h;exact ⟨0,by rw [List.length_cons]; omega,rfl,fun u ag hh=>litR_says hh⟩
def behL (own:List Int):List (List Int):=[[],[34],own++[34,58,48],[58,48],34::(own++[34,58,48])]
theorem scal_grow {own:List Int} {a:Nat} (ha:a≤t.size) (hn:¬(bAt t (a:Int)=91∨bAt t (a:Int)=123)) (h:qCa t a=.bad 31 t.size) :
  ∃w g,w∈qFo∧g∈behL own∧∀u,Agree t u t.size→Has u t.size (w++g)→Stop (bAt u ((t.size+(w.length+g.length):Nat):Int))→¬(bAt u (a:Int)=91∨bAt u (a:Int)=123)∧∃l,qCa u a=.ok (t.size+(w.length+g.length)) l:=by
 have b0:([]:List Int)∈behL own:=by simp [behL]
 have b1:([34]:List Int)∈behL own:=by simp [behL]
 rcases Nat.lt_or_ge a t.size with hal | hge
 ·have hnu:∀u,Agree t u t.size→¬(bAt u (a:Int)=91∨bAt u (a:Int)=123):=fun u ag=>by rw [←ag.same a hal]; exact hn
  have lit:∀(W:List Int) (n:Eng.Node),(∀k,1≤k→k<W.length→W.drop k∈qFo)→(∀c∈W,0≤c)→(match litR t W a with | .bad c b=>Rd.bad c b | .ok b _=>Rd.ok b [n])=.bad 31 t.size →
    ∃w,w∈qFo∧∀u,Agree t u t.size→Has u t.size w→(match litR u W a with | .bad c b=>Rd.bad c b | .ok b _=>Rd.ok b [n])=.ok (t.size+w.length) [n]:=fun W n hp hw h=>by
   split at h
   ·rename_i h1;cases h;obtain ⟨k,k1,k2,k3⟩:=lit_grow W a ha hw h1;refine ⟨W.drop k,hp k (by omega) k1,fun u ag hh=>?_⟩;rw [k3 u ag hh];dsimp only;rw [List.length_drop];congr 1
    omega
   ·cases h
  unfold qCa at h;split at h
  ·rename_i h34;split at h
   ·rename_i h2;cases h;obtain ⟨w,hw,hg⟩:=quo_grow _ _ _ (by omega) h2;refine ⟨w,[34],hw,b1,fun u ag hh hst=>⟨hnu u ag,?_⟩⟩;have hlu:=ag.lu;obtain ⟨l,hl,_⟩:=hg u ag [] (by simp) hh (u.size+1) (by omega);refine ⟨[nd0 5 (qAr l) false 0 0],?_⟩
    ·unfold qCa;rw [←ag.same a hal,if_pos h34,hl];rfl
   ·cases h
  ·rename_i h34;split at h
   ·rename_i hd;split at h
    ·rename_i h2;cases h;refine ⟨[48],[],by decide,b0,fun u ag hh hst=>⟨hnu u ag,?_⟩⟩;have hnum:=num_grow hal h2 u ag hh.1 hst;refine ⟨[nd0 4 (u.extract a (t.size+1)) (qCk (u.extract a (t.size+1))).2 (qCk (u.extract a (t.size+1))).1 0],?_⟩
     ·unfold qCa;rw [←ag.same a hal,if_neg h34,if_pos hd,hnum];rfl
    ·cases h
   ·rename_i hd;split at h
    ·rename_i h2;obtain ⟨w,hw,hg⟩:=lit _ _ (fun k hk1 hk2=>by
      rcases (by simp only [List.length_cons,List.length_nil] at hk2; omega:k=1∨k=2∨k=3) with rfl | rfl | rfl <;> decide) (by decide) h
     refine ⟨w,[],hw,b0,fun u ag hh hst=>⟨hnu u ag,[nd0 1 ⟨#[]⟩ false 0 0],?_⟩⟩
     ·rw [List.append_nil] at hh;unfold qCa;rw [←ag.same a hal,if_neg h34,if_neg hd,if_pos h2];exact hg u ag hh
    ·rename_i h2;split at h
     ·rename_i h3;obtain ⟨w,hw,hg⟩:=lit _ _ (fun k hk1 hk2=>by
       rcases (by simp only [List.length_cons,List.length_nil] at hk2; omega:k=1∨k=2∨k=3∨k=4) with rfl | rfl | rfl | rfl <;> decide) (by decide) h
      refine ⟨w,[],hw,b0,fun u ag hh hst=>⟨hnu u ag,[nd0 2 ⟨#[]⟩ false 0 0],?_⟩⟩
      ·rw [List.append_nil] at hh;unfold qCa;rw [←ag.same a hal,if_neg h34,if_neg hd,if_neg h2,if_pos h3];exact hg u ag hh
     ·rename_i h3;split at h
      ·rename_i h4;obtain ⟨w,hw,hg⟩:=lit _ _ (fun k hk1 hk2=>by
        rcases (by simp only [List.length_cons,List.length_nil] at hk2; omega:k=1∨k=2∨k=3) with rfl | rfl | rfl <;> decide) (by decide) h
       refine ⟨w,[],hw,b0,fun u ag hh hst=>⟨hnu u ag,[nd0 3 ⟨#[]⟩ false 0 0],?_⟩⟩
       ·rw [List.append_nil] at hh;unfold qCa;rw [←ag.same a hal,if_neg h34,if_neg hd,if_neg h2,if_neg h3,if_pos h4];exact hg u ag hh
      ·cases h;omega
 ·obtain rfl:a=t.size:=by omega
  refine ⟨[48],[],by decide,b0,fun u ag hh hst=>?_⟩;have h48:bAt u (t.size:Int)=48:=hh.1;refine ⟨by rw [h48]; decide,?_⟩;obtain ⟨t1,t2⟩:=num_tail hst;have hz:qGj u t.size=.ok (t.size+1) ():=by unfold qGj; rw [if_pos h48]
  have hnum:numR u t.size=.ok (t.size+1) ():=by
   unfold numR qDq;rw [h48,if_neg (by decide),hz];dsimp only;have t1:dotR u (t.size+1)=.ok (t.size+1) ():=t1;rw [t1];exact t2
  refine ⟨[nd0 4 (u.extract t.size (t.size+1)) (qCk (u.extract t.size (t.size+1))).2 (qCk (u.extract t.size (t.size+1))).1 0],?_⟩
  ·unfold qCa;rw [h48,if_neg (by decide),if_pos (by decide),hnum];rfl
end
end Go.Proofs.YtdcoiccdbgcpaaaDoor
namespace Go.Proofs.YtdcoiccdbgcpaaaDoor
open Go.Eng
set_option linter.unusedVariables false
set_option linter.unusedSimpArgs false
section
variable {t:BA} {own:List Int}
theorem qC7 {u:BA} (ag:Agree t u t.size) (hnb:qBf (bAt u (t.size:Int))=false):∀(n a:Nat),t.size - a≤n→a≤t.size→qAm u a=qAm t a
 | 0,a,h1,h2=>by
  obtain rfl:a=t.size:=by omega
  rw [qDc hnb,qDc (by rw [qB0 (by omega)]; rfl)]
 | n+1,a,h1,h2=>by
  rcases Nat.lt_or_ge a t.size with ha | ha
  ·have hs:=ag.same a ha;by_cases hb:qBf (bAt t a)=true
   ·rw [qEz hb,qEz (by rw [←hs]; exact hb)];exact qC7 ag hnb n (a+1) (by omega) ha
   ·have hb:qBf (bAt t a)=false:=by simpa using hb
    rw [qDc hb,qDc (by rw [←hs]; exact hb)]
  ·exact qC7 ag hnb 0 a (by omega) h2
theorem val_zero {u:BA} {p:Nat} (d:Nat) (h48:bAt u (p:Int)=48) (hst:Stop (bAt u ((p+1:Nat):Int))):∃l,valR u d p=.ok (p+1) l:=by
 obtain ⟨t1,t2⟩:=num_tail hst;have hz:qGj u p=.ok (p+1) ():=by unfold qGj; rw [if_pos h48]
 have hnum:numR u p=.ok (p+1) ():=by
  unfold numR qDq;rw [h48,if_neg (by decide),hz];dsimp only;rw [t1];exact t2
 have hsc:qCa u p=.ok (p+1) [nd0 4 (u.extract p (p+1)) (qCk (u.extract p (p+1))).2 (qCk (u.extract p (p+1))).1 0]:=by
  unfold qCa;rw [h48,if_neg (by decide),if_pos (by decide),hnum]
 refine ⟨[nd0 4 (u.extract p (p+1)) (qCk (u.extract p (p+1))).2 (qCk (u.extract p (p+1))).1 0],?_⟩;cases d with
 | zero=>unfold valR; rw [h48,if_neg (by decide),hsc]
 | succ d=>unfold valR; rw [h48,if_neg (by decide),hsc]
theorem close_stop (obj:Bool):Stop (qDo obj)∧qBf (qDo obj)=false∧qDo obj≠44:=by cases obj <;> (unfold Stop; decide)
def GrowAt (t:BA) (own:List Int) (d:Nat):Prop:=∀a,a≤t.size→valR t d a=.bad 31 t.size→∃w g C,w∈qFo∧g∈behL own∧(∀c∈C,c=93∨c=125)∧C.length≤d∧(∀o:List Int,o.length+d≤100→cl t false a o=some (o++C.reverse)) ∧
 ∀u,Agree t u t.size→qBf (bAt u (t.size:Int))=false→Has u t.size (w++(g++C))→Stop (bAt u ((t.size+(w.length+(g.length+C.length)):Nat):Int))→∃l,valR u d a=.ok (t.size+(w.length+(g.length+C.length))) l
theorem name_len {t:BA} {n a b:Nat} {l:List Int} (h:quoR t n a []=.ok b l):(qAr l).size+1≤b - a:=by
 have h1:=qEa h;have h2:=escL_ge l;have:(escL ([]:List Int)).length=0:=rfl;rw [qD5];omega
theorem item_name {t:BA} {val:Nat→Rd (List Eng.Node)} {obj:Bool} {names:List BA} {a b:Nat} {x:BA × List Eng.Node} (h:qCb t val obj names a=.ok b x):x.1.size≤t.size:=by
 unfold qCb at h;split at h
 ·split at h
  ·split at h
   ·cases h
   ·rename_i h1;have h2:=qDu h1 (by simp);have h3:=name_len h1;split at h
    ·cases h
    ·split at h
     ·split at h
      ·cases h
      ·cases h;show (qAr _).size≤_;omega
     ·cases h
  ·cases h
 ·split at h
  ·cases h
  ·cases h;exact Nat.zero_le _
variable (hs:t.size≤200000) (hz:∀z∈own,z=122) (hown:t.size<own.length)
include hs hz hown
theorem item_grow {d:Nat} (hd:GrowAt t own d) {obj:Bool} {names:List BA} (hnm:∀n∈names,n.size≤t.size) {a:Nat} (ha:a≤t.size) (h:qCb t (valR t d) obj names a=.bad 31 t.size) :
  ∃w g C,w∈qFo∧g∈behL own∧(∀c∈C,c=93∨c=125)∧C.length≤d∧(∀o:List Int,o.length+d≤100→cl t false a o=some (o++C.reverse)) ∧
   ∀u,Agree t u t.size→qBf (bAt u (t.size:Int))=false→Has u t.size (w++(g++C))→Stop (bAt u ((t.size+(w.length+(g.length+C.length)):Nat):Int))→∃x,qCb u (valR u d) obj names a=.ok (t.size+(w.length+(g.length+C.length))) x:=by
 have fresh:∀l:List Int,own.length≤l.length→qAr l ∉ names:=fun l hl hm=>by
  have:=hnm _ hm;rw [qD5] at this;omega
 have nil0:∀o:List Int,some (o++([]:List Int).reverse)=some o:=fun o=>by simp
 unfold qCb at h;cases obj with
 | false =>
  rw [if_neg (by decide)] at h;split at h
  ·rename_i h1;cases h;obtain ⟨w,g,C,p1,p2,p3,p4,p5,p6⟩:=hd a ha h1;refine ⟨w,g,C,p1,p2,p3,p4,p5,fun u ag hnb hh hst=>?_⟩;obtain ⟨l,hl⟩:=p6 u ag hnb hh hst;refine ⟨(⟨#[]⟩,l),?_⟩;unfold qCb;rw [if_neg (by decide),hl]
  ·cases h
 | true =>
  rw [if_pos rfl] at h;split at h
  ·rename_i h34;have hal:=qAi (t:=t) (a:=a) (by omega);split at h
   ·
    rename_i h2;cases h;obtain ⟨w,hw,hg⟩:=quo_grow _ _ _ (by omega) h2;refine ⟨w,own++[34,58,48],[],hw,by simp [behL],by simp,Nat.zero_le _,fun o _=>?_,fun u ag hnb hh hst=>?_⟩
    ·rw [nil0,cl_quote hs hal h34,Bool.not_false,cl_quoBad hs (by omega) h2]
    ·have hlu:=ag.lu;have e1:w++(own++[34,58,48]++[])=(w++(own++[34]))++[58,48]:=by simp
     rw [e1,Has.append] at hh;obtain ⟨g1,g2,g3,_⟩:=hh;obtain ⟨l,hl,hll⟩:=hg u ag own hz g1 (u.size+1) (by omega);simp only [List.length_append,List.length_singleton,List.length_cons,List.length_nil] at g2 g3 hst ⊢;have hst':Stop (bAt u ((t.size+(w.length+(own.length+1))+1+1:Nat):Int)):=by
      rw [show t.size+(w.length+(own.length+1))+1+1=t.size+(w.length+(own.length+(0+1+1+1)+0)) by omega];exact hst
     obtain ⟨lv,hlv⟩:=val_zero d g3 hst';refine ⟨(qAr l,qD2 (qAr l) lv),?_⟩;unfold qCb;rw [←ag.same a hal,if_pos rfl,if_pos h34,hl];dsimp only;rw [if_neg (fresh l hll),skip_no (by rw [g2]; decide),if_pos g2,skip_no (by rw [g3]; decide),hlv];dsimp only;congr 1
   ·rename_i b1 l1 h2;have h3:=qDu h2 (by simp);have k1:=qAy t b1;have k2:=qAo t b1 h3.2.1;have hnl:=name_len h2;split at h
    ·cases h
    ·rename_i hnn;split at h
     ·rename_i h58;have hsl:=qAi (t:=t) (a:=qAm t b1) (by omega);have k3:=qAy t (qAm t b1+1);have k4:=qAo t (qAm t b1+1) (by omega);split at h
      ·
       rename_i h5;cases h;obtain ⟨w,g,C,p1,p2,p3,p4,p5,p6⟩:=hd _ k4 h5;refine ⟨w,g,C,p1,p2,p3,p4,fun o ho=>?_,fun u ag hnb hh hst=>?_⟩
       ·rw [cl_quote hs hal h34,Bool.not_false,cl_quoOk hs h2,qC0 hs _ b1 (Nat.le_refl _),qB8 hs hsl (by rw [h58]; unfold qEl; decide),qC0 hs _ (qAm t b1+1) (Nat.le_refl _)];exact p5 o ho
       ·have hlu:=ag.lu;obtain ⟨l,hl⟩:=p6 u ag hnb hh hst;refine ⟨(qAr l1,qD2 (qAr l1) l),?_⟩;unfold qCb;rw [←ag.same a hal,if_pos rfl,if_pos h34,(qCl ag (t.size+1) (u.size+1) (a+1) [] (by omega) (by omega)).1 _ _ h2 (by omega)];dsimp only;rw [if_neg hnn,qC7 ag hnb _ b1 (Nat.le_refl _) (by omega),←ag.same (qAm t b1) hsl,if_pos h58,qC7 ag hnb _ (qAm t b1+1) (Nat.le_refl _) (by omega),hl]
      ·cases h
     ·
      have hend:qAm t b1=t.size:=by simp only [Rd.bad.injEq] at h; exact h.2
      refine ⟨[],[58,48],[],by decide,by simp [behL],by simp,Nat.zero_le _,fun o _=>?_,fun u ag hnb hh hst=>?_⟩
      ·rw [nil0,cl_quote hs hal h34,Bool.not_false,cl_quoOk hs h2,qC0 hs _ b1 (Nat.le_refl _),hend,qD3 (Nat.le_refl _)]
      ·have hlu:=ag.lu;obtain ⟨g2,g3,_⟩:=hh;obtain ⟨lv,hlv⟩:=val_zero d g3 hst;refine ⟨(qAr l1,qD2 (qAr l1) lv),?_⟩;unfold qCb;rw [←ag.same a hal,if_pos rfl,if_pos h34,(qCl ag (t.size+1) (u.size+1) (a+1) [] (by omega) (by omega)).1 _ _ h2 (by omega)];dsimp only;rw [if_neg hnn,qC7 ag hnb _ b1 (Nat.le_refl _) (by omega),hend,if_pos g2,skip_no (by rw [g3]; decide),hlv];rfl
  ·
   rename_i h34;cases h;refine ⟨[],34::(own++[34,58,48]),[],by decide,by simp [behL],by simp,Nat.zero_le _,fun o _=>?_,fun u ag hnb hh hst=>?_⟩
   ·rw [nil0,qD3 (Nat.le_refl _)]
   ·have hlu:=ag.lu;have e1:([]:List Int)++(34::(own++[34,58,48])++[])=34::((own++[34])++[58,48]):=by simp
    rw [e1] at hh;obtain ⟨g0,hh⟩:=hh;rw [Has.append] at hh;obtain ⟨g1,g2,g3,_⟩:=hh;have hl:=z_run own (t.size+1) (u.size+1) [] hz g1 (by omega);rw [List.nil_append] at hl;simp only [List.length_append,List.length_singleton,List.length_cons,List.length_nil] at g2 g3 hst ⊢;have hst':Stop (bAt u ((t.size+1+(own.length+1)+1+1:Nat):Int)):=by
     rw [show t.size+1+(own.length+1)+1+1=t.size+(0+(own.length+(0+1+1+1)+1+0)) by omega];exact hst
    obtain ⟨lv,hlv⟩:=val_zero d g3 hst';refine ⟨(qAr own,qD2 (qAr own) lv),?_⟩;unfold qCb;rw [if_pos rfl,if_pos g0,hl];dsimp only;rw [if_neg (fresh own (Nat.le_refl _)),skip_no (by rw [g2]; decide),if_pos g2,skip_no (by rw [g3]; decide),hlv];dsimp only;congr 1
    omega
theorem row_grow {d:Nat} (hd:GrowAt t own d) {obj:Bool}:∀(m a k:Nat) (acc:List Eng.Node) (names:List BA),a≤t.size→t.size - a<m→(∀n∈names,n.size≤t.size)→rowR t (valR t d) obj m a k acc names=.bad 31 t.size →
  ∃w g C,w∈qFo∧g∈behL own∧(∀c∈C,c=93∨c=125)∧C.length≤d∧(∀o:List Int,o.length+(d+1)≤100→cl t false a (o++[qDo obj])=some (o++[qDo obj]++C.reverse)) ∧
   ∀u,Agree t u t.size→qBf (bAt u (t.size:Int))=false→Has u t.size (w++(g++(C++[qDo obj])))→∀m',u.size - a<m'→∃x,rowR u (valR u d) obj m' a k acc names=.ok (t.size+(w.length+(g.length+C.length))+1) x
 | 0,a,k,acc,names,ha,hm,_,_=>by omega
 | m+1,a,k,acc,names,ha,hm,hnm,h=>by
  have clo:=close_stop obj;have hlen1:∀o:List Int,o.length+(d+1)≤100→(o++[qDo obj]).length+d≤100:=fun o ho=>by rw [List.length_append,List.length_singleton]; omega
  unfold rowR at h;split at h
  ·rename_i h1;cases h;obtain ⟨w,g,C,p1,p2,p3,p4,p5,p6⟩:=item_grow hs hz hown hd hnm ha h1;refine ⟨w,g,C,p1,p2,p3,p4,fun o ho=>p5 _ (hlen1 o ho),fun u ag hnb hh m' hm'=>?_⟩;have e1:w++(g++(C++[qDo obj]))=(w++(g++C))++[qDo obj]:=by simp
   rw [e1,Has.append] at hh;obtain ⟨g1,g2,_⟩:=hh;simp only [List.length_append] at g2;obtain ⟨x,hx⟩:=p6 u ag hnb g1 (by rw [g2]; exact clo.1);cases m' with
   | zero=>omega
   | succ m' =>
    refine ⟨(k+1,acc++x.2),?_⟩;unfold rowR;rw [hx];dsimp only;rw [qDc (by rw [g2]; exact clo.2.1),if_pos g2]
  ·rename_i b1 y h1;have h2:=qEv (qBx t d) ha h1;have k1:=qAy t b1;have k2:=qAo t b1 h2.2.1;split at h
   ·cases h
   ·rename_i hnl;split at h
    ·rename_i h44;have hsl:=qAi (t:=t) (a:=qAm t b1) (by omega);have k3:=qAy t (qAm t b1+1);have k4:=qAo t (qAm t b1+1) (by omega);have hin:=item_name h1;obtain ⟨w,g,C,p1,p2,p3,p4,p5,p6⟩:=row_grow hd m _ (k+1) (acc++y.2) (names++[y.1]) k4 (by omega) (fun n hn=>by
      rcases List.mem_append.1 hn with hn | hn
      ·exact hnm n hn
      ·rw [List.mem_singleton.1 hn]; exact hin) h
     refine ⟨w,g,C,p1,p2,p3,p4,fun o ho=>?_,fun u ag hnb hh m' hm'=>?_⟩
     ·rw [cl_item hs (cl_val hs d) ha (hlen1 o ho) h1,qC0 hs _ b1 (Nat.le_refl _),qB8 hs hsl (by rw [h44]; unfold qEl; decide),qC0 hs _ (qAm t b1+1) (Nat.le_refl _)];exact p5 o ho
     ·have hlu:=ag.lu;cases m' with
      | zero=>omega
      | succ m' =>
       obtain ⟨x,hx⟩:=p6 u ag hnb hh m' (by omega);refine ⟨x,?_⟩;unfold rowR;rw [(itemR_like ag (qBx t d) (fun a ha=>qG0 ag d a ha) obj names ha).1 _ _ h1 (.inl (by omega))];dsimp only;rw [qC7 ag hnb _ b1 (Nat.le_refl _) (by omega),←ag.same (qAm t b1) hsl,if_neg hnl,if_pos h44,qC7 ag hnb _ (qAm t b1+1) (Nat.le_refl _) (by omega)];exact hx
    ·have hend:qAm t b1=t.size:=by simp only [Rd.bad.injEq] at h; exact h.2
     refine ⟨[],[],[],by decide,by simp [behL],by simp,Nat.zero_le _,fun o ho=>?_,fun u ag hnb hh m' hm'=>?_⟩
     ·rw [cl_item hs (cl_val hs d) ha (hlen1 o ho) h1,qC0 hs _ b1 (Nat.le_refl _),hend,qD3 (Nat.le_refl _)];simp
     ·have g2:bAt u (t.size:Int)=qDo obj:=hh.1;cases m' with
      | zero=>omega
      | succ m' =>
       refine ⟨(k+1,acc++y.2),?_⟩;have hok:OKto u t.size b1:=by
        rcases Nat.lt_or_ge b1 t.size with hlt | hge
        ·exact .inl hlt
        ·have hb:b1=t.size:=by omega
         exact .inr ⟨hb,by rw [hb,g2]; exact clo.1⟩
       unfold rowR;rw [(itemR_like ag (qBx t d) (fun a ha=>qG0 ag d a ha) obj names ha).1 _ _ h1 hok];dsimp only;rw [qC7 ag hnb _ b1 (Nat.le_refl _) (by omega),hend,if_pos g2];rfl
theorem val_grow:∀d,GrowAt t own d
 | 0=>fun a ha h=>by
  unfold valR at h;split at h
  ·cases h
  ·rename_i hn;obtain ⟨w,g,p1,p2,p3⟩:=scal_grow (own:=own) ha hn h;refine ⟨w,g,[],p1,p2,by simp,Nat.le_refl _,fun o _=>by rw [cl_scalBad hs h]; simp,fun u ag hnb hh hst=>?_⟩;rw [List.append_nil] at hh;obtain ⟨q1,l,q2⟩:=p3 u ag hh hst;refine ⟨l,?_⟩;unfold valR;rw [if_neg q1,q2];rfl
 | d+1=>fun a ha h=>by
  unfold valR at h;split at h
  ·rename_i hbr;have hal:=qAi (t:=t) (a:=a) (by omega);have k1:=qAy t (a+1);have k2:=qAo t (a+1) (by omega);have hop:bAt t (a:Int)=(if decide (bAt t (a:Int)=123)=true then 123 else 91):=by
    rcases hbr with h1 | h1 <;> rw [h1] <;> rfl
   generalize hob:decide (bAt t (a:Int)=123)=ob at h hop
   unfold boxR at h;split at h
   ·cases h
   ·split at h
    ·rename_i h3;cases h;obtain ⟨w,g,C,p1,p2,p3,p4,p5,p6⟩:=row_grow hs hz hown (val_grow d) _ _ _ _ _ k2 (by omega) (by simp) h3;refine ⟨w,g,C++[qDo ob],p1,p2,fun c hc=>?_,by rw [List.length_append,List.length_singleton]; omega,fun o ho=>?_,fun u ag hnb hh hst=>?_⟩
     ·rcases List.mem_append.1 hc with hc | hc
      ·exact p3 c hc
      ·rw [List.mem_singleton.1 hc];cases ob
       ·exact .inl rfl
       ·exact .inr rfl
     ·rw [cl_open hs ob hop (by omega),qC0 hs _ (a+1) (Nat.le_refl _),p5 o (by omega)];simp
     ·have hlu:=ag.lu;obtain ⟨x,hx⟩:=p6 u ag hnb hh (u.size+1) (by omega);refine ⟨nd0 (kindC ob) ⟨#[]⟩ false 0 x.1::x.2,?_⟩;have hnl:=row_close hx;unfold valR;rw [←ag.same a hal,if_pos hbr,hob];unfold boxR;rw [qC7 ag hnb _ (a+1) (Nat.le_refl _) (by omega),if_neg hnl,hx];dsimp only;congr 1
      rw [List.length_append,List.length_singleton];omega
    ·cases h
  ·rename_i hn;obtain ⟨w,g,p1,p2,p3⟩:=scal_grow (own:=own) ha hn h;refine ⟨w,g,[],p1,p2,by simp,Nat.zero_le _,fun o _=>by rw [cl_scalBad hs h]; simp,fun u ag hnb hh hst=>?_⟩;rw [List.append_nil] at hh;obtain ⟨q1,l,q2⟩:=p3 u ag hh hst;refine ⟨l,?_⟩;unfold valR;rw [if_neg q1,q2];rfl
theorem read_grow (h:qCx t=.bad 31 t.size):∃w g C,w∈qFo∧g∈behL own∧(∀c∈C,c=93∨c=125)∧C.length≤32∧cl t false 0 []=some C.reverse ∧
  ∀u,Agree t u t.size→qBf (bAt u (t.size:Int))=false→Has u t.size (w++(g++C))→u.size=t.size+(w.length+(g.length+C.length))→∃l,qCx u=.ok u.size l:=by
 have k2:=qAo t 0 (by omega);unfold qCx at h;split at h
 ·rename_i h1;cases h;obtain ⟨w,g,C,p1,p2,p3,p4,p5,p6⟩:=val_grow hs hz hown 32 _ k2 h1;refine ⟨w,g,C,p1,p2,p3,p4,?_,fun u ag hnb hh hsz=>?_⟩
  ·rw [qC0 hs _ 0 (Nat.le_refl _),p5 [] (by decide)];rfl
  ·obtain ⟨l,hl⟩:=p6 u ag hnb hh (by rw [qB0 (by omega)]; unfold Stop; decide);refine ⟨l,?_⟩;have h1:=qAo u u.size (Nat.le_refl _);have h2:=qAy u u.size;have h3:qAm u u.size=u.size:=by omega
   unfold qCx;rw [qC7 ag hnb _ 0 (Nat.le_refl _) (by omega),hl];dsimp only;rw [←hsz,h3,if_neg (by omega)]
 ·split at h
  ·simp only [Rd.bad.injEq] at h;omega
  ·cases h
omit hz hown in
theorem read_open {b:Nat} {l:List Eng.Node} (h:qCx t=.ok b l):cl t false 0 []=some []:=by
 have k2:=qAo t 0 (by omega);unfold qCx at h;split at h
 ·cases h
 ·rename_i b1 l1 h1;have h2:=qBx t 32 _ _ _ k2 h1;split at h
  ·cases h
  ·rw [qC0 hs _ 0 (Nat.le_refl _),cl_val hs 32 _ _ _ [] k2 (by decide) h1,qC0 hs _ b1 (Nat.le_refl _),qD3 (by omega)]
end
end Go.Proofs.YtdcoiccdbgcpaaaDoor
namespace Go.Proofs.YtdcoiccdbgcpaaaDoor
open Go.Eng
set_option linter.unusedVariables false
set_option linter.unusedSimpArgs false
def qG8:List Eng.Node:=[nd0 7 ⟨#[]⟩ false 0 1,⟨6,⟨#[97]⟩,⟨#[]⟩,false,0,2⟩,nd0 4 ⟨#[49]⟩ true 1 0,nd0 5 ⟨#[195,169]⟩ false 0 0]
def aliveT:BA:=⟨#[32,123,34,97,34,58,91,49,44,34,92,117,48,48,101,57,34,93,125,32]⟩
theorem alive_read:qCx aliveT=.ok 20 qG8:=by kernel_rfl
theorem alive_parse:qD0 aliveT=(qG8,0,0):=by
 unfold qD0;rw [if_neg (by decide),alive_read];rfl
theorem alive_ok:OkL qG8:=⟨by decide,fun n hn=>by
 simp only [qG8,List.mem_cons,List.not_mem_nil,or_false] at hn;rcases hn with rfl | rfl | rfl | rfl <;> exact ⟨by decide,by decide,by unfold qAh; decide⟩⟩
theorem alive_shape:oneS qG8 32 false 0=some 4:=by
 rw [oneS_C alive_ok];kernel_rfl
theorem alive_text:qE0 qG8 32 0=[123,34,97,34,58,91,49,44,34,195,169,34,93,125]:=by
 rw [prOne_C alive_ok];kernel_rfl
theorem alive_print:zak_s qG8=some ((⟨#[123,34,97,34,58,91,49,44,34,195,169,34,93,125]⟩:BA),0):=by
 rw [p_Print alive_ok,alive_shape,if_pos (show some 4=some qG8.length from rfl),alive_text,if_neg (by decide)];rfl
theorem alive_tree:Tree qG8 0 4:=readR_tree alive_read
theorem alive_member:zai_s qG8 0 (⟨#[97]⟩:BA)=some 1:=by
 obtain ⟨nd,h1,h2,h3⟩:=alive_tree.node;obtain rfl:nd=nd0 7 ⟨#[]⟩ false 0 1:=by cases h1; rfl
 obtain ⟨l,hl⟩:=h3.places;have:=(member_find (by decide) h1 h2 h3 hl (⟨#[97]⟩:BA)).1;rw [show ((0:Nat):Int)=0 from rfl] at this;rw [this,if_pos (show (nd0 7 ⟨#[]⟩ false 0 1).kind=7 from rfl)];obtain ⟨b,r,rfl,g1,g2⟩:=hl;show some (memI (if (qG8.getD 1 (ET.dft .node)).key=⟨#[97]⟩ then some 1 else _))=_;rw [if_pos (show (qG8.getD 1 (ET.dft .node)).key=⟨#[97]⟩ from rfl)];rfl
theorem alive_is:zbl_s=some true:=by
 unfold zbl_s;rw [show (⟨#[32,123,34,97,34,58,91,49,44,34,92,117,48,48,101,57,34,93,125,32]⟩:BA)=aliveT from rfl,p_Parse,obS,alive_parse];dsimp only;rw [alive_print,obS];dsimp only;have hl:qG8.length=4:=rfl;refine (qAa (fun _=>by rw [hl]; decide) _).trans ((qAa (fun _=>by rw [hl]; decide) _).trans ((qAa (fun _=>by rw [hl]; decide) _).trans ((qAa (fun _=>by rw [hl]; decide) _).trans ((qAa (fun _=>by rw [hl]; decide) _).trans ((qAa (fun _=>by rw [hl]; decide) _).trans ((qAa (fun _=>by rw [hl]; decide) _).trans ((qAa (fun _=>by rw [hl]; decide) _).trans ((qAa (fun _=>by rw [hl]; decide) _).trans ?_))))))));rw [alive_member,obS,deT rfl];kernel_rfl
end Go.Proofs.YtdcoiccdbgcpaaaDoor
