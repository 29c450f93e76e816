/-
  The place behind a value, what stands in it, its members: the program's answers and the document's, of trees. No program.
-/
import Derived.Test.YtbokbmjcodoccacDoorJP
set_option linter.unusedSimpArgs false
set_option linter.unusedVariables false
namespace Go.Proofs.YtbokbmjcodoccacDoor
open Go.Eng
variable (st:Int) (out:List Eng.Node) (op:List Int) (nm:List (MapC × Unit)) (key:BA) (cd bd:Int)
def nextC(t:BA)(a:Nat):Int:=if a<t.size then bAt t a else 0
theorem qE4(t:BA)(a:Nat):zbc_s ⟨t,(a:Int),st,out,op,nm,key,cd,bd⟩=some (nextC t a):=by
 unfold zbc_s nextC;dsimp only;by_cases h:a<t.size
 ·rw[deT (by omega),cnT,qAb (by omega),if_pos h]
 ·rw[deF (by omega),cnF,if_neg h]
theorem qEr{t:BA}{a:Nat}{c:Int}(hc:0<c):nextC t a=c↔bAt t a=c:=by
 unfold nextC;split
 ·exact Iff.rfl
 ·rw[qB4 (by omega)];omega
theorem p_odd(r:json_reader):zbe_s r=some (⟨r.text,r.at_,r.state,r.out,r.open_,r.names,r.key,31,r.at_⟩,false):=rfl
theorem p_fail(r:json_reader)(c b:Int):zax_s r c b=some (⟨r.text,r.at_,r.state,r.out,r.open_,r.names,r.key,c,b⟩,false):=rfl
theorem p_behind(r:json_reader):zas_s r=some ⟨r.text,r.at_,if r.open_.length=0 then 6 else 5,r.out,r.open_,r.names,r.key,r.code,r.bad⟩:=by
 unfold zas_s;by_cases h:r.open_.length=0
 ·rw[deT (by omega),cnT,if_pos h]
 ·rw[deF (by omega),cnF,if_neg h]
theorem p_blank0(t:BA)(hs:t.size<=3000000)(a:Nat):zat_p0 t (a:Int)=some (qAz t a:Int):=by
 have hst:qFc t (a:Int)=some (if qDo (bAt t a)=true then .inl ((a+1:Nat):Int) else .inr (a:Int)):=by
  unfold qFc;have h:(decide ((a:Int)<(t.size:Int)))=true->0<=(a:Int)/\(a:Int)<t.size:=λh=>⟨by omega,of_decide_eq_true h⟩
  rw[qAb h,qAb (λ_=>h),qAb (λ_=>h),qAb (λ_=>h),blank_cond];cases hb:qDo (bAt t a) with
  | true =>
   have:=qDq hb;rw[cnT,if_pos rfl,qAb (by unfold qAc;omega)];rfl
  | false=>rw[cnF,if_neg (by simp)]
 unfold zat_p0;by_cases h:qDo (bAt t a)=true
 ·rw[if_pos h] at hst;rw[qAm hst,skipS_yes h];exact p_blank0 t hs (a+1)
 ·rw[if_neg h] at hst;rw[qAg hst,skipS_no (by simpa using h)]
termination_by t.size - a
decreasing_by have:=qDq h;omega
theorem p_blank(t:BA)(hs:t.size<=3000000)(a:Nat):zat_s ⟨t,(a:Int),st,out,op,nm,key,cd,bd⟩=some ⟨t,(qAz t a:Int),st,out,op,nm,key,cd,bd⟩:=by
 unfold zat_s;dsimp only;rw[p_blank0 t hs];rfl
theorem next_dig(t:BA)(a:Nat):(decide ((48:Int)<=nextC t a) && decide (nextC t a<=(57:Int)))=digS t a:=by
 unfold nextC digS;split
 ·rfl
 ·rw[qB4 (by omega)];rfl
theorem p_dig0(t:BA)(hs:t.size<=3000000)(a:Nat):zau_p0 (nextC t a) t (a:Int) st key cd bd out op nm=some (qE2 t a:Int):=by
 have hst:qFd (nextC t a) t (a:Int) st key cd bd out op nm=some (if digS t a=true then .inl (nextC t (a+1),((a+1:Nat):Int)) else .inr (a:Int)):=by
  unfold qFd;rw[next_dig];cases hb:digS t a with
  | true =>
   have:=digS_lt hb;rw[cnT,if_pos rfl,qAb (by unfold qAc;omega),show(a:Int)+1=((a+1:Nat):Int) by omega,qE4];rfl
  | false=>rw[cnF,if_neg (by simp)]
 unfold zau_p0;by_cases h:digS t a=true
 ·rw[if_pos h] at hst;rw[qAm hst,qE3 h];exact p_dig0 t hs (a+1)
 ·rw[if_neg h] at hst;rw[qAg hst,manyS_no (by simpa using h)]
termination_by t.size - a
decreasing_by have:=digS_lt h;omega
def digP(t:BA)(a:Nat)(r:Rd Unit):json_reader × Bool:=match r with
 | .bad c b=>(⟨t,(b:Int),st,out,op,nm,key,c,(b:Int)⟩,false)
 | .ok b _=>(⟨t,(b:Int),st,out,op,nm,key,cd,bd⟩,true)
theorem p_dig(t:BA)(hs:t.size<=3000000)(a:Nat):zau_s ⟨t,(a:Int),st,out,op,nm,key,cd,bd⟩=some (digP st out op nm key cd bd t a (digR t a)):=by
 unfold zau_s digR;rw[qE4,obS];have hd:=next_dig t a;by_cases h:digS t a=true
 ·rw[h] at hd;simp only[Bool.and_eq_true,decide_eq_true_eq] at hd;have h1:qE2 t a≠a:=by
   rw[qE3 h];have:=manyS_ge t (a+1);omega
  rw[deF (by omega),deF (by omega),Bool.or_false,cnF,obS,p_dig0 st out op nm key cd bd t hs,if_neg h1];rfl
 ·have h1:qE2 t a=a:=manyS_no (by simpa using h);rw[if_pos h1,qBw (p:=True) (by
   have:¬(48<=nextC t a/\nextC t a<=57):=by
    intro h2;rw[deT h2.1,deT h2.2] at hd;exact h hd.symm
   simp only[Bool.or_eq_true,decide_eq_true_eq,iff_true];omega),if_pos trivial,p_odd]
  rfl
theorem j_digit(c:Int)(h:0<=c/\c<=255):zaq_s c=some (if hexS c<0 then(0,false) else(hexS c,true)):=by
 unfold zaq_s hexS;rw[qBw (p:=48<=c/\c<=57) (by simp),qBw (p:=97<=c/\c<=102) (by simp),qBw (p:=65<=c/\c<=70) (by simp)];by_cases h1:48<=c/\c<=57
 ·rw[if_pos h1,if_pos h1,u8_mod' (by omega),qAb (by unfold qCh;omega),if_neg (by omega)]
 ·rw[if_neg h1,if_neg h1];by_cases h2:97<=c/\c<=102
  ·rw[if_pos h2,if_pos h2,u8_mod' (by omega),qAb (by unfold qCh;omega),qAb (by unfold qCh;omega),if_neg (by omega)]
  ·rw[if_neg h2,if_neg h2];by_cases h3:65<=c/\c<=70
   ·rw[if_pos h3,if_pos h3,u8_mod' (by omega),qAb (by unfold qCh;omega),qAb (by unfold qCh;omega),if_neg (by omega)]
   ·rw[if_neg h3,if_neg h3,if_pos (by decide)]
theorem or_low{u d:Int}(hu:0<=u/\u<=100000)(hd:0<=d/\d<16):qBm .i32 (u*16) d=16*u+d:=by
 obtain⟨n,rfl⟩:=Int.eq_ofNat_of_zero_le hu.1;obtain⟨m,rfl⟩:=Int.eq_ofNat_of_zero_le hd.1;rw[show(n:Int)*16=((2 ^ 4*n:Nat):Int) by omega];have h1:(BitVec.ofInt 32 ((2 ^ 4*n:Nat):Int)).toNat=2 ^ 4*n:=by
  rw[BitVec.ofInt_natCast,BitVec.toNat_ofNat,Nat.mod_eq_of_lt (by omega)]
 have h2:(BitVec.ofInt 32 (m:Int)).toNat=m:=by
  rw[BitVec.ofInt_natCast,BitVec.toNat_ofNat,Nat.mod_eq_of_lt (by omega)]
 unfold qBm;show IntKind.i32.wrap ((BitVec.ofInt 32 ((2 ^ 4*n:Nat):Int) ||| BitVec.ofInt 32 (m:Int)).toNat:Int)=_
 have h3:=Nat.two_pow_add_eq_or_of_lt (i:=4) (b:=m) (by omega) n;rw[BitVec.toNat_or,h1,h2,<-h3];unfold IntKind.wrap;have h4:(((2 ^ 4*n+m:Nat):Int) % (2 ^ IntKind.i32.bits:Int))=((2 ^ 4*n+m:Nat):Int):=by
  show(((2 ^ 4*n+m:Nat):Int) % 4294967296)=_;omega
 dsimp only;rw[h4,if_neg (by
  simp only[Bool.and_eq_true,decide_eq_true_eq,not_and];intro _;show ¬(((2 ^ 4*n+m:Nat):Int)≥2147483648);omega)]
 omega
theorem p_unit1(t:BA)(a f:Int)(x:Bool):zbj_p1 f x t a st key cd bd out op nm=some (if x=true then .inl (0,false,t,a,st,key,33,f,nm) else .inr ()):=by
 unfold zbj_p1;cases x with
 | true=>rfl
 | false=>rfl
theorem p_unit0(t:BA)(hs:t.size<=3000000)(low:Bool)(f a:Nat):∀(m i:Nat) (u:Int),i+m=4->a+i<=t.size->0<=u/\u<16 ^ i->∃e:Int,zbj_p0 (f:Int) low u (i:Int) t ((a+i:Nat):Int) st key cd bd out op nm=some (match fourR t low f m i (a+i) u with
  | .bad c b=>.inl (0,false,t,e,st,key,c,(b:Int),nm)
  | .ok b w=>.inr (w,(b:Int)))
 | 0,i,u,h,ha,hu=>by
  refine⟨0,?_⟩;unfold zbj_p0;refine qAg ?_;show qBz (f:Int) low u (i:Int) t ((a+i:Nat):Int) st key cd bd out op nm=_;unfold qBz;rw[deF (by omega),cnF];rfl
 | m+1,i,u,h,ha,hu=>by
  have e1:∀ {x},qBz (f:Int) low u (i:Int) t ((a+i:Nat):Int) st key cd bd out op nm=some (.inr x)->zbj_p0 (f:Int) low u (i:Int) t ((a+i:Nat):Int) st key cd bd out op nm=some x:=λh=>qAg h
  have e2:∀ {u' i' a':Int},qBz (f:Int) low u (i:Int) t ((a+i:Nat):Int) st key cd bd out op nm=some (.inl (u',i',a'))->zbj_p0 (f:Int) low u (i:Int) t ((a+i:Nat):Int) st key cd bd out op nm=zbj_p0 (f:Int) low u' i' t a' st key cd bd out op nm:=λh=>qAm h
  have hp:(16:Int) ^ i<=16 ^ 3:=by
   have:i=0\/i=1\/i=2\/i=3:=by omega
   rcases this with h | h | h | h <;> subst h <;> decide
  have hp':(16:Int) ^ (i+1)=16 ^ i*16:=Int.pow_succ 16 i;unfold fourR;by_cases h1:a+i=t.size
  ·have hb:bAt t (a+i:Nat) = -1:=qB4 (by omega);rw[if_pos (by omega)];refine⟨((a+i:Nat):Int),e1 ?_⟩;unfold qBz;rw[deT (by omega),cnT,deT (by omega),cnT,p_odd,obS];rw[h1]
  ·have hb:=bAt_nn (s:=t) (i:=(a+i:Nat)) (by omega) (by omega);have hb':=bAt_range t (a+i:Nat);have hd:=qGg (bAt t (a+i:Nat));rw[if_neg (by omega)];have hst:qBz (f:Int) low u (i:Int) t ((a+i:Nat):Int) st key cd bd out op nm=some (if hexBad low i u (hexS (bAt t (a+i:Nat))) then .inr (.inl (0,false,t,((a+i:Nat):Int),st,key,33,(f:Int),nm)) else .inl (16*u+hexS (bAt t (a+i:Nat)),((i+1:Nat):Int),((a+(i+1):Nat):Int))):=by
    unfold qBz;rw[deT (by omega),cnT,deF (by omega),cnF,qAb (by omega),j_digit _ (by omega),obS];generalize hexS (bAt t (a+i:Nat))=d at *
    have e0:decide ((i:Int)=0)=decide (i=0):=decide_eq_decide.2 (by omega);have e1:decide ((i:Int)=1)=decide (i=1):=decide_eq_decide.2 (by omega);have ec:(a+i:Nat)+(1:Int)=((a+(i+1):Nat):Int):=by omega
    by_cases h2:d<0
    ·rw[if_pos h2];dsimp only;rw[Bool.not_false,cnT,p_unit1,if_pos (show true=true from rfl),if_pos (by unfold hexBad;exact .inl h2)];rfl
    ·rw[if_neg h2];dsimp only;rw[Bool.not_true,cnF,e0,e1];have tail:((gd (0<=(4:Int)) <| gd (qCh (u*16)) <| gd (qAc (((a+i:Nat):Int)+(1:Int))) <| gd (qAc ((i:Int)+(1:Int))) <|
      some (Sum.inl ((qBm .i32 (u*16) d),((i:Int)+(1:Int)),(((a+i:Nat):Int)+(1:Int))))):Option ((Int × Int × Int) ⊕ ((Int × Bool × BA × Int × Int × BA × Int × Int × (List (MapC × Unit))) ⊕ (Int × Int))))=some (.inl (16*u+d,((i+1:Nat):Int),((a+(i+1):Nat):Int))):=by
      rw[qAb (by omega),qAb (by unfold qCh;omega),qAb (by unfold qAc;omega),qAb (by unfold qAc;omega),or_low (by omega) (by omega),ec];rfl
     rw[qBw (p:=low=true/\i=0/\d≠13) (by
      simp only[Bool.and_eq_true,Bool.not_eq_true',decide_eq_true_eq,decide_eq_false_iff_not];constructor
      ·rintro ⟨⟨x1,x2⟩,x3⟩;exact⟨x2,x1,x3⟩
      ·rintro ⟨x1,x2,x3⟩;exact⟨⟨x2,x1⟩,x3⟩)]
     by_cases h3:low=true/\i=0/\d≠13
     ·rw[if_pos h3,deT h3.2.1,h3.1,deF h3.2.2];show((zbj_p1 (f:Int) true t ((a+i:Nat):Int) st key cd bd out op nm).bind _)=_;rw[p_unit1,if_pos (show true=true from rfl),if_pos (by unfold hexBad;exact .inr (.inl ⟨rfl,.inl h3.2⟩))];rfl
     ·rw[if_neg h3,qBw (p:=low=true/\i=1/\d<12) (by
       simp only[Bool.and_eq_true,Bool.not_eq_true',decide_eq_true_eq,decide_eq_false_iff_not];constructor
       ·rintro ⟨⟨x1,x2⟩,x3⟩;exact⟨x2,x1,x3⟩
       ·rintro ⟨x1,x2,x3⟩;exact⟨⟨x2,x1⟩,x3⟩)]
      by_cases h4:low=true/\i=1/\d<12
      ·rw[if_pos h4,deT h4.2.1,h4.1,deT h4.2.2];show((zbj_p1 (f:Int) true t ((a+i:Nat):Int) st key cd bd out op nm).bind _)=_;rw[p_unit1,if_pos (show true=true from rfl),if_pos (by unfold hexBad;exact .inr (.inl ⟨rfl,.inr h4.2⟩))];rfl
      ·rw[if_neg h4,p_unit1,obS];by_cases h5:low=false/\i=1/\u=13/\12<=d
       ·rw[if_pos (by rw[h5.1,deT h5.2.1,deT h5.2.2.1,deT h5.2.2.2];rfl),if_pos (by unfold hexBad;exact .inr (.inr h5))];rfl
       ·rw[if_neg (by
         intro h6;simp only[Bool.and_eq_true,Bool.not_eq_true',decide_eq_true_eq] at h6;exact h5 ⟨h6.1.1.2,h6.1.1.1,h6.1.2,h6.2⟩),if_neg (by
         unfold hexBad;rintro (h6 | ⟨h6,h7 | h7⟩ | h6)
         ·exact h2 h6
         ·exact h3 ⟨h6,h7⟩
         ·exact h4 ⟨h6,h7⟩
         ·exact h5 h6)]
        exact tail
   by_cases h3:hexBad low i u (hexS (bAt t (a+i:Nat)))
   ·rw[if_pos h3] at hst ⊢;exact⟨_,e1 hst⟩
   ·rw[if_neg h3] at hst ⊢;have h0:0<=hexS (bAt t (a+i:Nat)):=by
     unfold hexBad at h3;simp only[not_or] at h3;omega
    rw[e2 hst];exact p_unit0 t hs low f a m (i+1) _ (by omega) (by omega) (by omega)
def unitP(t:BA)(e:Int)(r:Rd Int):json_reader × Int × Bool:=match r with
 | .bad c b=>(⟨t,e,st,out,op,nm,key,c,(b:Int)⟩,0,false)
 | .ok b u=>(⟨t,(b:Int),st,out,op,nm,key,cd,bd⟩,u,true)
theorem p_unit(t:BA)(hs:t.size<=3000000)(low:Bool)(f a:Nat)(ha:a<=t.size):∃e:Int,zbj_s ⟨t,(a:Int),st,out,op,nm,key,cd,bd⟩ (f:Int) low=some (unitP st out op nm key cd bd t e (fourR t low f 4 0 a 0)):=by
 obtain⟨e,he⟩:=p_unit0 st out op nm key cd bd t hs low f a 4 0 0 rfl (by omega) (by decide);refine⟨e,?_⟩;unfold zbj_s;rw[Nat.add_zero] at he;dsimp only;rw[show((0:Nat):Int)=0 from rfl] at he;rw[he,obS];cases fourR t low f 4 0 a 0 with
 | bad c b=>rfl
 | ok b u=>rfl
theorem p_pt0(t:BA)(hs:t.size<=3000000)(f a:Nat)(ha:a<=t.size):∃e:Int,zbf_p0 (f:Int) 2 0 t (a:Int) st key cd bd out op nm [92,117]=some (
  if bAt t a<0 then .inl (0,false,t,e,st,key,31,(t.size:Int),nm)
  else if bAt t a≠92 then .inl (0,false,t,e,st,key,33,(f:Int),nm)
  else if bAt t (a+1:Nat)<0 then .inl (0,false,t,e,st,key,31,(t.size:Int),nm)
  else if bAt t (a+1:Nat)≠117 then .inl (0,false,t,e,st,key,33,(f:Int),nm)
  else .inr ((a+2:Nat):Int)):=by
 have e1:∀ {i b:Int} {x},qCp (f:Int) 2 i t b st key cd bd out op nm [92,117]=some (.inr x)->zbf_p0 (f:Int) 2 i t b st key cd bd out op nm [92,117]=some x:=λh=>qAg h
 have e2:∀ {i b j b':Int},qCp (f:Int) 2 i t b st key cd bd out op nm [92,117]=some (.inl (j,b'))->zbf_p0 (f:Int) 2 i t b st key cd bd out op nm [92,117]=zbf_p0 (f:Int) 2 j t b' st key cd bd out op nm [92,117]:=λh=>qAm h
 have hst:∀i b:Nat,i<2->b<=t.size->qCp (f:Int) 2 (i:Int) t (b:Int) st key cd bd out op nm [92,117]=some (if bAt t b<0 then .inr (.inl (0,false,t,(b:Int),st,key,31,(t.size:Int),nm))
   else if bAt t b≠(if i=0 then 92 else 117) then .inr (.inl (0,false,t,(b:Int),st,key,33,(f:Int),nm)) else .inl (((i+1:Nat):Int),((b+1:Nat):Int))):=by
  intro i b hi hb;unfold qCp;rw[deT (by omega),cnT,qAb (by simp only[List.length_cons,List.length_nil];omega),qAb (by simp only[List.length_cons,List.length_nil];omega),Int.toNat_natCast];have hg:([92,117]:List Int).getD i (ET.dft .u8)=if i=0 then 92 else 117:=by
   have:i=0\/i=1:=by omega
   rcases this with rfl | rfl <;> rfl
  rw[hg];by_cases h1:b=t.size
  ·have hb:bAt t b = -1:=qB4 (by omega);rw[if_pos (show bAt t b<0 by omega),deT (show(b:Int)=t.size by omega),cnT,p_odd,obS];subst h1;rfl
  ·have hb:=bAt_nn (s:=t) (i:=b) (by omega) (by omega);rw[if_neg (show ¬bAt t b<0 by omega),deF (show ¬(b:Int)=t.size by omega),cnF,qAb (by omega)];by_cases h2:bAt t b=(if i=0 then 92 else 117)
   ·rw[deT h2,Bool.not_true,cnF,if_neg (λh=>h h2),qAb (by unfold qAc;omega),qAb (by unfold qAc;omega)];rfl
   ·rw[deF h2,Bool.not_false,cnT,if_pos h2];rfl
 have h0:=hst 0 a (by decide) ha;rw[show((0:Nat):Int)=0 from rfl,if_pos (show(0:Nat)=0 from rfl)] at h0;by_cases c0:bAt t a<0
 ·rw[if_pos c0] at h0;exact⟨_,by rw[if_pos c0];exact e1 h0⟩
 ·rw[if_neg c0] at h0;simp only[if_neg c0];by_cases c1:bAt t a≠92
  ·rw[if_pos c1] at h0;exact⟨_,by rw[if_pos c1];exact e1 h0⟩
  ·rw[if_neg c1] at h0;simp only[if_neg c1];have hl:=qBp (t:=t) (a:=a) (by omega);have h1:=hst 1 (a+1) (by decide) (by omega);rw[if_neg (show ¬(1:Nat)=0 by decide)] at h1;rw[e2 h0];by_cases c2:bAt t (a+1:Nat)<0
   ·rw[if_pos c2] at h1;exact⟨_,by rw[if_pos c2];exact e1 h1⟩
   ·rw[if_neg c2] at h1;simp only[if_neg c2];by_cases c3:bAt t (a+1:Nat)≠117
    ·rw[if_pos c3] at h1;exact⟨_,by rw[if_pos c3];exact e1 h1⟩
    ·rw[if_neg c3] at h1;refine⟨0,?_⟩;rw[if_neg c3];refine(e2 h1).trans (e1 ?_);unfold qCp;rfl
def saysP(t:BA)(g:json_reader × Int × Bool)(r:Rd Int):Prop:=match r with
 | .bad c b=>g.1.code=c/\g.1.bad=(b:Int)/\g.2.2=false
 | .ok b u=>g=(⟨t,(b:Int),st,out,op,nm,key,cd,bd⟩,u,true)
theorem p_point(t:BA)(hs:t.size<=3000000)(f:Nat)(hf:f+2<=t.size):∃g,zbf_s ⟨t,((f+2:Nat):Int),st,out,op,nm,key,cd,bd⟩ (f:Int)=some g/\saysP st out op nm key cd bd t g (match fourR t false f 4 0 (f+2) 0 with
  | .bad c b=>.bad c b
  | .ok b u=>if u<55296\/57343<u then .ok b u else pairR t f b u):=by
 unfold zbf_s;obtain⟨e,he⟩:=p_unit st out op nm key cd bd t hs false f (f+2) hf;rw[he,obS];cases h7:fourR t false f 4 0 (f+2) 0 with
 | bad k b=>exact⟨_,rfl,rfl,rfl,rfl⟩
 | ok b u =>
  have h8:=fourR_ok h7;have h10:=h8.2.2.2.2.2 rfl;show ∃g,(bif(((!true) || decide (u<55296)) || decide (57343<u)) then _ else _)=_/\_
  rw[qBw (p:=u<55296\/57343<u) (by simp)];dsimp only [unitP];by_cases h9:u<55296\/57343<u
  ·rw[if_pos h9,if_pos h9];exact⟨_,rfl,rfl⟩
  ·rw[if_neg h9,if_neg h9,qAb (by decide)];obtain⟨e,he⟩:=p_pt0 st out op nm key cd bd t hs f b h8.2.1;rw[show(([(92:Int),(117:Int)].length:Int))=2 from rfl,he,obS];unfold pairR;by_cases c0:bAt t b<0
   ·rw[if_pos c0,if_pos c0];exact⟨_,rfl,rfl,rfl,rfl⟩
   rw[if_neg c0,if_neg c0];by_cases c1:bAt t b≠92
   ·rw[if_pos c1,if_pos c1];exact⟨_,rfl,rfl,rfl,rfl⟩
   rw[if_neg c1,if_neg c1];by_cases c2:bAt t (b+1:Nat)<0
   ·rw[if_pos c2,if_pos c2];exact⟨_,rfl,rfl,rfl,rfl⟩
   rw[if_neg c2,if_neg c2];by_cases c3:bAt t (b+1:Nat)≠117
   ·rw[if_pos c3,if_pos c3];exact⟨_,rfl,rfl,rfl,rfl⟩
   rw[if_neg c3,if_neg c3];have hl2:=qBp (t:=t) (a:=b+1) (by omega);simp only[Sum.elim_inr];obtain⟨e2,he2⟩:=p_unit st out op nm key cd bd t hs true f (b+2) (by omega);rw[he2,obS];cases h11:fourR t true f 4 0 (b+2) 0 with
   | bad k e =>
    simp only[unitP];rw[qAb (by unfold qCh;omega),qAb (by omega),qAb (by unfold qCh;omega),qAb (by unfold qCh;omega),qAb (by unfold qCh;omega),qAb (by unfold qCh;omega)];exact⟨_,rfl,rfl,rfl,rfl⟩
   | ok e w =>
    have h12:=fourR_ok h11;have h13:=h12.2.2.2.2.1 rfl;simp only[unitP];rw[qAb (by unfold qCh;omega),qAb (by omega),qAb (by unfold qCh;omega),qAb (by unfold qCh;omega),qAb (by unfold qCh;omega),qAb (by unfold qCh;omega)];refine⟨_,rfl,?_⟩;simp only[saysP];rw[show(65536:Int)+(u - 55296)*1024+(w - 56320)=65536+1024*(u - 55296)+w - 56320 by omega]
theorem p_esc0(c:Int)(a:Nat)(ha:a<=3000000):zaw_p0 c 34 34 92 92 47 47 98 8 102 12 110 10 114 13 116 9 0 (a:Int)=some (if saidS c<0 then .inr () else .inl (saidS c,true,((a+1:Nat):Int))):=by
 have e1:∀ {i:Int} {x},qCo c 34 34 92 92 47 47 98 8 102 12 110 10 114 13 116 9 i (a:Int)=some (.inr x)->zaw_p0 c 34 34 92 92 47 47 98 8 102 12 110 10 114 13 116 9 i (a:Int)=some x:=λh=>qAg h
 have e2:∀ {i j:Int},qCo c 34 34 92 92 47 47 98 8 102 12 110 10 114 13 116 9 i (a:Int)=some (.inl j)->zaw_p0 c 34 34 92 92 47 47 98 8 102 12 110 10 114 13 116 9 i (a:Int)=zaw_p0 c 34 34 92 92 47 47 98 8 102 12 110 10 114 13 116 9 j (a:Int):=λh=>qAm h
 have key:∀(n:Nat),n<8->∀(x y:Int),([34,34,92,92,47,47,98,8,102,12,110,10,114,13,116,9]:List Int).getD (n*2) 0=x->([34,34,92,92,47,47,98,8,102,12,110,10,114,13,116,9]:List Int).getD (n*2+1) 0=y->0<=y/\y<128 ->
   qCo c 34 34 92 92 47 47 98 8 102 12 110 10 114 13 116 9 (n:Int) (a:Int)=some (if c=x then .inr (.inl (y,true,((a+1:Nat):Int))) else .inl ((n+1:Nat):Int)):=by
  intro n hn x y hx hy hr;unfold qCo;rw[deT (by omega),cnT,qAb (by omega),Int.toNat_natCast,Nat.add_zero,hx,hy];by_cases h:c=x
  ·rw[deT h,cnT,if_pos h,qAb (by unfold qAc;omega),qAb (by unfold qCh;omega)];rfl
  ·rw[deF h,cnF,if_neg h,qAb (by unfold qAc;omega)];rfl
 have k0:=key 0 (by decide) 34 34 rfl rfl (by decide);have k1:=key 1 (by decide) 92 92 rfl rfl (by decide);have k2:=key 2 (by decide) 47 47 rfl rfl (by decide);have k3:=key 3 (by decide) 98 8 rfl rfl (by decide);have k4:=key 4 (by decide) 102 12 rfl rfl (by decide);have k5:=key 5 (by decide) 110 10 rfl rfl (by decide);have k6:=key 6 (by decide) 114 13 rfl rfl (by decide);have k7:=key 7 (by decide) 116 9 rfl rfl (by decide);rw[show((0:Nat):Int)=0 from rfl] at k0;unfold saidS;by_cases h0:c=34
 ·rw[if_pos h0] at k0;rw[e1 k0,h0];rfl
 rw[if_neg h0] at k0;rw[e2 k0];by_cases h1:c=92
 ·rw[if_pos h1] at k1;rw[show((0+1:Nat):Int)=((1:Nat):Int) from rfl,e1 k1,h1];rfl
 rw[if_neg h1] at k1;rw[show((0+1:Nat):Int)=((1:Nat):Int) from rfl,e2 k1];by_cases h2:c=47
 ·rw[if_pos h2] at k2;rw[show((1+1:Nat):Int)=((2:Nat):Int) from rfl,e1 k2,h2];rfl
 rw[if_neg h2] at k2;rw[show((1+1:Nat):Int)=((2:Nat):Int) from rfl,e2 k2,if_neg (show ¬(c=34\/c=92\/c=47) by omega)];by_cases h3:c=98
 ·rw[if_pos h3] at k3;rw[show((2+1:Nat):Int)=((3:Nat):Int) from rfl,e1 k3,h3];rfl
 rw[if_neg h3] at k3;rw[show((2+1:Nat):Int)=((3:Nat):Int) from rfl,e2 k3,if_neg h3];by_cases h4:c=102
 ·rw[if_pos h4] at k4;rw[show((3+1:Nat):Int)=((4:Nat):Int) from rfl,e1 k4,h4];rfl
 rw[if_neg h4] at k4;rw[show((3+1:Nat):Int)=((4:Nat):Int) from rfl,e2 k4,if_neg h4];by_cases h5:c=110
 ·rw[if_pos h5] at k5;rw[show((4+1:Nat):Int)=((5:Nat):Int) from rfl,e1 k5,h5];rfl
 rw[if_neg h5] at k5;rw[show((4+1:Nat):Int)=((5:Nat):Int) from rfl,e2 k5,if_neg h5];by_cases h6:c=114
 ·rw[if_pos h6] at k6;rw[show((5+1:Nat):Int)=((6:Nat):Int) from rfl,e1 k6,h6];rfl
 rw[if_neg h6] at k6;rw[show((5+1:Nat):Int)=((6:Nat):Int) from rfl,e2 k6,if_neg h6];by_cases h7:c=116
 ·rw[if_pos h7] at k7;rw[show((6+1:Nat):Int)=((7:Nat):Int) from rfl,e1 k7,h7];rfl
 rw[if_neg h7] at k7;rw[show((6+1:Nat):Int)=((7:Nat):Int) from rfl,e2 k7,if_neg h7,if_pos (by decide)];refine e1 ?_;unfold qCo;rfl
theorem p_esc(t:BA)(hs:t.size<=3000000)(f:Nat)(hf:f<t.size):∃g,zaw_s ⟨t,(f:Int),st,out,op,nm,key,cd,bd⟩=some g/\saysP st out op nm key cd bd t g (escR t f):=by
 unfold zaw_s escR;dsimp only;rw[qAb (by unfold qAc;omega),show(f:Int)+1=((f+1:Nat):Int) by omega,qE4,obS];by_cases h1:f+1=t.size
 ·rw[deT (by omega),cnT,if_pos (by rw[qB4 (by omega)];decide),p_odd];exact⟨_,rfl,rfl,by show(((f+1:Nat)):Int)=(t.size:Int);omega,rfl⟩
 ·have hb:=bAt_nn (s:=t) (i:=(f+1:Nat)) (by omega) (by omega);have hn:nextC t (f+1)=bAt t (f+1:Nat):=by unfold nextC;rw[if_pos (by omega)]
  rw[deF (by omega),cnF,if_neg (by omega),hn];by_cases h2:bAt t (f+1:Nat)=117
  ·rw[deT h2,cnT,if_pos h2,qAb (by unfold qAc;omega),show((f+1:Nat):Int)+1=((f+2:Nat):Int) by omega];obtain⟨g,hg,hg2⟩:=p_point st out op nm key cd bd t hs f (by omega);rw[hg,obS];refine⟨_,rfl,?_⟩;revert hg2;cases fourR t false f 4 0 (f+2) 0 with
   | bad c b=>exact λh=>h
   | ok b u =>
    dsimp only;generalize (if u<55296\/57343<u then Rd.ok b u else pairR t f b u)=r
    intro h;cases r with
    | bad c b=>exact h
    | ok b u =>
     have h:g=_:=h;rw[h];rfl
  ·rw[deF h2,cnF,if_neg h2,p_esc0 _ _ (by omega),obS];by_cases h3:saidS (bAt t (f+1:Nat))<0
   ·rw[if_pos h3,if_pos h3];exact⟨_,rfl,rfl,rfl,rfl⟩
   ·rw[if_neg h3,if_neg h3];exact⟨_,rfl,rfl⟩
theorem or8_128{y:Int}(h:0<=y/\y<64):qBm .u8 128 y=128+y:=by
 have key:∀n:Fin 64,qBm .u8 128 (n.val:Int)=128+(n.val:Int):=by decide +kernel
 have:=key ⟨y.toNat,by omega⟩;simpa[Int.toNat_of_nonneg h.1] using this
theorem or8_192{y:Int}(h:0<=y/\y<32):qBm .u8 192 y=192+y:=by
 have key:∀n:Fin 32,qBm .u8 192 (n.val:Int)=192+(n.val:Int):=by decide +kernel
 have:=key ⟨y.toNat,by omega⟩;simpa[Int.toNat_of_nonneg h.1] using this
theorem or8_224{y:Int}(h:0<=y/\y<16):qBm .u8 224 y=224+y:=by
 have key:∀n:Fin 16,qBm .u8 224 (n.val:Int)=224+(n.val:Int):=by decide +kernel
 have:=key ⟨y.toNat,by omega⟩;simpa[Int.toNat_of_nonneg h.1] using this
theorem or8_240{y:Int}(h:0<=y/\y<8):qBm .u8 240 y=240+y:=by
 have key:∀n:Fin 8,qBm .u8 240 (n.val:Int)=240+(n.val:Int):=by decide +kernel
 have:=key ⟨y.toNat,by omega⟩;simpa[Int.toNat_of_nonneg h.1] using this
theorem and8_63{y:Int}(h:0<=y/\y<256):qCi .u8 y 63=y % 64:=by
 have key:∀n:Fin 256,qCi .u8 (n.val:Int) 63=(n.val:Int) % 64:=by decide +kernel
 have:=key ⟨y.toNat,by omega⟩;simpa[Int.toNat_of_nonneg h.1] using this
theorem p_rune(p:List Int)(hp:p.length<=12000000)(u:Int)(hu:Code u):zby_s p u=some (p++utfL u):=by
 unfold Code at hu;unfold zby_s utfL;rw[show u % 4294967296=u by omega];by_cases h1:u<128
 ·rw[deT (by omega),cnT,if_pos h1,qAb (by simp only[List.length_cons,List.length_nil];omega),u8_mod' (by omega)]
 ·rw[deF (by omega),cnF,if_neg h1];unfold zbz_s;rw[show u % 4294967296=u by omega];by_cases h2:u<2048
  ·rw[deT (by omega),cnT,if_pos h2,qAb (by omega),qAb (by simp only[List.length_cons,List.length_nil];omega),u8_mod' (x:=u / 64) (by omega),or8_192 (by omega),and8_63 (by omega),or8_128 (by omega),obS,show u % 256 % 64=u % 64 by omega]
  ·rw[deF (by omega),cnF,if_neg h2];have three:∀(x:Int),u<65536->zbz_p0 u x true p=some (p++[224+u / 4096,128+u / 64 % 64,128+u % 64]):=by
    intro x h3;unfold zbz_p0;rw[cnT,qAb (by omega),qAb (by omega),qAb (by simp only[List.length_cons,List.length_nil];omega),u8_mod' (x:=u / 4096) (by omega),or8_224 (by omega),and8_63 (by omega),and8_63 (by omega),or8_128 (by omega),or8_128 (by omega),show u % 256 % 64=u % 64 by omega,show u / 64 % 256 % 64=u / 64 % 64 by omega]
   by_cases h3:u<65536
   ·rw[if_pos h3];by_cases h4:u<55296
    ·rw[deT h4,cnT,three _ h3];rfl
    ·rw[deF h4,cnF,deT (by omega),deT (by omega),Bool.true_and,three _ h3];rfl
   ·rw[if_neg h3,deF (show ¬u<55296 by omega),cnF,deT (by omega),deF (by omega),Bool.true_and];unfold zbz_p0;rw[cnF,deT (by omega),deT (by omega),Bool.true_and,cnT,qAb (by omega),qAb (by omega),qAb (by omega),qAb (by simp only[List.length_cons,List.length_nil];omega),u8_mod' (x:=u / 262144) (by omega),or8_240 (by omega),and8_63 (by omega),and8_63 (by omega),and8_63 (by omega),or8_128 (by omega),or8_128 (by omega),or8_128 (by omega),show u % 256 % 64=u % 64 by omega,show u / 64 % 256 % 64=u / 64 % 64 by omega,show u / 4096 % 256 % 64=u / 4096 % 64 by omega];rfl
end Go.Proofs.YtbokbmjcodoccacDoor
namespace Go.Proofs.YtbokbmjcodoccacDoor
open Go.Eng
variable (st:Int) (out:List Eng.Node) (op:List Int) (nm:List (MapC × Unit)) (key:BA) (cd bd:Int)
theorem by8_out{t:BA}{i:Nat}(h:t.size<=i):by8 t i=0:=by
 unfold by8;cases t with
 | mk d =>
  have:ByteArray.get! ⟨d⟩ i=d[i]!:=rfl;rw[this,getElem!_neg d i (by show ¬i<d.size;exact Nat.not_lt.2 h)];rfl
theorem by8_tail(t:BA)(a i:Nat)(ha:a<=t.size):by8 (t.extract a t.size) i=by8 t (a+i):=by
 have hsz:(t.extract a t.size).size=t.size - a:=by rw[ByteArray.size_extract];omega
 by_cases h:a+i<t.size
 ·have h1:=by8_in (t:=t.extract a t.size) (i:=i) (by omega);have h2:=by8_in h;rw[bAt_tail t a i (by omega)] at h1;rw[show((a+i:Nat):Int)=(a:Int)+(i:Int) by omega] at h2;omega
 ·rw[by8_out (by omega),by8_out (by omega)]
theorem dec_tail(t:BA)(a:Nat)(ha:a<t.size):Lib.decodeGo (t.extract a t.size)=Utf8.decode t a:=by
 have hsz:(t.extract a t.size).size=t.size - a:=by rw[ByteArray.size_extract];omega
 unfold Lib.decodeGo;rw[if_neg (by omega),Lib.decode_at,Lib.decode_at,hsz];have h0:=by8_tail t a 0 (by omega);have h1:=by8_tail t a 1 (by omega);have h2:=by8_tail t a 2 (by omega);have h3:=by8_tail t a 3 (by omega);unfold by8 at h0 h1 h2 h3;simp only[Nat.zero_add,Nat.add_zero,Nat.sub_zero] at *
 rw[h0,h1,h2,h3]
theorem full_tail(t:BA)(a:Nat)(ha:a<t.size):fullS (t.extract a t.size)=qFo (t.size - a) (by8 t a) (by8 t (a+1)) (by8 t (a+2)):=by
 have hsz:(t.extract a t.size).size=t.size - a:=by rw[ByteArray.size_extract];omega
 have h0:=by8_tail t a 0 (by omega);have h1:=by8_tail t a 1 (by omega);have h2:=by8_tail t a 2 (by omega);unfold fullS;rw[hsz];unfold by8 at *
 simp only[Nat.add_zero] at *
 rw[h0,h1,h2]
theorem p_sq(t:BA)(hs:t.size<=3000000)(a:Nat)(ha:a<t.size)(h:128<=by8 t a):∃g,zbh_s ⟨t,(a:Int),st,out,op,nm,key,cd,bd⟩=some g /\
  (if seqK t a=0 then g=(⟨t,(a:Int),st,out,op,nm,key,cd,bd⟩,(seqW t a:Int),true) else g.1.code=seqK t a/\g.1.bad=(if seqK t a=31 then(t.size:Int) else(a:Int))/\g.2.2=false):=by
 obtain⟨d1,d2⟩:=seq_dec ha h;have hc:=seqK_cases t a;unfold zbh_s;dsimp only;rw[qAb (by omega),Int.toNat_natCast];unfold qA6;rw[obS,dec_tail t a ha];by_cases h0:seqK t a=0
 ·have hw:=seqW_in ha h h0;have e:=d1 h0;dsimp only;rw[e,qBw (p:=True) (by
   simp only[Bool.or_eq_true,decide_eq_true_eq,iff_true];right;omega),if_pos trivial]
  exact⟨_,rfl,by rw[if_pos h0]⟩
 ·obtain⟨e1,e2⟩:=d2 h0;rw[e1];show ∃g,(bif((!decide ((65533:Int)=65533)) || decide ((1:Int)<1)) then _ else _)=_/\_
  rw[deT rfl,deF (by decide),Bool.not_true,Bool.or_false,cnF,qAb (by omega)];unfold qBo;rw[qAb (by rw[ByteArray.size_extract];omega),obS,full_tail t a ha,e2];by_cases h1:seqK t a=31
  ·rw[deT h1,Bool.not_true,Bool.not_false,cnT];exact⟨_,rfl,by rw[if_neg h0,if_pos h1];exact⟨h1.symm,rfl,rfl⟩⟩
  ·rw[deF h1,Bool.not_false,Bool.not_true,cnF];exact⟨_,rfl,by rw[if_neg h0,if_neg h1];exact⟨by show(32:Int)=_;omega,rfl,rfl⟩⟩
def saysT(t:BA)(g:BA × Bool × BA × Int × Int × BA × Int × Int × (List (MapC × Unit)))(r:Rd (List Int)):Prop:=match r with
 | .bad c b=>g.2.1=false/\g.2.2.2.2.2.2.1=c/\g.2.2.2.2.2.2.2.1=(b:Int)
 | .ok b l=>g=(qBe l,true,t,(b:Int),st,key,cd,bd,nm)
theorem p_quo0(t:BA)(hs:t.size<=3000000):∀(n a:Nat) (acc:List Int),t.size - a<n->a<=t.size->acc.length<=4*a->∃g,zbg_p0 t (a:Int) st key cd bd out op nm acc=some g/\saysT st nm key cd bd t g (quoR t n a acc)
 | 0,a,acc,h,_,_=>by omega
 | n+1,a,acc,h,ha,hacc=>by
  have hst:∀ {x},qBc t (a:Int) st key cd bd out op nm acc=some (.inr x)->zbg_p0 t (a:Int) st key cd bd out op nm acc=some x:=λh=>qAg h
  have hnx:∀ {b:Nat} {acc':List Int},qBc t (a:Int) st key cd bd out op nm acc=some (.inl (t,(b:Int),st,key,cd,bd,nm,acc'))->zbg_p0 t (a:Int) st key cd bd out op nm acc=zbg_p0 t (b:Int) st key cd bd out op nm acc':=λh=>qAm h
  have hb:=bAt_range t a;unfold quoR;by_cases hend:a=t.size
  ·have hb:bAt t a = -1:=qB4 (by omega);rw[if_pos (show bAt t a<32 by omega)];refine⟨((⟨#[]⟩:BA),false,t,(a:Int),st,key,31,(a:Int),nm),hst ?_,rfl,rfl,rfl⟩;unfold qBc;rw[deT (show(a:Int)=t.size by omega),cnT];rfl
  ·have hl:a<t.size:=by omega
   have hb0:=bAt_nn (s:=t) (i:=a) (by omega) (by omega);by_cases h2:bAt t a=34
   ·rw[if_neg (show ¬bAt t a<32 by omega),if_pos h2];refine⟨(qBe acc,true,t,((a+1:Nat):Int),st,key,cd,bd,nm),hst ?_,rfl⟩;unfold qBc;rw[deF (show ¬(a:Int)=t.size by omega),cnF,qAb (by omega),deT h2,cnT,qAb (by unfold qAc;omega)];rfl
   ·by_cases h3:bAt t a=92
    ·rw[if_neg (show ¬bAt t a<32 by omega),if_neg h2,if_pos h3];obtain⟨g,hg,hg2⟩:=p_esc st out op nm key cd bd t hs a hl;cases h4:escR t a with
     | bad c b =>
      rw[h4] at hg2;obtain⟨e1,e2,e3⟩:=hg2;refine⟨((⟨#[]⟩:BA),false,g.1.text,g.1.at_,g.1.state,g.1.key,g.1.code,g.1.bad,g.1.names),hst ?_,rfl,e1,e2⟩;unfold qBc;rw[deF (show ¬(a:Int)=t.size by omega),cnF,qAb (by omega),deF h2,cnF,deT h3,cnT,hg,obS,e3];rfl
     | ok b u =>
      rw[h4] at hg2;have hg2:g=(⟨t,(b:Int),st,out,op,nm,key,cd,bd⟩,u,true):=hg2;have h5:=escR_ok h4;have h6:=utfL_len u;dsimp only;rw[hnx (b:=b) (acc':=acc++utfL u) (by
       unfold qBc;rw[deF (show ¬(a:Int)=t.size by omega),cnF,qAb (by omega),deF h2,cnF,deT h3,cnT,hg,obS,hg2];dsimp only;rw[Bool.not_true,cnF,p_rune acc (by omega) u h5.2.2];rfl)]
      exact p_quo0 t hs n b (acc++utfL u) (by omega) (by omega) (by rw[List.length_append];omega)
    ·by_cases h1:bAt t a<32
     ·rw[if_pos h1];refine⟨((⟨#[]⟩:BA),false,t,(a:Int),st,key,31,(a:Int),nm),hst ?_,rfl,rfl,rfl⟩;unfold qBc;rw[deF (show ¬(a:Int)=t.size by omega),cnF,qAb (by omega),deF h2,cnF,deF h3,cnF,deT h1,cnT];rfl
     ·rw[if_neg h1,if_neg h2,if_neg h3];by_cases h4:bAt t a<128
      ·rw[if_pos h4,hnx (b:=a+1) (acc':=acc++[bAt t a]) (by
        unfold qBc;rw[deF (show ¬(a:Int)=t.size by omega),cnF,qAb (by omega),deF h2,cnF,deF h3,cnF,deF h1,cnF,deT h4,cnT,qAb (by simp only[List.length_cons,List.length_nil];omega),qAb (by unfold qAc;omega)];rfl)]
       exact p_quo0 t hs n (a+1) (acc++[bAt t a]) (by omega) (by omega) (by rw[List.length_append,List.length_singleton];omega)
      ·rw[if_neg h4];have h8:128<=by8 t a:=by have:=by8_in hl;omega
       obtain⟨g,hg,hg2⟩:=p_sq st out op nm key cd bd t hs a hl h8;have hkc:=seqK_cases t a;by_cases h5:seqK t a=0
       ·have hw:=seqW_in hl h8 h5;rw[if_pos h5] at hg2 ⊢;have hsz:(t.extract a (a+seqW t a)).size<=4:=by rw[ByteArray.size_extract];omega
        rw[hnx (b:=a+seqW t a) (acc':=acc++qBi (t.extract a (a+seqW t a))) (by
         unfold qBc;rw[deF (show ¬(a:Int)=t.size by omega),cnF,qAb (by omega),deF h2,cnF,deF h3,cnF,deF h1,cnF,deF h4,cnF,hg,obS,hg2];dsimp only;rw[Bool.not_true,cnF,show(a:Int)+(seqW t a:Int)=((a+seqW t a:Nat):Int) by omega,qAb (by unfold qAc;omega),qAb (by omega),Int.toNat_natCast,Int.toNat_natCast,qAb (by omega),qAb (by unfold qAc;omega)])]
        have h9:(qBi (t.extract a (a+seqW t a))).length<=4:=by
         unfold qBi;rw[List.length_map,Array.length_toList];exact hsz
        exact p_quo0 t hs n (a+seqW t a) _ (by omega) (by omega) (by rw[List.length_append];omega)
       ·rw[if_neg h5] at hg2 ⊢;obtain⟨e1,e2,e3⟩:=hg2;refine⟨((⟨#[]⟩:BA),false,g.1.text,g.1.at_,g.1.state,g.1.key,g.1.code,g.1.bad,g.1.names),hst ?_,rfl,e1,?_⟩
        ·unfold qBc;rw[deF (show ¬(a:Int)=t.size by omega),cnF,qAb (by omega),deF h2,cnF,deF h3,cnF,deF h1,cnF,deF h4,cnF,hg,obS,e3];rfl
        ·rw[e2];split <;> rfl
def saysU(t:BA)(g:json_reader × BA × Bool)(r:Rd (List Int)):Prop:=match r with
 | .bad c b=>g.1.code=c/\g.1.bad=(b:Int)/\g.2.2=false
 | .ok b l=>g=(⟨t,(b:Int),st,out,op,nm,key,cd,bd⟩,qBe l,true)
theorem p_quo(t:BA)(hs:t.size<=3000000)(a:Nat)(ha:a<t.size):∃g,zbg_s ⟨t,(a:Int),st,out,op,nm,key,cd,bd⟩=some g/\saysU st out op nm key cd bd t g (quoR t (t.size+1) (a+1) []):=by
 obtain⟨g,h1,h2⟩:=p_quo0 st out op nm key cd bd t hs (t.size+1) (a+1) [] (by omega) (by omega) (by simp);unfold zbg_s;dsimp only;rw[qAb (by unfold qAc;omega),show(a:Int)+1=((a+1:Nat):Int) by omega,h1,obS];refine⟨_,rfl,?_⟩;cases h:quoR t (t.size+1) (a+1) [] with
 | bad c b =>
  rw[h] at h2;exact⟨h2.2.1,h2.2.2,h2.1⟩
 | ok b l =>
  rw[h] at h2;have h2:g=(qBe l,true,t,(b:Int),st,key,cd,bd,nm):=h2;rw[h2];rfl
def bumpN(n:Eng.Node):Eng.Node:=⟨n.kind,n.key,n.text,n.whole,n.int,n.kids+1⟩
def setK(k:BA)(n:Eng.Node):Eng.Node:=⟨n.kind,k,n.text,n.whole,n.int,n.kids⟩
def upO(op:List Int)(out:List Eng.Node):List Eng.Node:=match op.getLast? with
 | none=>out
 | some p=>out.set p.toNat (bumpN (out.getD p.toNat (ET.dft .node)))
def TopOK(op:List Int)(out:List Eng.Node):Prop:=op=[]\/∃op' p,op=op'++[((p:Nat):Int)]/\p<out.length/\qAc ((out.getD p (ET.dft .node)).kids+1)
def layO(op:List Int)(out:List Eng.Node)(key:BA)(n:Eng.Node):List Eng.Node:=upO op out++[setK key n]
theorem upO_len(op:List Int)(out:List Eng.Node):(upO op out).length=out.length:=by
 unfold upO;split <;> simp
theorem layO_len(op:List Int)(out:List Eng.Node)(key:BA)(n:Eng.Node):(layO op out key n).length=out.length+1:=by
 unfold layO;rw[List.length_append,upO_len];rfl
theorem last_snoc(op':List Int)(p:Int):(op'++[p]).getLast?=some p:=by simp
theorem snocI_toNat(op':List Int)(p:Int):Int.toNat (((op'++[p]).length:Int) - 1)=op'.length:=by
 rw[List.length_append,List.length_singleton];omega
theorem snocI_getD(op':List Int)(p d:Int):(op'++[p]).getD op'.length d=p:=by simp[List.getD_eq_getElem?_getD]
theorem p_lay(t:BA)(a:Int)(n:Eng.Node)(hop:TopOK op out)(ho:op.length<=100)(hl:out.length<=3000000):zay_s ⟨t,a,st,out,op,nm,key,cd,bd⟩ n=some ⟨t,a,st,layO op out key n,op,nm,⟨#[]⟩,cd,bd⟩:=by
 unfold zay_s;dsimp only;rcases hop with rfl | ⟨op',p,rfl,hp,hk⟩
 ·rw[deF (by simp),cnF,qAb (by simp only[List.length_cons,List.length_nil];omega)];rfl
 ·have hlen:(op'++[(p:Int)]).length=op'.length+1:=by simp
  rw[hlen] at ho;rw[deT (by rw[hlen];omega),cnT,snocI_toNat,snocI_getD,Int.toNat_natCast];rw[qAb (by rw[hlen];unfold qAc;omega),qAb (by rw[hlen];omega),qAb (by rw[hlen];omega),qAb (by omega),qAb hp,qAb hp,qAb hk,qAb (by omega),qAb hp,qAb hp,qAb (by simp only[List.length_set,List.length_cons,List.length_nil];omega)];unfold layO upO;rw[last_snoc];rfl
def stB(op:List Int):Int:=if op.length=0 then 6 else 5
def saysN(t:BA)(g:Bool × BA × Int × Int × BA × Int × Int × (List (MapC × Unit)) × (List Eng.Node))(f:Nat)(r:Rd Unit):Prop:=match r with
 | .bad c b=>g.1=false/\g.2.2.2.2.2.1=c/\g.2.2.2.2.2.2.1=(b:Int)
 | .ok b _=>g=(true,t,(b:Int),stB op,⟨#[]⟩,cd,bd,nm,layO op out key (nd0 4 (t.extract f b) (wholeV (t.extract f b)).2 (wholeV (t.extract f b)).1 0))
variable (hop:TopOK op out) (ho:op.length<=100) (hl:out.length<=3000000)
include hop ho hl in
theorem p_num3(t:BA)(hs:t.size<=3000000){f b:Nat}(h1:f<=b)(h2:b<=t.size)(u:Unit):∃g,zbd_p3 (f:Int) t (b:Int) st key cd bd out op nm=some g/\saysN out op nm key cd bd t g f (.ok b u):=by
 unfold zbd_p3;rw[qAb (by omega),Int.toNat_natCast,Int.toNat_natCast,whole_j _ (ext_le t f b hs),obS,p_lay _ _ _ _ _ _ _ _ _ _ hop ho hl,obS,p_behind,obS];exact⟨_,rfl,rfl⟩
include hop ho hl in
theorem p_numD(t:BA)(hs:t.size<=3000000){f a:Nat}(h1:f<=a)(h2:a<=t.size){F:Bool × BA × Int × Int × BA × Int × Int × (List (MapC × Unit)) × (List Eng.Node)->Option (Bool × BA × Int × Int × BA × Int × Int × (List (MapC × Unit)) × (List Eng.Node))}(hF:∀x,F x=some x) :
  ∃g,((zau_s ⟨t,(a:Int),st,out,op,nm,key,cd,bd⟩).bind λr72 =>
   bif(!r72.2) then(
    some (false,r72.1.text,r72.1.at_,r72.1.state,r72.1.key,r72.1.code,r72.1.bad,r72.1.names,out))
   else(
    (zbd_p3 (f:Int) r72.1.text r72.1.at_ r72.1.state r72.1.key r72.1.code r72.1.bad out op r72.1.names).bind F))=some g/\saysN out op nm key cd bd t g f (digR t a):=by
 rw[p_dig st out op nm key cd bd t hs,obS];cases h:digR t a with
 | bad c b=>exact⟨_,rfl,rfl,rfl,rfl⟩
 | ok b x =>
  have:=digR_adv h2 h;obtain⟨g,hg,hg2⟩:=p_num3 st out op nm key cd bd hop ho hl t hs (f:=f) (b:=b) (by omega) this.2.1 x;refine⟨g,?_,hg2⟩;show((zbd_p3 (f:Int) t (b:Int) st key cd bd out op nm).bind F)=_;rw[hg,obS,hF]
include hop ho hl in
theorem p_num2(t:BA)(hs:t.size<=3000000){f a:Nat}(h1:f<=a)(h2:a<=t.size):∃g,zbd_p2 (f:Int) t (a:Int) st key cd bd out op nm=some g/\saysN out op nm key cd bd t g f (powR t a):=by
 unfold zbd_p2 powR;rw[qE4,obS];rw[qBw (p:=bAt t a=101\/bAt t a=69) (by
  simp only[Bool.or_eq_true,decide_eq_true_eq];rw[qEr (by decide),qEr (by decide)])]
 by_cases h3:bAt t a=101\/bAt t a=69
 ·have ha:=qBp (t:=t) (a:=a) (by omega);rw[if_pos h3,if_pos h3,qAb (by unfold qAc;omega),show(a:Int)+1=((a+1:Nat):Int) by omega,qE4,obS];rw[qBw (p:=bAt t (a+1:Nat)=43\/bAt t (a+1:Nat)=45) (by
   simp only[Bool.or_eq_true,decide_eq_true_eq];rw[qEr (by decide),qEr (by decide)])]
  by_cases h4:bAt t (a+1:Nat)=43\/bAt t (a+1:Nat)=45
  ·have hb:=qBp (t:=t) (a:=a+1) (by omega);rw[if_pos h4,if_pos h4,qAb (by unfold qAc;omega),show((a+1:Nat):Int)+1=((a+2:Nat):Int) by omega];exact p_numD st out op nm key cd bd hop ho hl t hs (by omega) (by omega) (λx=>rfl)
  ·rw[if_neg h4,if_neg h4];exact p_numD st out op nm key cd bd hop ho hl t hs (by omega) (by omega) (λx=>rfl)
 ·rw[if_neg h3,if_neg h3];obtain⟨g,hg,hg2⟩:=p_num3 st out op nm key cd bd hop ho hl t hs h1 h2 ();rw[hg];exact⟨_,rfl,hg2⟩
include hop ho hl in
theorem p_num1(t:BA)(hs:t.size<=3000000){f a:Nat}(h1:f<=a)(h2:a<=t.size):∃g,zbd_p1 (f:Int) t (a:Int) st key cd bd out op nm=some g/\saysN out op nm key cd bd t g f (match dotR t a with
  | .bad c b=>.bad c b
  | .ok b _=>powR t b):=by
 unfold zbd_p1 dotR;rw[qE4,obS,qBw (p:=bAt t a=46) (by
  simp only[decide_eq_true_eq];rw[qEr (by decide)])]
 by_cases h3:bAt t a=46
 ·have ha:=qBp (t:=t) (a:=a) (by omega);rw[if_pos h3,if_pos h3,qAb (by unfold qAc;omega),show(a:Int)+1=((a+1:Nat):Int) by omega,p_dig st out op nm key cd bd t hs,obS];cases h:digR t (a+1) with
  | bad c b=>exact⟨_,rfl,rfl,rfl,rfl⟩
  | ok b x =>
   have:=digR_adv (by omega) h;obtain⟨g,hg,hg2⟩:=p_num2 st out op nm key cd bd hop ho hl t hs (f:=f) (a:=b) (by omega) this.2.1;refine⟨g,?_,hg2⟩;show((zbd_p2 (f:Int) t (b:Int) st key cd bd out op nm).bind _)=_;rw[hg];rfl
 ·rw[if_neg h3,if_neg h3];obtain⟨g,hg,hg2⟩:=p_num2 st out op nm key cd bd hop ho hl t hs h1 h2;rw[hg];exact⟨_,rfl,hg2⟩
include hop ho hl in
theorem p_num0(t:BA)(hs:t.size<=3000000){f a:Nat}(h1:f<=a)(h2:a<=t.size):∃g,zbd_p0 (f:Int) t (a:Int) st key cd bd out op nm=some g/\saysN out op nm key cd bd t g f (match zeroR t a with
  | .bad c b=>.bad c b
  | .ok b _=>match dotR t b with
   | .bad c b=>.bad c b
   | .ok b _=>powR t b):=by
 unfold zbd_p0 zeroR;rw[qE4,obS,qBw (p:=bAt t a=48) (by
  simp only[decide_eq_true_eq];rw[qEr (by decide)])]
 by_cases h3:bAt t a=48
 ·have ha:=qBp (t:=t) (a:=a) (by omega);rw[if_pos h3,if_pos h3,qAb (by unfold qAc;omega),show(a:Int)+1=((a+1:Nat):Int) by omega];obtain⟨g,hg,hg2⟩:=p_num1 st out op nm key cd bd hop ho hl t hs (f:=f) (a:=a+1) (by omega) (by omega);rw[hg];exact⟨_,rfl,hg2⟩
 ·rw[if_neg h3,if_neg h3,p_dig st out op nm key cd bd t hs,obS];cases h:digR t a with
  | bad c b=>exact⟨_,rfl,rfl,rfl,rfl⟩
  | ok b x =>
   have:=digR_adv (by omega) h;obtain⟨g,hg,hg2⟩:=p_num1 st out op nm key cd bd hop ho hl t hs (f:=f) (a:=b) (by omega) this.2.1;refine⟨g,?_,hg2⟩;show((zbd_p1 (f:Int) t (b:Int) st key cd bd out op nm).bind _)=_;rw[hg];rfl
def saysV(t:BA)(g:json_reader × Bool)(r:Rd (List Eng.Node)):Prop:=match r with
 | .bad c b=>g.1.code=c/\g.1.bad=(b:Int)/\g.2=false
 | .ok b l=>∃n,l=[n]/\g=(⟨t,(b:Int),stB op,layO op out key n,op,nm,⟨#[]⟩,cd,bd⟩,true)
include hop ho hl in
theorem p_num(t:BA)(hs:t.size<=3000000){a:Nat}(ha:a<t.size):∃g,zbd_s ⟨t,(a:Int),st,out,op,nm,key,cd,bd⟩=some g/\saysV out op nm key cd bd t g (match numR t a with
  | .bad c b=>.bad c b
  | .ok b _=>.ok b [nd0 4 (t.extract a b) (wholeV (t.extract a b)).2 (wholeV (t.extract a b)).1 0]):=by
 have fin:∀(g:Bool × BA × Int × Int × BA × Int × Int × (List (MapC × Unit)) × (List Eng.Node)) (r:Rd Unit),saysN out op nm key cd bd t g a r->saysV out op nm key cd bd t ((⟨g.2.1,g.2.2.1,g.2.2.2.1,g.2.2.2.2.2.2.2.2,op,g.2.2.2.2.2.2.2.1,g.2.2.2.2.1,g.2.2.2.2.2.1,g.2.2.2.2.2.2.1⟩:json_reader),g.1) (match r with
  | .bad c b=>.bad c b
  | .ok b _=>.ok b [nd0 4 (t.extract a b) (wholeV (t.extract a b)).2 (wholeV (t.extract a b)).1 0]):=by
  intro g r h;cases r with
  | bad c b=>exact⟨h.2.1,h.2.2,h.1⟩
  | ok b x =>
   have h:g=_:=h;rw[h];exact⟨_,rfl,rfl⟩
 unfold zbd_s numR signS;rw[qE4,obS,qBw (p:=bAt t a=45) (by
  simp only[decide_eq_true_eq];rw[qEr (by decide)])]
 by_cases h3:bAt t a=45
 ·rw[if_pos h3,if_pos h3];dsimp only;rw[qAb (by unfold qAc;omega),show(a:Int)+1=((a+1:Nat):Int) by omega];obtain⟨g,hg,hg2⟩:=p_num0 st out op nm key cd bd hop ho hl t hs (f:=a) (a:=a+1) (by omega) (by omega);rw[hg,obS];exact⟨_,rfl,fin g _ hg2⟩
 ·rw[if_neg h3,if_neg h3];obtain⟨g,hg,hg2⟩:=p_num0 st out op nm key cd bd hop ho hl t hs (f:=a) (a:=a) (by omega) (by omega);dsimp only;rw[hg,obS];exact⟨_,rfl,fin g _ hg2⟩
omit hop ho hl in
theorem p_lit0(t:BA)(hs:t.size<=3000000)(w:BA)(hw:w.size<=10)(hw0:∀i:Nat,i<w.size->0<bAt w i)(a:Nat):∀(j i:Nat),i+j=w.size->a+i<=t.size->∃e:Int,zaz_p0 w (w.size:Int) (i:Int) t ((a+i:Nat):Int) st key cd bd out op nm=some (match litR t ((qBi w).drop i) (a+i) with
  | .bad c b=>.inl (false,t,e,st,key,c,(b:Int),nm)
  | .ok b _=>.inr (b:Int))
 | 0,i,h,ha=>by
  rw[List.drop_eq_nil_of_le (by simp only[qBi,List.length_map,Array.length_toList];show w.size<=i;omega)];refine⟨0,?_⟩;unfold zaz_p0;refine qAg ?_;show qB9 w (w.size:Int) (i:Int) t ((a+i:Nat):Int) st key cd bd out op nm=_;unfold qB9;rw[deF (by omega),cnF];rfl
 | j+1,i,h,ha=>by
  have hb:=hw0 i (by omega);have e1:∀ {x},qB9 w (w.size:Int) (i:Int) t ((a+i:Nat):Int) st key cd bd out op nm=some (.inr x)->zaz_p0 w (w.size:Int) (i:Int) t ((a+i:Nat):Int) st key cd bd out op nm=some x:=λh=>qAg h
  have e2:∀ {i' a':Int},qB9 w (w.size:Int) (i:Int) t ((a+i:Nat):Int) st key cd bd out op nm=some (.inl (i',a'))->zaz_p0 w (w.size:Int) (i:Int) t ((a+i:Nat):Int) st key cd bd out op nm=zaz_p0 w (w.size:Int) i' t a' st key cd bd out op nm:=λh=>qAm h
  rw[bytesL_cons (by omega)];unfold litR;have hst:qB9 w (w.size:Int) (i:Int) t ((a+i:Nat):Int) st key cd bd out op nm=some (if bAt t (a+i:Nat)=bAt w i then .inl (((i+1:Nat):Int),((a+(i+1):Nat):Int)) else .inr (.inl (false,t,((a+i:Nat):Int),st,key,31,((a+i:Nat):Int),nm))):=by
   unfold qB9;rw[deT (by omega),cnT,qAb (by omega),qE4,obS,qAb rfl];by_cases h2:bAt t (a+i:Nat)=bAt w i
   ·rw[deT ((qEr hb).2 h2),Bool.not_true,cnF,if_pos h2,qAb (by unfold qAc;omega),qAb (by unfold qAc;omega)];rfl
   ·rw[deF (λh=>h2 ((qEr hb).1 h)),Bool.not_false,cnT,if_neg h2];rfl
  by_cases h2:bAt t (a+i:Nat)=bAt w i
  ·have hlt:=qBp (t:=t) (a:=a+i) (by omega);rw[if_pos h2] at hst ⊢;rw[e2 hst];exact p_lit0 t hs w hw hw0 a j (i+1) (by omega) (by omega)
  ·rw[if_neg h2] at hst ⊢;exact⟨_,e1 hst⟩
include hop ho hl in
theorem p_lit(t:BA)(hs:t.size<=3000000)(w:BA)(hw:w.size<=10)(hw0:∀i:Nat,i<w.size->0<bAt w i)(a:Nat)(ha:a<=t.size)(k:Int):∃g,zaz_s ⟨t,(a:Int),st,out,op,nm,key,cd,bd⟩ w k=some g/\saysV out op nm key cd bd t g (match litR t (qBi w) a with
  | .bad c b=>.bad c b
  | .ok b _=>.ok b [nd0 k ⟨#[]⟩ false 0 0]):=by
 obtain⟨e,he⟩:=p_lit0 st out op nm key cd bd t hs w hw hw0 a w.size 0 (by omega) (by omega);rw[show((0:Nat):Int)=0 from rfl,List.drop_zero,Nat.add_zero] at he;unfold zaz_s;dsimp only;rw[he,obS];cases litR t (qBi w) a with
 | bad c b=>exact⟨_,rfl,rfl,rfl,rfl⟩
 | ok b x =>
  simp only[Sum.elim_inr];rw[p_lay _ _ _ _ _ _ _ _ _ _ hop ho hl,obS,p_behind,obS];exact⟨_,rfl,_,rfl,rfl⟩
include hop ho hl in
theorem p_scal(t:BA)(hs:t.size<=3000000)(a:Nat)(ha:a<t.size)(hn:¬(bAt t a=91\/bAt t a=123)):∃g,zbk_s ⟨t,(a:Int),st,out,op,nm,key,cd,bd⟩ (bAt t a)=some g/\saysV out op nm key cd bd t g (scalR t a):=by
 unfold zbk_s scalR;rw[qBw (p:=bAt t a=91\/bAt t a=123) (by simp),if_neg hn];have same:∀(g:json_reader × Bool) (r:Rd (List Eng.Node)),saysV out op nm key cd bd t g r->saysV out op nm key cd bd t (⟨g.1.text,g.1.at_,g.1.state,g.1.out,op,g.1.names,g.1.key,g.1.code,g.1.bad⟩,g.2) r:=by
  intro g r h;cases r with
  | bad c b=>exact h
  | ok b l =>
   obtain⟨n,h1,h2⟩:=h;rw[h2];exact⟨n,h1,rfl⟩
 by_cases h1:bAt t a=34
 ·rw[deT h1,cnT,if_pos h1];obtain⟨g,hg,hg2⟩:=p_quo st out op nm key cd bd t hs a ha;rw[hg,obS];cases h:quoR t (t.size+1) (a+1) [] with
  | bad c b =>
   rw[h] at hg2;obtain⟨e1,e2,e3⟩:=hg2;rw[e3,cnF];exact⟨_,rfl,e1,e2,rfl⟩
  | ok b l =>
   rw[h] at hg2;have hg2:g=(⟨t,(b:Int),st,out,op,nm,key,cd,bd⟩,qBe l,true):=hg2;rw[hg2];dsimp only;rw[cnT,p_lay _ _ _ _ _ _ _ _ _ _ hop ho hl,obS,p_behind,obS];exact⟨_,rfl,_,rfl,rfl⟩
 ·rw[deF h1,cnF,if_neg h1,qBw (p:=bAt t a=45\/(48<=bAt t a/\bAt t a<=57)) (by simp)];by_cases h2:bAt t a=45\/(48<=bAt t a/\bAt t a<=57)
  ·rw[if_pos h2,if_pos h2];obtain⟨g,hg,hg2⟩:=p_num st out op nm key cd bd hop ho hl t hs ha;rw[hg,obS];exact⟨_,rfl,same _ _ hg2⟩
  ·rw[if_neg h2,if_neg h2];by_cases h3:bAt t a=110
   ·rw[deT h3,cnT,if_pos h3];obtain⟨g,hg,hg2⟩:=p_lit st out op nm key cd bd hop ho hl t hs ⟨#[110,117,108,108]⟩ (by decide) (by decide) a (by omega) 1;rw[hg,obS];exact⟨_,rfl,same _ _ hg2⟩
   ·rw[deF h3,cnF,if_neg h3];by_cases h4:bAt t a=102
    ·rw[deT h4,cnT,if_pos h4];obtain⟨g,hg,hg2⟩:=p_lit st out op nm key cd bd hop ho hl t hs ⟨#[102,97,108,115,101]⟩ (by decide) (by decide) a (by omega) 2;rw[hg,obS];exact⟨_,rfl,same _ _ hg2⟩
    ·rw[deF h4,cnF,if_neg h4];by_cases h5:bAt t a=116
     ·rw[deT h5,cnT,if_pos h5];obtain⟨g,hg,hg2⟩:=p_lit st out op nm key cd bd hop ho hl t hs ⟨#[116,114,117,101]⟩ (by decide) (by decide) a (by omega) 3;rw[hg,obS];exact⟨_,rfl,same _ _ hg2⟩
     ·rw[deF h5,cnF,if_neg h5,p_odd,obS];exact⟨_,rfl,rfl,rfl,rfl⟩
end Go.Proofs.YtbokbmjcodoccacDoor
namespace Go.Proofs.YtbokbmjcodoccacDoor
open Go.Eng
def Adv(t:BA)(val:Nat->Rd (List Eng.Node)):Prop:=∀a b l,a<=t.size->val a=.ok b l->a<b/\b<=t.size/\l≠[]/\l.length<=b - a
theorem zeroR_adv{t:BA}{a b:Nat}{x:Unit}(ha:a<=t.size)(h:zeroR t a=.ok b x):a<b/\b<=t.size:=by
 unfold zeroR at h;split at h
 ·have:=qBp (t:=t) (a:=a) (by omega);cases h;omega
 ·have:=digR_adv ha h;omega
theorem dotR_adv{t:BA}{a b:Nat}{x:Unit}(ha:a<=t.size)(h:dotR t a=.ok b x):a<=b/\b<=t.size:=by
 unfold dotR at h;split at h
 ·have:=qBp (t:=t) (a:=a) (by omega);have:=digR_adv (by omega) h;omega
 ·cases h;omega
theorem powR_adv{t:BA}{a b:Nat}{x:Unit}(ha:a<=t.size)(h:powR t a=.ok b x):a<=b/\b<=t.size:=by
 unfold powR at h;split at h
 ·have:=qBp (t:=t) (a:=a) (by omega);split at h
  ·have:=qBp (t:=t) (a:=a+1) (by omega);have:=digR_adv (by omega) h;omega
  ·have:=digR_adv (by omega) h;omega
 ·cases h;omega
theorem numR_adv{t:BA}{a b:Nat}{x:Unit}(ha:a<t.size)(h:numR t a=.ok b x):a<b/\b<=t.size:=by
 unfold numR at h;have hs:a<=signS t a/\signS t a<=t.size:=by unfold signS;split <;> omega
 split at h
 ·cases h
 ·rename_i b1 x1 h1;have:=zeroR_adv hs.2 h1;split at h
  ·cases h
  ·rename_i b2 x2 h2;have:=dotR_adv this.2 h2;have:=powR_adv this.2 h;omega
theorem scalR_adv(t:BA):Adv t (scalR t):=by
 intro a b l ha h;unfold scalR at h;split at h
 ·have:=qBp (t:=t) (a:=a) (by omega);split at h
  ·cases h
  ·rename_i h1;have:=quoR_ok h1 (by simp);cases h;exact⟨by omega,this.2.1,by simp,by simp;omega⟩
 ·split at h
  ·rename_i hc;have:=qBp (t:=t) (a:=a) (by omega);split at h
   ·cases h
   ·rename_i h1;have:=numR_adv this h1;cases h;exact⟨this.1,this.2,by simp,by simp;omega⟩
  ·split at h
   ·split at h
    ·cases h
    ·rename_i h1;have:=litR_adv (by decide) h1;cases h;exact⟨by rw[this.1];simp,this.2 (by simp),by simp,by rw[this.1];simp⟩
   ·split at h
    ·split at h
     ·cases h
     ·rename_i h1;have:=litR_adv (by decide) h1;cases h;exact⟨by rw[this.1];simp,this.2 (by simp),by simp,by rw[this.1];simp⟩
    ·split at h
     ·split at h
      ·cases h
      ·rename_i h1;have:=litR_adv (by decide) h1;cases h;exact⟨by rw[this.1];simp,this.2 (by simp),by simp,by rw[this.1];simp⟩
     ·cases h
theorem setKey_len(k:BA)(l:List Eng.Node):(qFz k l).length=l.length:=by cases l <;> rfl
theorem setKey_nil{k:BA}{l:List Eng.Node}(h:l≠[]):qFz k l≠[]:=by cases l <;> simp_all [qFz]
theorem itemR_adv{t:BA}{val:Nat->Rd (List Eng.Node)}(hv:Adv t val){obj:Bool}{names:List BA}{a b:Nat}{x:BA × List Eng.Node}(ha:a<=t.size)(h:qGi t val obj names a=.ok b x) :
  a<b/\b<=t.size/\x.2≠[]/\x.2.length<=b - a:=by
 unfold qGi at h;split at h
 ·split at h
  ·have:=qBp (t:=t) (a:=a) (by omega);split at h
   ·cases h
   ·rename_i b1 l h1;have h2:=quoR_ok h1 (by simp);split at h
    ·cases h
    ·split at h
     ·rename_i hc;have h3:=qBp (t:=t) (a:=qAz t b1) (by omega);have h4:=qCs t b1;have h5:=qCs t (qAz t b1+1);have h6:=qBt t (qAz t b1+1) (by omega);split at h
      ·cases h
      ·rename_i h7;have h8:=hv _ _ _ h6 h7;cases h;exact⟨by omega,h8.2.1,setKey_nil h8.2.2.1,by simp only[setKey_len];omega⟩
     ·cases h
  ·cases h
 ·split at h
  ·cases h
  ·rename_i h7;have h8:=hv _ _ _ ha h7;cases h;exact h8
theorem lastC_pos(obj:Bool):0<=lastC obj:=by cases obj <;> decide
theorem rowR_adv{t:BA}{val:Nat->Rd (List Eng.Node)}(hv:Adv t val){obj:Bool}:∀ {m a k:Nat} {acc:List Eng.Node} {names:List BA} {b:Nat} {x:Nat × List Eng.Node},a<=t.size->rowR t val obj m a k acc names=.ok b x ->
  a<b/\b<=t.size/\x.2.length<=acc.length+(b - a)/\k<x.1/\x.1 - k<=b - a
 | 0,a,k,acc,names,b,x,ha,h=>by cases h
 | m+1,a,k,acc,names,b,x,ha,h=>by
  unfold rowR at h;split at h
  ·cases h
  ·rename_i b1 x1 h1;have h2:=itemR_adv hv ha h1;have h4:=qCs t b1;have h3:=lastC_pos obj;split at h
   ·have h5:=qBp (t:=t) (a:=qAz t b1) (by omega);cases h;exact⟨by omega,by omega,by simp only[List.length_append];omega,by simp,by simp only;omega⟩
   ·split at h
    ·have h5:=qBp (t:=t) (a:=qAz t b1) (by omega);have h6:=qCs t (qAz t b1+1);have h7:=qBt t (qAz t b1+1) (by omega);have h8:=rowR_adv hv h7 h;rw[List.length_append] at h8;exact⟨by omega,h8.2.1,by omega,by omega,by omega⟩
    ·cases h
theorem boxR_adv{t:BA}{val:Nat->Rd (List Eng.Node)}(hv:Adv t val){obj:Bool}{a b:Nat}{l:List Eng.Node}(ha:a<t.size)(h:boxR t val obj a=.ok b l):a<b/\b<=t.size/\l≠[]/\l.length<=b - a:=by
 unfold boxR at h;have h1:=qCs t (a+1);have h2:=qBt t (a+1) (by omega);have h3:=lastC_pos obj;split at h
 ·have h5:=qBp (t:=t) (a:=qAz t (a+1)) (by omega);cases h;exact⟨by omega,by omega,by simp,by simp;omega⟩
 ·split at h
  ·cases h
  ·rename_i h4;have h5:=rowR_adv hv h2 h4;cases h;exact⟨by omega,h5.2.1,by simp,by
    have:=h5.2.2.1;simp only[List.length_nil,Nat.zero_add] at this;rw[List.length_cons];omega⟩
theorem valR_adv(t:BA):∀d,Adv t (valR t d)
 | 0=>λa b l ha h=>by
  unfold valR at h;split at h
  ·cases h
  ·exact scalR_adv t a b l ha h
 | d+1=>λa b l ha h=>by
  unfold valR at h;split at h
  ·exact boxR_adv (valR_adv t d) (qBp (t:=t) (a:=a) (by omega)) h
  ·exact scalR_adv t a b l ha h
section
end
def tellR(r:Rd (List Eng.Node)):(List Eng.Node) × Int × Int:=match r with
 | .bad c b=>([],c,(b:Int))
 | .ok _ l=>(l,0,0)
noncomputable def parseR(t:BA):(List Eng.Node) × Int × Int:=if 262144<t.size then([],10,0) else tellR (readR t)
noncomputable def toldF(t:BA)(o:(Int × Int × (List Eng.Node)) ⊕ (BA × Int × Int × BA × Int × Int × (List Eng.Node) × (List Int) × (List (MapC × Unit)))):Option ((List Eng.Node) × Int × Int) :=
 (Sum.elim (λ(o31_0:Int × Int × (List Eng.Node)) =>some (o31_0.2.2,o31_0.1,o31_0.2.1)) (λ(o31_1:BA × Int × Int × BA × Int × Int × (List Eng.Node) × (List Int) × (List (MapC × Unit))) =>bif(!decide (o31_1.2.2.1=(6:Int))) then(some ([],(31:Int),(t.size:Int))) else(some (o31_1.2.2.2.2.2.2.1,(0:Int),(0:Int))))) o
noncomputable def told(t:BA)(S:json_reader):Option ((List Eng.Node) × Int × Int) :=
 (zap_p0 t S.text S.at_ S.state S.key S.code S.bad S.out S.open_ S.names).bind λo=>toldF t o
variable {t:BA} (hs:t.size<=1000000) {st:Int} {out:List Eng.Node} {op:List Int} {nm:List (MapC × Unit)} {key:BA} {cd bd:Int}
theorem told_end{a:Nat}(ha:t.size<=a):told t ⟨t,(a:Int),st,out,op,nm,key,cd,bd⟩=some (if st=6 then(out,0,0) else([],31,(t.size:Int))):=by
 unfold told zap_p0;rw[qAg (o:=.inr (t,(a:Int),st,key,cd,bd,out,op,nm)) (by
  show qB8 t t (a:Int) st key cd bd out op nm=_;unfold qB8;rw[deF (by omega),cnF])]
 rw[obS];show(bif(!decide (st=(6:Int))) then _ else _)=_;by_cases h:st=6
 ·rw[deT h,if_pos h];rfl
 ·rw[deF h,if_neg h];rfl
theorem qF1{a:Nat}(ha:a<t.size){g:json_reader × Bool}(h:zbi_s ⟨t,(a:Int),st,out,op,nm,key,cd,bd⟩=some g)(hg:g.2=false):told t ⟨t,(a:Int),st,out,op,nm,key,cd,bd⟩=some ([],g.1.code,g.1.bad):=by
 unfold told zap_p0;rw[qAg (o:=.inl (g.1.code,g.1.bad,[])) (by
  show qB8 t t (a:Int) st key cd bd out op nm=_;unfold qB8;rw[deT (by omega),cnT,h,obS,hg];rfl)]
 rfl
include hs in
theorem told_on{a b:Nat}(ha:a<t.size){st':Int}{out':List Eng.Node}{op':List Int}{nm':List (MapC × Unit)}{key':BA}{cd' bd':Int}
  (h:zbi_s ⟨t,(a:Int),st,out,op,nm,key,cd,bd⟩=some (⟨t,(b:Int),st',out',op',nm',key',cd',bd'⟩,true)) :
  told t ⟨t,(a:Int),st,out,op,nm,key,cd,bd⟩=told t ⟨t,(qAz t b:Int),st',out',op',nm',key',cd',bd'⟩:=by
 unfold told zap_p0;rw[qAm (y:=(t,(qAz t b:Int),st',key',cd',bd',out',op',nm')) (by
  show qB8 t t (a:Int) st key cd bd out op nm=_;unfold qB8;rw[deT (by omega),cnT,h,obS];show(zat_s _).bind _=_;rw[p_blank st' out' op' nm' key' cd' bd' t (by omega),obS])]
theorem nextC_in{a:Nat}(ha:a<t.size):nextC t a=bAt t a:=by unfold nextC;rw[if_pos ha]
theorem st_val{a:Nat}(ha:a<t.size)(hst:st=0\/(st=1/\bAt t a≠93)){g:json_reader × Bool}(h:zbk_s ⟨t,(a:Int),st,out,op,nm,key,cd,bd⟩ (bAt t a)=some g) :
  zbi_s ⟨t,(a:Int),st,out,op,nm,key,cd,bd⟩=some g:=by
 unfold zbi_s;rw[qE4,obS,nextC_in ha];dsimp only;rcases hst with rfl | ⟨rfl,h93⟩
 ·rw[deF (by decide),cnF,deT rfl,cnT,h];rfl
 ·rw[deT rfl,cnT,deF h93,cnF,h];rfl
theorem p_begin_deep{a:Nat}(c:Int)(ho:op.length=32):zar_s ⟨t,(a:Int),st,out,op,nm,key,cd,bd⟩ c=some (⟨t,(a:Int),st,out,op,nm,key,11,(a:Int)⟩,false):=by
 unfold zar_s;rw[deT (show(op.length:Int)=32 by omega),cnT,p_fail];rfl
theorem p_begin{a:Nat}(ha:a<=3000000){c:Int}(obj:Bool)(hc:decide (c=123)=obj)(hop:TopOK op out)(ho:op.length<32)(hnm:nm.length<=100)(hl:out.length<=3000000) :
  zar_s ⟨t,(a:Int),st,out,op,nm,key,cd,bd⟩ c=some (⟨t,((a+1:Nat):Int),bif obj then 3 else 1,layO op out key (nd0 (kindC obj) ⟨#[]⟩ false 0 0),op++[(out.length:Int)],nm++[((bif obj then some [] else none:MapC),())],⟨#[]⟩,cd,bd⟩,true):=by
 have lay:∀(st:Int) (k:Int) (names:MapC),zar_p0 t ((a+1:Nat):Int) st key cd bd out op nm k (⟨#[]⟩:BA) (⟨#[]⟩:BA) false (0:Int) (0:Int) names =
   some (true,t,((a+1:Nat):Int),st,⟨#[]⟩,cd,bd,layO op out key (nd0 k ⟨#[]⟩ false 0 0),op++[(out.length:Int)],nm++[(names,())]):=by
  intro st k names;unfold zar_p0;rw[p_lay st out op nm key cd bd t _ _ hop (by omega) hl,obS];dsimp only;have e:((layO op out key (⟨k,⟨#[]⟩,⟨#[]⟩,false,0,0⟩:Eng.Node)).length:Int) - 1=(out.length:Int):=by rw[layO_len];omega
  rw[e,qAb (by unfold qAc;omega),qAb (by simp only[List.length_cons,List.length_nil];omega),qAb (by simp only[List.length_cons,List.length_nil];omega)];rfl
 unfold zar_s;dsimp only;rw[deF (show ¬(op.length:Int)=32 by omega),cnF,qAb (by unfold qAc;omega),show(a:Int)+1=((a+1:Nat):Int) by omega,hc];cases obj with
 | true =>
  rw[cnT,lay];rfl
 | false =>
  rw[cnF,lay];rfl
theorem p_end{a:Nat}(ha:a<=3000000)(x:Int)(m:MapC × Unit)(ho:op.length<=100)(hnm:nm.length<=100) :
  zav_s ⟨t,(a:Int),st,out,op++[x],nm++[m],key,cd,bd⟩=some (⟨t,((a+1:Nat):Int),stB op,out,op,nm,key,cd,bd⟩,true):=by
 unfold zav_s;dsimp only;have e1:((op++[x]).length:Int) - 1=(op.length:Int):=by rw[List.length_append,List.length_singleton];omega
 have e2:((nm++[m]).length:Int) - 1=(nm.length:Int):=by rw[List.length_append,List.length_singleton];omega
 rw[e1,e2,qAb (by unfold qAc;omega),qAb (by unfold qAc;omega),qAb (by unfold qAc;omega),qAb (by rw[List.length_append];omega),qAb (by rw[List.length_append];omega),Int.toNat_natCast,Int.toNat_natCast,List.take_left' rfl,List.take_left' rfl,p_behind,obS];rfl
theorem st_end{a:Nat}(ha:a<t.size)(hs:t.size<=1000000)(obj:Bool)(hc:bAt t a=lastC obj)(x:Int)(m:MapC × Unit)(ho:op.length<=100)(hnm:nm.length<=100) :
  zbi_s ⟨t,(a:Int),bif obj then 3 else 1,out,op++[x],nm++[m],key,cd,bd⟩=some (⟨t,((a+1:Nat):Int),stB op,out,op,nm,key,cd,bd⟩,true):=by
 unfold zbi_s;rw[qE4,obS,nextC_in ha];dsimp only;cases obj with
 | true =>
  have hc:bAt t a=125:=hc;rw[cnT,deF (by decide),cnF,deF (by decide),cnF,deT rfl,cnT,deT hc,cnT,p_end (by omega) x m ho hnm];rfl
 | false =>
  have hc:bAt t a=93:=hc;rw[cnF,deT rfl,cnT,deT hc,cnT,p_end (by omega) x m ho hnm];rfl
theorem st_more{a:Nat}(ha:a<t.size)(hs:t.size<=1000000)(obj:Bool){p:Nat}(m:MapC × Unit)(ho:op.length<=100)(hnm:nm.length<=100)(hp:p<out.length)(hk:(out.getD p (ET.dft .node)).kind=kindC obj) :
  zbi_s ⟨t,(a:Int),5,out,op++[(p:Int)],nm++[m],key,cd,bd⟩ =
   if bAt t a=lastC obj then some (⟨t,((a+1:Nat):Int),stB op,out,op,nm,key,cd,bd⟩,true)
   else if bAt t a=44 then some (⟨t,((a+1:Nat):Int),bif obj then 2 else 0,out,op++[(p:Int)],nm++[m],key,cd,bd⟩,true)
   else some (⟨t,(a:Int),5,out,op++[(p:Int)],nm++[m],key,31,(a:Int)⟩,false):=by
 unfold zbi_s;rw[qE4,obS,nextC_in ha];dsimp only;rw[deF (by decide),cnF,deF (by decide),cnF,deF (by decide),cnF,deF (by decide),cnF,deF (by decide),cnF,deT rfl,cnT];unfold zba_s;dsimp only;have hlen:(op++[(p:Int)]).length=op.length+1:=by simp
 rw[snocI_toNat,snocI_getD,Int.toNat_natCast,hk];rw[qAb (by rw[hlen];unfold qAc;omega),qAb (by rw[hlen];omega),qAb (by rw[hlen];omega),qAb (by omega),qAb hp,qAb hp];cases obj with
 | true =>
  rw[show lastC true=125 from rfl,show decide (kindC true=7)=true from rfl,Bool.and_true,Bool.and_true,Bool.not_true,Bool.and_false,Bool.or_false];by_cases h1:bAt t a=125
  ·rw[if_pos h1,deF (by omega),cnF,cnF,deT h1,cnT,p_end (by omega) _ m ho hnm];rfl
  ·rw[if_neg h1];by_cases h2:bAt t a=44
   ·rw[if_pos h2,deT h2,cnT,qAb (by unfold qAc;omega),show(a:Int)+1=((a+1:Nat):Int) by omega];rfl
   ·rw[if_neg h2,deF h2,cnF,cnF,deF h1,cnF,p_odd];rfl
 | false =>
  rw[show lastC false=93 from rfl,show decide (kindC false=7)=false from rfl,Bool.and_false,Bool.and_false,Bool.not_false,Bool.and_true,Bool.false_or,cnF];by_cases h1:bAt t a=93
  ·rw[if_pos h1,deF (by omega),cnF,deT h1,cnT,p_end (by omega) _ m ho hnm];rfl
  ·rw[if_neg h1];by_cases h2:bAt t a=44
   ·rw[if_pos h2,deT h2,cnT,qAb (by unfold qAc;omega),show(a:Int)+1=((a+1:Nat):Int) by omega];rfl
   ·rw[if_neg h2,deF h2,cnF,deF h1,cnF,p_odd];rfl
theorem st_name{a:Nat}(ha:a<t.size)(hst:st=2\/(st=3/\bAt t a≠125)){g:json_reader × Bool}(h:bAt t a=34->zbb_s ⟨t,(a:Int),st,out,op,nm,key,cd,bd⟩=some g)(hg:g.1.out=out/\g.1.open_=op) :
  zbi_s ⟨t,(a:Int),st,out,op,nm,key,cd,bd⟩=if bAt t a=34 then some g else some (⟨t,(a:Int),st,out,op,nm,key,31,(a:Int)⟩,false):=by
 have hp0:zbi_p0 (bAt t a) t (a:Int) st key cd bd out op nm=if bAt t a=34 then some (g.2,g.1.text,g.1.at_,g.1.state,g.1.key,g.1.code,g.1.bad,g.1.names) else some (false,t,(a:Int),st,key,31,(a:Int),nm):=by
  unfold zbi_p0;by_cases h1:bAt t a=34
  ·rw[if_pos h1,deT h1,Bool.not_true,cnF,h h1];rfl
  ·rw[if_neg h1,deF h1,Bool.not_false,cnT,p_odd];rfl
 have fin:((zbi_p0 (bAt t a) t (a:Int) st key cd bd out op nm).bind λo16=>some ((⟨o16.2.1,o16.2.2.1,o16.2.2.2.1,out,op,o16.2.2.2.2.2.2.2,o16.2.2.2.2.1,o16.2.2.2.2.2.1,o16.2.2.2.2.2.2.1⟩:json_reader),o16.1))=if bAt t a=34 then some g else some (⟨t,(a:Int),st,out,op,nm,key,31,(a:Int)⟩,false):=by
  rw[hp0];by_cases h1:bAt t a=34
  ·rw[if_pos h1,if_pos h1,obS];obtain⟨r,b⟩:=g;obtain⟨e1,e2⟩:=hg;dsimp only at e1 e2 ⊢;rw[<-e1,<-e2]
  ·rw[if_neg h1,if_neg h1];rfl
 unfold zbi_s;rw[qE4,obS,nextC_in ha];dsimp only;rcases hst with rfl | ⟨rfl,h2⟩
 ·rw[deF (by decide),cnF,deF (by decide),cnF,deF (by decide),cnF,deT rfl,cnT];exact fin
 ·rw[deF (by decide),cnF,deF (by decide),cnF,deT rfl,cnT,deF h2,cnF];exact fin
theorem st_colon{a:Nat}(ha:a<t.size)(hs:t.size<=1000000):zbi_s ⟨t,(a:Int),4,out,op,nm,key,cd,bd⟩ =
  if bAt t a=58 then some (⟨t,((a+1:Nat):Int),0,out,op,nm,key,cd,bd⟩,true) else some (⟨t,(a:Int),4,out,op,nm,key,31,(a:Int)⟩,false):=by
 unfold zbi_s;rw[qE4,obS,nextC_in ha];dsimp only;rw[deF (by decide),cnF,deF (by decide),cnF,deF (by decide),cnF,deF (by decide),cnF,deT rfl,cnT];by_cases h:bAt t a=58
 ·rw[if_pos h,deT h,Bool.not_true,cnF,qAb (by unfold qAc;omega),show(a:Int)+1=((a+1:Nat):Int) by omega]
 ·rw[if_neg h,deF h,Bool.not_false,cnT,p_odd];rfl
theorem st_done{a:Nat}(ha:a<t.size):zbi_s ⟨t,(a:Int),6,out,op,nm,key,cd,bd⟩=some (⟨t,(a:Int),6,out,op,nm,key,31,(a:Int)⟩,false):=by
 unfold zbi_s;rw[qE4,obS];dsimp only;rw[deF (by decide),cnF,deF (by decide),cnF,deF (by decide),cnF,deF (by decide),cnF,deF (by decide),cnF,deF (by decide),cnF,p_odd];rfl
theorem snocM_getD(nm:List (MapC × Unit))(m d:MapC × Unit):(nm++[m]).getD nm.length d=m:=by simp[List.getD_eq_getElem?_getD]
theorem snocM_set(nm:List (MapC × Unit))(m d:MapC × Unit):(nm++[m]).set nm.length d=nm++[d]:=by
 rw[List.set_append_right _ _ (Nat.le_refl _),Nat.sub_self];rfl
theorem p_name{a:Nat}(ha:a<t.size)(hs:t.size<=1000000)(nmap:MapC)(hnm:nm.length<=100){names:List BA}(hR:NmR true nmap names) :
  ∃g,zbb_s ⟨t,(a:Int),st,out,op,nm++[(nmap,())],key,cd,bd⟩=some g/\g.1.out=out/\g.1.open_=op/\(match quoR t (t.size+1) (a+1) [] with
   | .bad c b=>g.1.code=c/\g.1.bad=(b:Int)/\g.2=false
   | .ok b l=>if qBe l∈names then g.1.code=34/\g.1.bad=(a:Int)/\g.2=false
    else g=(⟨t,(b:Int),4,out,op,nm++[(mput nmap (qBe l) 1,())],qBe l,cd,bd⟩,true)):=by
 unfold zbb_s;obtain⟨g,h1,h2⟩:=p_quo st out op (nm++[(nmap,())]) key cd bd t (by omega) a ha;rw[h1,obS];cases h:quoR t (t.size+1) (a+1) [] with
 | bad c b =>
  rw[h] at h2;obtain⟨e1,e2,e3⟩:=h2;rw[e3,Bool.not_false,cnT];exact⟨_,rfl,rfl,rfl,e1,e2,rfl⟩
 | ok b l =>
  rw[h] at h2;have h2:g=(⟨t,(b:Int),st,out,op,nm++[(nmap,())],key,cd,bd⟩,qBe l,true):=h2;rw[h2];dsimp only;have hlen:(nm++[(nmap,())]).length=nm.length+1:=by simp
  have e:Int.toNat (((nm++[(nmap,())]).length:Int) - 1)=nm.length:=by rw[hlen];omega
  rw[Bool.not_true,cnF,e,snocM_getD,snocM_set];rw[qAb (by rw[hlen];unfold qAc;omega),qAb (by rw[hlen];omega),qAb (by rw[hlen];omega),qAb (by rw[hlen];omega)];by_cases hm:qBe l∈names
  ·rw[deT ((hR.mem _ rfl).2 hm),cnT,p_fail];exact⟨_,rfl,rfl,rfl,by rw[if_pos hm];exact⟨rfl,rfl,rfl⟩⟩
  ·rw[deF (λh=>hm ((hR.mem _ rfl).1 h)),cnF,qAb (by rw[hlen];omega),qAb hR.some_];exact⟨_,rfl,rfl,rfl,by rw[if_neg hm]⟩
theorem scalR_key{a b:Nat}{l:List Eng.Node}(h:scalR t a=.ok b l):qFz ⟨#[]⟩ l=l:=by
 unfold scalR at h;repeat' split at h
 all_goals first | (cases h;rfl) | cases h
theorem valR_key:∀ {d a b:Nat} {l:List Eng.Node},valR t d a=.ok b l->qFz ⟨#[]⟩ l=l
 | 0,a,b,l,h=>by
  unfold valR at h;split at h
  ·cases h
  ·exact scalR_key h
 | d+1,a,b,l,h=>by
  unfold valR at h;split at h
  ·unfold boxR at h;split at h
   ·cases h;rfl
   ·split at h
    ·cases h
    ·cases h;rfl
  ·exact scalR_key h
def ValSim(t:BA)(d:Nat):Prop:=∀(a:Nat) (st:Int) (out:List Eng.Node) (op:List Int) (nm:List (MapC × Unit)) (key:BA) (cd bd:Int),a<=t.size->(st=0\/(st=1/\bAt t a≠93))->op.length+d=32->nm.length=op.length->TopOK op out->out.length<=a ->
 match valR t d a with
 | .bad c b=>told t ⟨t,(a:Int),st,out,op,nm,key,cd,bd⟩=some ([],c,(b:Int))
 | .ok b l=>told t ⟨t,(a:Int),st,out,op,nm,key,cd,bd⟩=told t ⟨t,(qAz t b:Int),stB op,upO op out++qFz key l,op,nm,⟨#[]⟩,cd,bd⟩
include hs in
theorem scal_sim{a:Nat}(ha:a<=t.size)(hst:st=0\/(st=1/\bAt t a≠93))(ho:op.length<=32)(hop:TopOK op out)(hl:out.length<=a)(hn:¬(bAt t a=91\/bAt t a=123)) :
  match scalR t a with
  | .bad c b=>told t ⟨t,(a:Int),st,out,op,nm,key,cd,bd⟩=some ([],c,(b:Int))
  | .ok b l=>told t ⟨t,(a:Int),st,out,op,nm,key,cd,bd⟩=told t ⟨t,(qAz t b:Int),stB op,upO op out++qFz key l,op,nm,⟨#[]⟩,cd,bd⟩:=by
 by_cases hlt:a<t.size
 ·obtain⟨g,hg,hg2⟩:=p_scal st out op nm key cd bd hop (by omega) (by omega) t (by omega) a hlt hn;have hstep:=st_val hlt hst hg;cases h:scalR t a with
  | bad c b =>
   rw[h] at hg2;obtain⟨e1,e2,e3⟩:=hg2;show told t _=_;rw[qF1 hlt hstep e3,e1,e2]
  | ok b l =>
   rw[h] at hg2;obtain⟨n,rfl,hg2⟩:=hg2;rw[hg2] at hstep;exact told_on hs hlt hstep
 ·have e:bAt t a = -1:=qB4 (by omega);have e2:scalR t a=.bad 31 a:=by
   unfold scalR;rw[e];rfl
  rw[e2];show told t _=_;rw[told_end (by omega),if_neg (by omega),show a=t.size by omega]
def qEp(key:BA)(obj:Bool)(k:Nat):Eng.Node:=setK key (nd0 (kindC obj) ⟨#[]⟩ false 0 (k:Int))
theorem upO_head(key:BA)(obj:Bool)(op:List Int)(pre acc:List Eng.Node)(k:Nat):upO (op++[(pre.length:Int)]) (pre++qEp key obj k::acc)=pre++qEp key obj (k+1)::acc:=by
 unfold upO;rw[last_snoc];dsimp only;rw[Int.toNat_natCast,List.set_append_right _ _ (Nat.le_refl _),Nat.sub_self,List.getD_eq_getElem?_getD,List.getElem?_append_right (Nat.le_refl _),Nat.sub_self];show pre++(bumpN (qEp key obj k)::acc)=_;congr 2
theorem head_getD(key:BA)(obj:Bool)(pre acc:List Eng.Node)(k:Nat)(d:Eng.Node):(pre++qEp key obj k::acc).getD pre.length d=qEp key obj k:=by
 rw[List.getD_eq_getElem?_getD,List.getElem?_append_right (Nat.le_refl _),Nat.sub_self];rfl
include hs in
theorem more_sim{obj:Bool}{hk:BA}{pre acc:List Eng.Node}{k:Nat}(nmap:MapC){c0:Nat}(hc0:c0<=t.size)(ho:op.length<=100)(hnm:nm.length=op.length) :
  told t ⟨t,(c0:Int),5,pre++qEp hk obj k::acc,op++[(pre.length:Int)],nm++[(nmap,())],⟨#[]⟩,cd,bd⟩ =
   if bAt t c0=lastC obj then told t ⟨t,(qAz t (c0+1):Int),stB op,pre++qEp hk obj k::acc,op,nm,⟨#[]⟩,cd,bd⟩
   else if bAt t c0=44 then told t ⟨t,(qAz t (c0+1):Int),bif obj then 2 else 0,pre++qEp hk obj k::acc,op++[(pre.length:Int)],nm++[(nmap,())],⟨#[]⟩,cd,bd⟩
   else some ([],31,(c0:Int)):=by
 by_cases hlt:c0<t.size
 ·have h:=st_more (out:=pre++qEp hk obj k::acc) (op:=op) (nm:=nm) (key:=⟨#[]⟩) (cd:=cd) (bd:=bd) hlt hs obj (p:=pre.length) (nmap,()) ho (by omega) (by simp) (by rw[head_getD];rfl);by_cases h1:bAt t c0=lastC obj
  ·rw[if_pos h1] at h ⊢;exact told_on hs hlt h
  ·rw[if_neg h1] at h ⊢;by_cases h2:bAt t c0=44
   ·rw[if_pos h2] at h ⊢;exact told_on hs hlt h
   ·rw[if_neg h2] at h ⊢;exact qF1 hlt h rfl
 ·have e:bAt t c0 = -1:=qB4 (by omega);have:=lastC_pos obj;rw[if_neg (by omega),if_neg (by omega),told_end (by omega),if_neg (by decide),show c0=t.size by omega]
include hs in
theorem row_sim{d:Nat}(hV:ValSim t d){obj:Bool}{hk:BA}{pre:List Eng.Node}(ho:op.length+(d+1)=32)(hnm:nm.length=op.length):∀(m a k:Nat) (acc:List Eng.Node) (names:List BA) (nmap:MapC) (st:Int),t.size - a<m->a<=t.size ->
  (bif obj then st=2\/(st=3/\bAt t a≠125) else st=0\/(st=1/\bAt t a≠93))->NmR obj nmap names->pre.length+1+acc.length<=a->k<=a ->
  match rowR t (valR t d) obj m a k acc names with
  | .bad c b=>told t ⟨t,(a:Int),st,pre++qEp hk obj k::acc,op++[(pre.length:Int)],nm++[(nmap,())],⟨#[]⟩,cd,bd⟩=some ([],c,(b:Int))
  | .ok b x=>told t ⟨t,(a:Int),st,pre++qEp hk obj k::acc,op++[(pre.length:Int)],nm++[(nmap,())],⟨#[]⟩,cd,bd⟩=told t ⟨t,(qAz t b:Int),stB op,pre++qEp hk obj x.1::x.2,op,nm,⟨#[]⟩,cd,bd⟩
 | 0,a,k,acc,names,nmap,st,h,_,_,_,_,_=>by omega
 | m+1,a,k,acc,names,nmap,st,hm,ha,hst,hR,hpa,hka=>by
  have hlenO:∀x:Int,(op++[x]).length=op.length+1:=λx=>by simp
  have hlenN:∀x:MapC × Unit,(nm++[x]).length=nm.length+1:=λx=>by simp
  have htop:∀k acc,k<=a->TopOK (op++[(pre.length:Int)]) (pre++qEp hk obj k::acc):=λk acc hk'=>.inr ⟨op,pre.length,rfl,by simp,by
   rw[head_getD];show qAc ((k:Int)+1);unfold qAc;omega⟩
  have after:∀(b:Nat) (x:BA × List Eng.Node) (nmap':MapC),a<b->b<=t.size->x.2.length<=b - a->NmR obj nmap' (names++[x.1])->qGi t (valR t d) obj names a=.ok b x ->
    told t ⟨t,(a:Int),st,pre++qEp hk obj k::acc,op++[(pre.length:Int)],nm++[(nmap,())],⟨#[]⟩,cd,bd⟩=told t ⟨t,(qAz t b:Int),5,pre++qEp hk obj (k+1)::(acc++x.2),op++[(pre.length:Int)],nm++[(nmap',())],⟨#[]⟩,cd,bd⟩ ->
    match rowR t (valR t d) obj (m+1) a k acc names with
    | .bad c b=>told t ⟨t,(a:Int),st,pre++qEp hk obj k::acc,op++[(pre.length:Int)],nm++[(nmap,())],⟨#[]⟩,cd,bd⟩=some ([],c,(b:Int))
    | .ok b x=>told t ⟨t,(a:Int),st,pre++qEp hk obj k::acc,op++[(pre.length:Int)],nm++[(nmap,())],⟨#[]⟩,cd,bd⟩=told t ⟨t,(qAz t b:Int),stB op,pre++qEp hk obj x.1::x.2,op,nm,⟨#[]⟩,cd,bd⟩:=by
   intro b x nmap' hb1 hb2 hx hR' hi ht;have k1:=qCs t b;have k2:=qBt t b hb2;rw[ht,more_sim hs nmap' k2 (by omega) hnm];unfold rowR;rw[hi];dsimp only;by_cases h1:bAt t (qAz t b)=lastC obj
   ·rw[if_pos h1,if_pos h1]
   ·rw[if_neg h1,if_neg h1];by_cases h2:bAt t (qAz t b)=44
    ·rw[if_pos h2,if_pos h2];have h3:=qBp (t:=t) (a:=qAz t b) (by omega);have k3:=qCs t (qAz t b+1);have k4:=qBt t (qAz t b+1) (by omega);exact row_sim hV ho hnm m (qAz t (qAz t b+1)) (k+1) (acc++x.2) (names++[x.1]) nmap' (bif obj then 2 else 0) (by omega) k4 (by cases obj <;> exact .inl rfl) hR' (by rw[List.length_append];omega) (by omega)
    ·rw[if_neg h2,if_neg h2]
  cases obj with
  | false =>
   have hv:=hV a st (pre++qEp hk false k::acc) (op++[(pre.length:Int)]) (nm++[(nmap,())]) ⟨#[]⟩ cd bd ha hst (by rw[hlenO];omega) (by rw[hlenO,hlenN];omega) (htop k acc hka) (by simp only[List.length_append,List.length_cons];omega);cases h:valR t d a with
   | bad c b =>
    rw[h] at hv;unfold rowR qGi;rw[if_neg (by decide),h];exact hv
   | ok b l =>
    rw[h] at hv;have hadv:=valR_adv t d a b l ha h;refine after b (⟨#[]⟩,l) nmap hadv.1 hadv.2.1 hadv.2.2.2 ⟨hR.some_,λs hs=>by cases hs⟩ (by unfold qGi;rw[if_neg (by decide),h]) ?_;have hv:told t _=told t _:=hv;rw[hv,upO_head,valR_key h];have e5:stB (op++[(pre.length:Int)])=5:=by unfold stB;rw[if_neg (by rw[hlenO];omega)]
    rw[e5,List.append_assoc];rfl
  | true =>
   by_cases hlt:a<t.size
   ·obtain⟨g,hg,hgo,hgp,hg2⟩:=p_name (st:=st) (out:=pre++qEp hk true k::acc) (op:=op++[(pre.length:Int)]) (nm:=nm) (key:=⟨#[]⟩) (cd:=cd) (bd:=bd) hlt hs nmap (by omega) hR;have hstep:=st_name (nm:=nm++[(nmap,())]) hlt hst (λ_=>hg) ⟨hgo,hgp⟩;by_cases h34:bAt t a=34
    ·rw[if_pos h34] at hstep;cases hq:quoR t (t.size+1) (a+1) [] with
     | bad c b =>
      rw[hq] at hg2;obtain⟨e1,e2,e3⟩:=hg2;unfold rowR qGi;rw[if_pos rfl,if_pos h34,hq];dsimp only;rw[qF1 hlt hstep e3,e1,e2]
     | ok b l =>
      rw[hq] at hg2;have hqo:=quoR_ok hq (by simp);dsimp only at hg2;by_cases hmem:qBe l∈names
      ·rw[if_pos hmem] at hg2;obtain⟨e1,e2,e3⟩:=hg2;unfold rowR qGi;rw[if_pos rfl,if_pos h34,hq];dsimp only;rw[if_pos hmem];dsimp only;rw[qF1 hlt hstep e3,e1,e2]
      ·rw[if_neg hmem] at hg2;rw[hg2] at hstep;have t1:=told_on hs hlt hstep;have k1:=qCs t b;have k2:=qBt t b hqo.2.1;by_cases hlt2:qAz t b<t.size
       ·have hcol:=st_colon (out:=pre++qEp hk true k::acc) (op:=op++[(pre.length:Int)]) (nm:=nm++[(mput nmap (qBe l) 1,())]) (key:=qBe l) (cd:=cd) (bd:=bd) hlt2 hs;by_cases h58:bAt t (qAz t b)=58
        ·rw[if_pos h58] at hcol;have t2:=told_on hs hlt2 hcol;have k3:=qCs t (qAz t b+1);have k4:=qBt t (qAz t b+1) (by omega);have hv:=hV (qAz t (qAz t b+1)) 0 (pre++qEp hk true k::acc) (op++[(pre.length:Int)]) (nm++[(mput nmap (qBe l) 1,())]) (qBe l) cd bd k4 (.inl rfl) (by rw[hlenO];omega) (by rw[hlenO,hlenN];omega) (htop k acc hka) (by simp only[List.length_append,List.length_cons];omega);cases h:valR t d (qAz t (qAz t b+1)) with
         | bad c b' =>
          rw[h] at hv;unfold rowR qGi;rw[if_pos rfl,if_pos h34,hq];dsimp only;rw[if_neg hmem,if_pos h58,h];dsimp only;rw[t1,t2];exact hv
         | ok b' y =>
          rw[h] at hv;have hadv:=valR_adv t d _ b' y k4 h;refine after b' (qBe l,qFz (qBe l) y) (mput nmap (qBe l) 1) (by omega) hadv.2.1 (by rw[setKey_len];omega) (hR.put _) (by
           unfold qGi;rw[if_pos rfl,if_pos h34,hq];dsimp only;rw[if_neg hmem,if_pos h58,h]) ?_
          have hv:told t _=told t _:=hv;rw[t1,t2,hv,upO_head];have e5:stB (op++[(pre.length:Int)])=5:=by unfold stB;rw[if_neg (by rw[hlenO];omega)]
          rw[e5,List.append_assoc];rfl
        ·rw[if_neg h58] at hcol;unfold rowR qGi;rw[if_pos rfl,if_pos h34,hq];dsimp only;rw[if_neg hmem,if_neg h58];dsimp only;rw[t1];exact qF1 hlt2 hcol rfl
       ·have h58:¬bAt t (qAz t b)=58:=by rw[qB4 (by omega)];decide
        unfold rowR qGi;rw[if_pos rfl,if_pos h34,hq];dsimp only;rw[if_neg hmem,if_neg h58];dsimp only;rw[t1,told_end (by omega),if_neg (by decide),show qAz t b=t.size by omega]
    ·rw[if_neg h34] at hstep;unfold rowR qGi;rw[if_pos rfl,if_neg h34];exact qF1 hlt hstep rfl
   ·have h34:¬bAt t a=34:=by rw[qB4 (by omega)];decide
    unfold rowR qGi;rw[if_pos rfl,if_neg h34];dsimp only;have hst6:¬st=6:=by
     have hst:st=2\/(st=3/\bAt t a≠125):=hst;omega
    rw[told_end (by omega),if_neg hst6,show a=t.size by omega]
include hs in
theorem val_sim:∀d:Nat,ValSim t d
 | 0=>λa st out op nm key cd bd ha hst ho hnm hop hl=>by
  unfold valR;by_cases hb:bAt t a=91\/bAt t a=123
  ·have hlt:=qBp (t:=t) (a:=a) (by omega);rw[if_pos hb];have hv:zbk_s ⟨t,(a:Int),st,out,op,nm,key,cd,bd⟩ (bAt t a)=some (⟨t,(a:Int),st,out,op,nm,key,11,(a:Int)⟩,false):=by
    unfold zbk_s;rw[qBw (p:=bAt t a=91\/bAt t a=123) (by simp),if_pos hb,p_begin_deep _ (by omega)];rfl
   exact qF1 hlt (st_val hlt hst hv) rfl
  ·rw[if_neg hb];exact scal_sim hs ha hst (by omega) hop hl hb
 | d+1=>λa st out op nm key cd bd ha hst ho hnm hop hl=>by
  unfold valR;by_cases hb:bAt t a=91\/bAt t a=123
  ·have hlt:=qBp (t:=t) (a:=a) (by omega);rw[if_pos hb];generalize hobj:decide (bAt t a=123)=obj
   have hv:zbk_s ⟨t,(a:Int),st,out,op,nm,key,cd,bd⟩ (bAt t a)=some (⟨t,((a+1:Nat):Int),bif obj then 3 else 1,layO op out key (nd0 (kindC obj) ⟨#[]⟩ false 0 0),op++[(out.length:Int)],nm++[((bif obj then some [] else none:MapC),())],⟨#[]⟩,cd,bd⟩,true):=by
    unfold zbk_s;rw[qBw (p:=bAt t a=91\/bAt t a=123) (by simp),if_pos hb,p_begin (by omega) obj hobj hop (by omega) (by omega) (by omega)];rfl
   have t1:=told_on hs hlt (st_val hlt hst hv);have k1:=qCs t (a+1);have k2:=qBt t (a+1) (by omega);have elay:layO op out key (nd0 (kindC obj) ⟨#[]⟩ false 0 0)=upO op out++qEp key obj 0::[]:=rfl;have elen:out.length=(upO op out).length:=(upO_len op out).symm;rw[elay,elen] at t1;unfold boxR;by_cases hla:bAt t (qAz t (a+1))=lastC obj
   ·rw[if_pos hla];have:=lastC_pos obj;have hlt2:=qBp (t:=t) (a:=qAz t (a+1)) (by omega);have t2:=told_on hs hlt2 (st_end (out:=upO op out++qEp key obj 0::[]) (op:=op) (nm:=nm) (key:=⟨#[]⟩) (cd:=cd) (bd:=bd) hlt2 hs obj hla ((upO op out).length:Int) ((bif obj then some [] else none:MapC),()) (by omega) (by omega));show told t _=told t _;rw[t1,t2];rfl
   ·rw[if_neg hla];have hr:=row_sim (op:=op) (nm:=nm) (cd:=cd) (bd:=bd) hs (val_sim d) (obj:=obj) (hk:=key) (pre:=upO op out) (by omega) hnm (t.size+1) (qAz t (a+1)) 0 [] [] (bif obj then some [] else none) (bif obj then 3 else 1) (by omega) k2 (by
     cases obj with
     | true=>exact .inr ⟨rfl,hla⟩
     | false=>exact .inr ⟨rfl,hla⟩) (by
     cases obj with
     | true=>exact⟨rfl,λs _=>by
       show 0<(mfind [] s).getD 0↔_;simp[mfind]⟩
     | false=>exact⟨rfl,λs h=>by cases h⟩) (by rw[<-elen];simp only[List.length_nil];omega) (by omega)
    cases h:rowR t (valR t d) obj (t.size+1) (qAz t (a+1)) 0 [] [] with
    | bad c b =>
     rw[h] at hr;show told t _=_;rw[t1];exact hr
    | ok b x =>
     rw[h] at hr;show told t _=told t _;rw[t1];exact hr
  ·rw[if_neg hb];exact scal_sim hs ha hst (by omega) hop hl hb
theorem p_Parse(t:BA):zap_s t=some (parseR t):=by
 unfold zap_s parseR;by_cases h:262144<t.size
 ·rw[deT (by omega),cnT,if_pos h]
 ·rw[deF (by omega),cnF,if_neg h,show(0:Int)=((0:Nat):Int) from rfl,p_blank _ _ _ _ _ _ _ t (by omega),obS];show told t ⟨t,(qAz t 0:Int),0,[],[],[],⟨#[]⟩,0,0⟩=_;have k:=qBt t 0 (by omega);have hv:=val_sim (t:=t) (by omega) 32 (qAz t 0) 0 [] [] [] ⟨#[]⟩ 0 0 k (.inl rfl) rfl rfl (.inl rfl) (by simp);unfold readR;cases hr:valR t 32 (qAz t 0) with
  | bad c b =>
   rw[hr] at hv;exact hv
  | ok b l =>
   rw[hr] at hv;have hv:told t _=told t _:=hv;rw[hv,valR_key hr];dsimp only;by_cases hl:qAz t b<t.size
   ·rw[if_pos hl];exact qF1 hl (st_done hl) rfl
   ·rw[if_neg hl,told_end (by omega)];rfl
end Go.Proofs.YtbokbmjcodoccacDoor
namespace Go.Proofs.YtbokbmjcodoccacDoor
open Go.Eng
theorem readR_len{t:BA}{b:Nat}{l:List Eng.Node}(h:readR t=.ok b l):l≠[]/\l.length<=t.size:=by
 unfold readR at h;have k:=qBt t 0 (by omega);split at h
 ·cases h
 ·rename_i b1 l1 h1;have:=valR_adv t 32 _ _ _ k h1;split at h
  ·cases h
  ·cases h;exact⟨this.2.2.1,by omega⟩
theorem w64_id{x:Int}(h:qAc x):w64 x=x:=by
 unfold qAc at h;unfold w64 IntKind.wrap;simp[IntKind.signed,IntKind.bits];omega
def jbF(v:List Eng.Node):Nat->Int->Nat->Nat
 | 0,_,a=>a
 | f+1,left,a=>if 0<left/\a<v.length then jbF v f (w64 (left+w64 ((v.getD a (ET.dft .node)).kids - 1))) (a+1) else a
theorem p_jb(v:List Eng.Node)(hv:v.length<=2000000):∀(f:Nat) (left:Int) (a:Nat),v.length - a<=f->zam_p0 (a:Int) left v=some (jbF v f left a:Int)
 | 0,left,a,h=>by
  unfold zam_p0;refine qAg ?_;unfold qDy;dsimp only;rw[deF (show ¬(a:Int)<v.length by omega),Bool.and_false,cnF];rfl
 | f+1,left,a,h=>by
  unfold jbF;by_cases hc:0<left/\a<v.length
  ·rw[if_pos hc];have ih:=p_jb v hv f (w64 (left+w64 ((v.getD a (ET.dft .node)).kids - 1))) (a+1) (by omega);unfold zam_p0 at ih ⊢;rw[qAm (y:=(((a+1:Nat):Int),w64 (left+w64 ((v.getD a (ET.dft .node)).kids - 1)))) ?_]
   ·exact ih
   ·unfold qDy;dsimp only;rw[deT hc.1,deT (show(a:Int)<v.length by omega),Bool.and_self,cnT,qAb (by omega),qAb (by omega),qAb (by omega),qAb (by unfold qAc;omega)];rfl
  ·rw[if_neg hc];unfold zam_p0;refine qAg ?_;unfold qDy;dsimp only;have:(decide (0<left) && decide ((a:Int)<v.length))=false:=by
    rw[Bool.and_eq_false_iff,decide_eq_false_iff_not,decide_eq_false_iff_not];omega
   rw[this,cnF]
theorem p_jBehind(v:List Eng.Node)(hv:v.length<=2000000){a:Nat}(ha:a<v.length):zam_s v (a:Int)=some (jbF v (v.length - a) 1 a:Int):=by
 unfold zam_s;rw[deF (show ¬(a:Int)<0 by omega),deF (show ¬(v.length:Int)<=a by omega),Bool.or_self,cnF,p_jb v hv (v.length - a) 1 a (Nat.le_refl _)];rfl
theorem jbF_trees{v:List Eng.Node}(hv:v.length<=2000000){k a e:Nat}(h:Trees v k a e):∀(L:Nat),L+e<=4000000->jbF v (v.length - a) ((L+k:Nat):Int) a=jbF v (v.length - e) (L:Int) e:=by
 induction h with
 | nil a ha=>intro L hL;rfl
 | @cons k a b e n hn h0 h1 h2 i1 i2 =>
  intro L hL;have ha:=(List.getElem?_eq_some_iff.1 hn).1;have l1:=h1.le;have l2:=h2.le;obtain⟨m,hm⟩:=Int.eq_ofNat_of_zero_le h0;have hmn:n.kids.toNat=m:=by omega
  rw[hmn] at i1 l1;have ih1:=i1 (L+k) (by omega);rw[i2 L hL] at ih1;rw[<-ih1,show v.length - a=(v.length - (a+1))+1 by omega];conv=>lhs;unfold jbF
  rw[if_pos ⟨by omega,ha⟩,nd_get hn,hm,w64_id (x:=(m:Int) - 1) (by unfold qAc;omega),w64_id (by unfold qAc;omega)];congr 1
  omega
theorem jBehind_tree{v:List Eng.Node}(hv:v.length<=2000000){a e:Nat}(h:Tree v a e):zam_s v (a:Int)=some (e:Int):=by
 have hl:=Trees.le h;rw[p_jBehind v hv (by omega)];have:=jbF_trees hv h 0 (by omega);rw[show((0+1:Nat):Int)=1 from rfl] at this;rw[this];congr 1
 cases hf:v.length - e with
 | zero=>rfl
 | succ f =>
  unfold jbF;rw[if_neg (λh=>by have:=h.1;simp at this)]
def upN(l:List Nat):List Int:=l.map λx:Nat=>(x:Int)
theorem qEl(l:List Nat):(upN l).length=l.length:=by simp[upN]
theorem j_kids_loop{v:List Eng.Node}(hv:v.length<=2000000){a:Nat}(ha:a<v.length){kids:Nat}(hk:(v.getD a (ET.dft .node)).kids=kids)(hkb:kids<=4000000) :
  ∀(k i next e:Nat) (l:List Nat) (out:List Int),i+k=kids->out.length=i->Trees v k next e->qDg v k next l e->zan_p0 (a:Int) (next:Int) (i:Int) v out=some (out++upN l)
 | 0,i,next,e,l,out,h1,ho,h,hp=>by
  obtain⟨rfl,rfl⟩:=hp;unfold zan_p0;refine qAg ?_;unfold qFb;dsimp only;rw[qAb (by omega),qAb (by omega),qAb (by omega),Int.toNat_natCast,hk,deF (show ¬(i:Int)<kids by omega),Bool.false_and,Bool.false_and,cnF];simp[upN]
 | k+1,i,next,e,l,out,h1,ho,h,hp=>by
  obtain⟨b,r,rfl,g1,g3⟩:=hp;obtain⟨b',g1',g2⟩:=h.one;have:=Trees.det g1 g1';subst this;have l1:=Trees.le g1;have ih:=j_kids_loop hv ha hk hkb k (i+1) b e r (out++[(next:Int)]) (by omega) (by simp[ho]) g2 g3;unfold zan_p0 at ih ⊢;rw[qAm (y:=((b:Int),((i+1:Nat):Int),out++[(next:Int)])) ?_]
  ·rw[ih];simp[upN]
  ·unfold qFb;dsimp only;rw[qAb (by omega),qAb (by omega),qAb (by omega),Int.toNat_natCast,hk,deT (show(i:Int)<kids by omega),deT (show(0:Int)<=next by omega),deT (show(next:Int)<v.length by omega),Bool.and_self,Bool.and_self,cnT];rw[qAb (by simp only[List.length_singleton,ho];omega),jBehind_tree hv g1,obS];exact(qAb (by unfold qAc;omega) _).trans rfl
theorem j_kids{v:List Eng.Node}(hv:v.length<=2000000){a e:Nat}{nd:Eng.Node}(h1:v[a]?=some nd)(h2:0<=nd.kids)(h3:Trees v nd.kids.toNat (a+1) e){l:List Nat}(hl:qDg v nd.kids.toNat (a+1) l e):zan_s v (a:Int)=some (upN l):=by
 have ha:=(List.getElem?_eq_some_iff.1 h1).1;have l3:=h3.le;obtain⟨kk,hkk⟩:=Int.eq_ofNat_of_zero_le h2;rw[hkk,Int.toNat_natCast] at h3 l3 hl;unfold zan_s;rw[deF (show ¬(a:Int)<0 by omega),deF (show ¬(v.length:Int)<=a by omega),Bool.or_self,cnF,qAb (by unfold qAc;omega)];have:=j_kids_loop hv ha (kids:=kk) (by rw[nd_get h1,hkk]) (by omega) kk 0 (a+1) e l [] (by omega) rfl h3 hl;rw[show((a+1:Nat):Int)=(a:Int)+1 by omega,show((0:Nat):Int)=0 from rfl] at this;rw[this];rfl
def qCg(v:List Eng.Node)(key:BA):List Nat->Option Nat
 | []=>none
 | p::r=>if(v.getD p (ET.dft .node)).key=key then some p else qCg v key r
theorem j_mem_loop{v:List Eng.Node}(hv:v.length<=2000000){a:Nat}(ha:a<v.length){kids:Nat}(hk:(v.getD a (ET.dft .node)).kids=kids)(hkb:kids<=4000000)(key:BA) :
  ∀(k i next e:Nat) (l:List Nat),i+k=kids->Trees v k next e->qDg v k next l e->zao_p0 (a:Int) key (next:Int) (i:Int) v=some (match qCg v key l with | some p=>.inl (p:Int) | none=>.inr ())
 | 0,i,next,e,l,h1,h,hp=>by
  obtain⟨rfl,rfl⟩:=hp;unfold zao_p0;refine qAg ?_;unfold qDz;dsimp only;rw[qAb (by omega),qAb (by omega),qAb (by omega),Int.toNat_natCast,hk,deF (show ¬(i:Int)<kids by omega),Bool.false_and,Bool.false_and,cnF];rfl
 | k+1,i,next,e,l,h1,h,hp=>by
  obtain⟨b,r,rfl,g1,g3⟩:=hp;obtain⟨b',g1',g2⟩:=h.one;have:=Trees.det g1 g1';subst this;have l1:=Trees.le g1;have ih:=j_mem_loop hv ha hk hkb key k (i+1) b e r (by omega) g2 g3;unfold qCg;by_cases hkey:(v.getD next (ET.dft .node)).key=key
  ·rw[if_pos hkey];unfold zao_p0;refine qAg ?_;unfold qDz;dsimp only;rw[qAb (by omega),qAb (by omega),qAb (by omega),Int.toNat_natCast,hk,deT (show(i:Int)<kids by omega),deT (show(0:Int)<=next by omega),deT (show(next:Int)<v.length by omega),Bool.and_self,Bool.and_self,cnT];rw[qAb (by omega),qAb (by omega),qAb (by omega),Int.toNat_natCast,deT hkey,cnT]
  ·rw[if_neg hkey,<-ih];unfold zao_p0;rw[qAm (y:=((b:Int),((i+1:Nat):Int))) ?_];unfold qDz;dsimp only;rw[qAb (by omega),qAb (by omega),qAb (by omega),Int.toNat_natCast,hk,deT (show(i:Int)<kids by omega),deT (show(0:Int)<=next by omega),deT (show(next:Int)<v.length by omega),Bool.and_self,Bool.and_self,cnT];rw[qAb (by omega),qAb (by omega),qAb (by omega),Int.toNat_natCast,deF hkey,cnF,jBehind_tree hv g1,obS];exact(qAb (by unfold qAc;omega) _).trans rfl
theorem places_in{v:List Eng.Node}:∀ {k a e:Nat} {l:List Nat},qDg v k a l e->∀p∈l,p<v.length
 | 0,a,e,l,h,p,hp=>by rw[h.1] at hp;cases hp
 | k+1,a,e,l,h,p,hp=>by
  obtain⟨b,r,rfl,g1,g2⟩:=h;rcases List.mem_cons.1 hp with rfl | hp
  ·have:=Trees.le g1;omega
  ·exact places_in g2 p hp
def memI:Option Nat->Int
 | none => -1
 | some p=>(p:Int)
theorem j_member{v:List Eng.Node}(hv:v.length<=2000000){a e:Nat}{nd:Eng.Node}(h1:v[a]?=some nd)(h2:0<=nd.kids)(h3:Trees v nd.kids.toNat (a+1) e){l:List Nat}(hl:qDg v nd.kids.toNat (a+1) l e)(key:BA) :
  zao_s v (a:Int) key=some (if nd.kind=7 then memI (qCg v key l) else -1):=by
 have ha:=(List.getElem?_eq_some_iff.1 h1).1;have l3:=h3.le;have hlen:=hl.len;obtain⟨kk,hkk⟩:=Int.eq_ofNat_of_zero_le h2;rw[hkk,Int.toNat_natCast] at h3 l3 hl hlen;have hj:=j_mem_loop hv ha (kids:=kk) (by rw[nd_get h1,hkk]) (by omega) key kk 0 (a+1) e l (by omega) h3 hl;rw[show((a+1:Nat):Int)=(a:Int)+1 by omega,show((0:Nat):Int)=0 from rfl] at hj;have e1:(decide ((a:Int)<0) || decide ((v.length:Int)<=a))=false:=by
  rw[deF (show ¬(a:Int)<0 by omega),deF (show ¬(v.length:Int)<=a by omega)];rfl
 unfold zao_s;rw[e1];simp only[Int.toNat_natCast];rw[qAb (λ_=>by omega),qAb (λ_=>by omega),qAb (λ_=>by omega),Bool.false_or];by_cases h7:nd.kind=7
 ·have h7':(v.getD a (ET.dft .node)).kind=7:=by rw[nd_get h1];exact h7
  rw[deT h7',Bool.not_true,cnF,qAb (by unfold qAc;omega),hj,obS,if_pos h7];cases hf:qCg v key l with
  | none=>rfl
  | some p=>rfl
 ·have h7':¬(v.getD a (ET.dft .node)).kind=7:=by rw[nd_get h1];exact h7
  rw[deF h7',Bool.not_false,cnT,if_neg h7]
end Go.Proofs.YtbokbmjcodoccacDoor
