/-
  Functions as the engine reads them (printed by gen.py).
-/
import Derived.Test.YtobmafbliahplaaDoorDecKey
import Derived.Test.YtobmafbliahplaaDoorHC
import Derived.Test.YtobmafbliahplaaDoorEngO
import Derived.Test.YtobmafbliahplaaDoorProg
import Derived.Test.YtobmafbliahplaaDoorHB
import Derived.Test.YtobmafbliahplaaDoorJR
import Derived.Test.YtobmafbliahplaaDoorPSha
import Derived.Test.YtobmafbliahplaaDoorHR
namespace Go.Proofs.YtobmafbliahplaaDoor
open Go.Eng
set_option linter.unusedVariables false
set_option linter.unusedSimpArgs false
theorem getD_str {l:List BA} {i:Nat} (h:i<l.length):l.getD i (ET.dft .str)=l[i]:=by simp [List.getD,h]
theorem index_loop (v:BA) (l:List BA) (hl:l.length≤3000000):∀(j i:Nat),i+j=l.length →
  (∃k:Nat,zcr_p0 v (l.length:Int) (i:Int) l=some (.inl (k:Int))∧v∈l.drop i)∨(zcr_p0 v (l.length:Int) (i:Int) l=some (.inr ())∧¬v∈l.drop i)
 | 0,i,h=>by
  refine .inr ⟨?_,?_⟩
  ·unfold zcr_p0;refine qAe ?_;unfold qC6;rw [deF (by omega),cnF]
  ·rw [List.drop_eq_nil_of_le (by omega)];exact fun h=>by cases h
 | j+1,i,h=>by
  have hi:i<l.length:=by omega
  have hd:l.drop i=l[i]::l.drop (i+1):=List.drop_eq_getElem_cons hi;by_cases he:v=l[i]
  ·refine .inl ⟨i,?_,?_⟩
   ·unfold zcr_p0;refine qAe ?_;unfold qC6;rw [deT (by omega),cnT,qAb (by omega),qAb (by omega),Int.toNat_natCast,getD_str hi,deT he,cnT]
   ·rw [hd,he]; exact List.mem_cons_self
  ·have hst:qC6 v (l.length:Int) (i:Int) l=some (.inl ((i+1:Nat):Int)):=by
    unfold qC6;rw [deT (by omega),cnT,qAb (by omega),qAb (by omega),Int.toNat_natCast,getD_str hi,deF he,cnF];exact qAb (by unfold qAc; omega) _
   have hm:v∈l.drop i↔v∈l.drop (i+1):=by rw [hd,List.mem_cons]; simp [he]
   have ih:=index_loop v l hl j (i+1) (by omega);rw [hm];unfold zcr_p0 at ih ⊢;rw [qAh hst];exact ih
def inB (l:List BA) (v:BA):Bool:=l.any fun s=>decide (s=v)
theorem inB_iff {l:List BA} {v:BA}:inB l v=true↔v∈l:=by
 unfold inB;rw [List.any_eq_true];constructor
 ·rintro ⟨x,hx,h⟩
  rw [←of_decide_eq_true h];exact hx
 ·exact fun h=>⟨v,h,deT rfl⟩
theorem contains_is (l:List BA) (hl:l.length≤3000000) (v:BA):zcp_s l v=some (inB l v):=by
 have h:=index_loop v l hl l.length 0 (by omega);rw [List.drop_zero,show ((0:Nat):Int)=0 from rfl,←inB_iff] at h;unfold zcp_s zcr_s;rcases h with ⟨k,h,hm⟩ | ⟨h,hm⟩
 ·rw [h,obS,Sum.elim_inl,obS,deT (by omega),hm]
 ·rw [h,obS,Sum.elim_inr,obS,deF (by omega)];cases hb:inB l v with
  | true=>exact (hm hb).elim
  | false=>rfl
theorem any_loop (l:List BA) (P:BA→Bool) (step:Int→Option (Int ⊕ (Int ⊕ Unit))) (hs:∀(i:Nat) (h:i<l.length),step (i:Int)=some (bif P l[i] then .inr (.inl (i:Int)) else .inl ((i:Int)+1))) (he:step (l.length:Int)=some (.inr (.inr ()))):∀(j i:Nat),i+j=l.length →
  (∃k:Nat,qAn step (i:Int)=some (.inl (k:Int))∧(l.drop i).any P=true)∨(qAn step (i:Int)=some (.inr ())∧(l.drop i).any P=false)
 | 0,i,h=>by
  refine .inr ⟨qAe ?_,by rw [List.drop_eq_nil_of_le (by omega)]; rfl⟩;rw [show i=l.length by omega];exact he
 | j+1,i,h=>by
  have hi:i<l.length:=by omega
  have hd:l.drop i=l[i]::l.drop (i+1):=List.drop_eq_getElem_cons hi;have h1:=hs i hi;rw [hd,List.any_cons];cases hp:P l[i] with
  | true =>
   rw [hp,cnT] at h1;exact .inl ⟨i,qAe h1,rfl⟩
  | false =>
   rw [hp,cnF] at h1;rw [Bool.false_or,qAh h1];exact any_loop l P step hs he j (i+1) (by omega)
theorem any_is (l:List BA) (P:BA→Bool) {step:Int→Option (Int ⊕ (Int ⊕ Unit))} (hs:∀(i:Nat) (h:i<l.length),step (i:Int)=some (bif P l[i] then .inr (.inl (i:Int)) else .inl ((i:Int)+1))) (he:step (l.length:Int)=some (.inr (.inr ()))) :
  (((qAn step 0).bind fun o3=>(Sum.elim (fun (o3_0:Int)=>some o3_0) (fun (o3_1:Unit)=>some (-1:Int))) o3).bind fun r1=>some (decide ((0:Int)≤r1)))=some (l.any P):=by
 have h:=any_loop l P step hs he l.length 0 (by omega);rw [List.drop_zero,show ((0:Nat):Int)=0 from rfl] at h;rcases h with ⟨k,h,hm⟩ | ⟨h,hm⟩
 ·rw [h,hm,obS,Sum.elim_inl,obS,deT (by omega)]
 ·rw [h,hm,obS,Sum.elim_inr,obS,deF (by omega)]
theorem others_is (l:List BA) (hl:l.length≤3000000) (f:idtoken_check):zco_s l f=some (l.any fun s=>!decide (s=f.w.client)):=by
 unfold zco_s zcq_s zcq_p0;refine any_is l (fun s=>!decide (s=f.w.client)) (fun i hi=>?_) ?_
 ·unfold qFq;rw [deT (by omega),cnT,qAb (by omega),qAb (by omega),Int.toNat_natCast,getD_str hi];unfold zai_s;rw [obS];dsimp only;cases decide (l[i]=f.w.client) with
  | true =>
   rw [Bool.not_true,cnF,cnF];exact qAb (by unfold qAc; omega) _
  | false=>rfl
 ·unfold qFq;rw [deF (by omega),cnF]
def qGc (w:qGy):Bool:=(decide (w.leeway<0) || decide (600<w.leeway)) || (w.hasAge && (decide (w.maxAge<0) || decide (2147483648<w.maxAge)))
def missB (c:qGw):Bool:=!((((c.hasIss && c.hasSub) && c.hasAud) && c.exp_.has) && c.iat.has)
def sdB (v:List Eng.Node) (m:BA→Int) (name text:BA):Bool:=(decide (0≤m name) && decide ((v.getD (m name).toNat (ET.dft .node)).kind=5)) && decide ((v.getD (m name).toNat (ET.dft .node)).text=text)
def kAzp:BA:=⟨#[97,122,112]⟩
def kNonce:BA:=⟨#[110,111,110,99,101]⟩
def kAt:BA:=⟨#[97,116,95,104,97,115,104]⟩
def kC:BA:=⟨#[99,95,104,97,115,104]⟩
def qGk:BA:=⟨#[97,117,116,104,95,116,105,109,101]⟩
def azpB (m:BA→Int) (c:qGw) (w:qGy):Bool:=bif decide (0≤m kAzp) then !sdB c.value m kAzp w.client else c.aud.any fun s=>!decide (s=w.client)
def nonceB (m:BA→Int) (c:qGw) (w:qGy):Bool:=w.hasNonce && !sdB c.value m kNonce w.nonce
def hashB (m:BA→Int) (c:qGw) (a:Int) (w:qGy):Bool:=(w.hasAccess && !sdB c.value m kAt (halfT a w.access)) || (w.hasCode && !sdB c.value m kC (halfT a w.code))
def ageB (m:BA→Int) (c:qGw) (w:qGy) (now:Int):Bool:=w.hasAge && (((decide (m qGk<0) || !decide ((c.value.getD (m qGk).toNat (ET.dft .node)).kind=4)) || !(c.value.getD (m qGk).toNat (ET.dft .node)).whole) || decide ((c.value.getD (m qGk).toNat (ET.dft .node)).int+(w.maxAge+w.leeway)<now))
def chkV (m:BA→Int) (c:qGw) (a:Int) (w:qGy) (now:Int):Int :=
 bif qGc w then 12 else bif decide (hsh a=0) then 111 else bif missB c then 137 else bif !inB c.aud w.client then 133 else bif azpB m c w then 151 else bif nonceB m c w then 150 else bif hashB m c a w then 152 else bif ageB m c w now then 153 else 0
structure Mem (v:List Eng.Node) (m:BA→Int):Prop where
 is:∀n,zar_s v 0 n=some (m n)
 lt:∀n,m n<v.length
theorem p_said {k:idtoken_check} {m:BA→Int} (hm:Mem k.c.value m) (name text:BA):zao_s k name text=some (sdB k.c.value m name text):=by
 have h:=hm.lt name;unfold zao_s sdB;rw [hm.is,obS];by_cases h0:0≤m name
 ·rw [deT h0]
  repeat refine (qAb (fun _=>by omega) _).trans ?_
  rfl
 ·rw [deF h0]
  repeat refine (qAb (fun h=>by cases h) _).trans ?_
  rfl
theorem p_azp {k:idtoken_check} {m:BA→Int} (hm:Mem k.c.value m) (hl:k.c.aud.length≤3000000):zah_s k=some (azpB m k.c k.w):=by
 unfold zah_s azpB;rw [show (⟨#[97,122,112]⟩:BA)=kAzp from rfl,hm.is,obS,p_said hm,others_is _ hl];cases decide (0≤m kAzp) with
 | true =>
  rw [cnT,cnT,obS];exact qAb rfl _
 | false=>rfl
theorem p_nonce {k:idtoken_check} {m:BA→Int} (hm:Mem k.c.value m):zam_s k=some (nonceB m k.c k.w):=by
 unfold zam_s nonceB;rw [show (⟨#[110,111,110,99,101]⟩:BA)=kNonce from rfl,p_said hm];cases k.w.hasNonce <;> rfl
theorem p_half1 (text:BA) (k:idtoken_check):zak_s text k=some (halfT k.a text):=by
 unfold zak_s;rw [p_Half];rfl
theorem p_hashes {k:idtoken_check} {m:BA→Int} (hm:Mem k.c.value m):zaj_s k=some (hashB m k.c k.a k.w):=by
 unfold zaj_s hashB;rw [show (⟨#[97,116,95,104,97,115,104]⟩:BA)=kAt from rfl,show (⟨#[99,95,104,97,115,104]⟩:BA)=kC from rfl];rw [p_half1,p_half1,obS,obS];cases k.w.hasAccess with
 | true =>
  rw [cnT];refine (qAb rfl _).trans ?_;rw [p_said hm,obS];refine (qAb rfl _).trans ?_;cases sdB k.c.value m kAt (halfT k.a k.w.access) <;> cases k.w.hasCode <;> try rfl
  rw [Bool.not_true,Bool.and_false,Bool.not_false,Bool.and_true,cnT];refine (qAb rfl _).trans ?_;rw [p_said hm,obS];exact qAb rfl _
 | false =>
  rw [cnF];cases k.w.hasCode with
  | true =>
   rw [Bool.false_and,Bool.not_false,Bool.and_true,cnT];refine (qAb rfl _).trans ?_;rw [p_said hm,obS];exact qAb rfl _
  | false=>rfl
theorem p_age {k:idtoken_check} {m:BA→Int} (hm:Mem k.c.value m) (hi:∀n∈k.c.value,qAc n.int) (hn:qAc k.now) (hp:qGc k.w=false):zae_s k=some (ageB m k.c k.w k.now):=by
 have h:=hm.lt qGk;unfold zae_s ageB;rw [show (⟨#[97,117,116,104,95,116,105,109,101]⟩:BA)=qGk from rfl,hm.is,obS];unfold qGc at hp;cases hA:k.w.hasAge with
 | false=>rfl
 | true =>
  rw [hA] at hp;simp only [Bool.true_and,Bool.or_eq_false_iff,decide_eq_false_iff_not] at hp;rw [Bool.not_true,cnF,Bool.true_and];by_cases h0:m qGk<0
  ·rw [deT h0]
   repeat refine (qAb (fun h=>by cases h) _).trans ?_
   rfl
  ·rw [deF h0]
   repeat refine (qAb (fun _=>by omega) _).trans ?_
   rw [Bool.false_or];cases hc:(!decide ((k.c.value.getD (m qGk).toNat (ET.dft .node)).kind=4) || !(k.c.value.getD (m qGk).toNat (ET.dft .node)).whole) with
   | true=>rfl
   | false =>
    have hlt:(m qGk).toNat<k.c.value.length:=by omega
    have hin:qAc (k.c.value.getD (m qGk).toNat (ET.dft .node)).int:=by
     rw [List.getD_eq_getElem?_getD,List.getElem?_eq_getElem hlt];exact hi _ (List.getElem_mem hlt)
    generalize (k.c.value.getD (m qGk).toNat (ET.dft .node)).int=at_ at hin ⊢
    unfold qAc at hin hn;rw [cnF,qAb (by omega),qAb (by omega),qAb (by omega),qAb (by unfold qAc; omega),qAb (by unfold qAc; omega),qAb (fun h=>by have:=of_decide_eq_true h; unfold qAc; omega)];rw [Bool.false_or];congr 1
    by_cases h1:at_≤9223372036854775807 - (k.w.maxAge+k.w.leeway)
    ·rw [deT h1,Bool.true_and]
    ·rw [deF h1,Bool.false_and,deF (by omega)]
theorem check_v {c:qGw} {m:BA→Int} (a:Int) (w:qGy) (now:Int) (hm:Mem c.value m) (hi:∀n∈c.value,qAc n.int) (hl:c.aud.length≤3000000) (hn:qAc now):zac_s c a w now=some (chkV m c a w now):=by
 have e1:zan_s ⟨c,a,w,now⟩=some (qGc w):=rfl;have e2:zaf_s ⟨c,a,w,now⟩=some (decide (hsh a=0)):=by
  unfold zaf_s;rw [p_hash];rfl
 have e3:zal_s ⟨c,a,w,now⟩=some (missB c):=rfl;have e4:zag_s ⟨c,a,w,now⟩=some (!inB c.aud w.client):=by
  unfold zag_s;rw [contains_is _ hl];rfl
 have e5:zah_s ⟨c,a,w,now⟩=some (azpB m c w):=p_azp (k:=⟨c,a,w,now⟩) hm hl;have e6:zam_s ⟨c,a,w,now⟩=some (nonceB m c w):=p_nonce (k:=⟨c,a,w,now⟩) hm;have e7:zaj_s ⟨c,a,w,now⟩=some (hashB m c a w):=p_hashes (k:=⟨c,a,w,now⟩) hm;have e8:qGc w=false→zae_s ⟨c,a,w,now⟩=some (ageB m c w now):=fun h=>p_age (k:=⟨c,a,w,now⟩) hm hi hn h
 unfold zac_s chkV;refine (qAb (by decide) _).trans ?_;rw [e1,obS];cases hp:qGc w with
 | true=>rfl
 | false =>
  rw [e8 hp,e2,e3,e4,e5,e6,e7];generalize decide (hsh a=0)=b2
  generalize missB c=b3
  generalize (!inB c.aud w.client)=b4
  generalize azpB m c w=b5
  generalize nonceB m c w=b6
  generalize hashB m c a w=b7
  generalize ageB m c w now=b8
  have g:∀ {x:Int} {q:Prop} {R:Option Int},qAc x→q→gd (qAc x) (gd q R)=R:=fun h1 h2=>(qAb h1 _).trans (qAb h2 _)
  rw [cnF,cnF,g (by unfold qAc; decide) (by decide),obS];cases b2 with
  | true=>rfl
  | false =>
  rw [cnF,cnF,g (by unfold qAc; decide) (by decide),obS];cases b3 with
  | true=>rfl
  | false =>
  rw [cnF,cnF,g (by unfold qAc; decide) (by decide),obS];cases b4 with
  | true=>rfl
  | false =>
  rw [cnF,cnF,g (by unfold qAc; decide) (by decide),obS];cases b5 with
  | true=>rfl
  | false =>
  rw [cnF,cnF,g (by unfold qAc; decide) (by decide),obS];cases b6 with
  | true=>rfl
  | false =>
  rw [cnF,cnF,g (by unfold qAc; decide) (by decide),obS];cases b7 with
  | true=>rfl
  | false =>
  rw [cnF,cnF,g (by unfold qAc; decide) (by decide),obS];cases b8 with
  | true=>rfl
  | false =>
  rw [cnF,cnF];exact qAb (by unfold qAc; decide) _
theorem j_member_lt (v:List Eng.Node) (hv:v.length≤2000000) (a:Int) (key:BA):∃r,zar_s v a key=some r∧r<v.length:=by
 by_cases ha:a<0∨(v.length:Int)≤a
 ·exact ⟨_,(member_out ha key).1,by omega⟩
 ·obtain ⟨b,rfl⟩:=Int.eq_ofNat_of_zero_le (show 0≤a by omega);have loop:∀(m next i:Nat),v.length - next≤m→i≤next→next≤v.length→∃r,zar_p0 (b:Int) key (next:Int) (i:Int) v=some r∧∀q,r=.inl q→q<v.length:=by
   intro m;induction m with
   | zero =>
    intro next i h1 h3 h4;refine ⟨.inr (),?_,fun q hq=>by cases hq⟩;unfold zar_p0;refine qAe ?_;unfold qBv;dsimp only;rw [qAb (by omega),qAb (by omega),qAb (by omega),deF (show ¬(next:Int)<v.length by omega),Bool.and_false,cnF]
   | succ m ih =>
    intro next i h1 h3 h4;cases hc:((decide ((i:Int)<(v.getD (Int.toNat (b:Int)) (ET.dft .node)).kids) && decide ((0:Int)≤next)) && decide ((next:Int)<v.length)) with
    | false =>
     refine ⟨.inr (),?_,fun q hq=>by cases hq⟩;unfold zar_p0;refine qAe ?_;unfold qBv;dsimp only;rw [qAb (by omega),qAb (by omega),qAb (by omega),hc,cnF]
    | true =>
     have hlt:next<v.length:=by
      rw [Bool.and_eq_true] at hc;have:=of_decide_eq_true hc.2;omega
     by_cases hkey:(v.getD (Int.toNat (next:Int)) (ET.dft .node)).key=key
     ·refine ⟨.inl (next:Int),?_,fun q hq=>by cases hq; omega⟩;unfold zar_p0;refine qAe ?_;unfold qBv;dsimp only;rw [qAb (by omega),qAb (by omega),qAb (by omega),hc,cnT,qAb (by omega),qAb (by omega),qAb (by omega),deT hkey,cnT]
     ·obtain ⟨r,r1,r2,_⟩:=jBehind_some v hv next;obtain ⟨c,rfl,c1,c2⟩:=r2 hlt;obtain ⟨y,hy,hyl⟩:=ih c (i+1) (by omega) (by omega) c2;refine ⟨y,?_,hyl⟩;unfold zar_p0 at hy ⊢;rw [qAh (y:=((c:Int),((i+1:Nat):Int))) ?_]
      ·exact hy
      ·unfold qBv;dsimp only;rw [qAb (by omega),qAb (by omega),qAb (by omega),hc,cnT,qAb (by omega),qAb (by omega),qAb (by omega),deF hkey,cnF,r1,obS];exact (qAb (by unfold qAc; omega) _).trans rfl
  obtain ⟨r,hr,hrl⟩:=loop v.length (b+1) 0 (by omega) (by omega) (by omega);rw [show ((b+1:Nat):Int)=(b:Int)+1 by omega,show ((0:Nat):Int)=0 from rfl] at hr;unfold zar_s;rw [qAb (fun _=>by omega),qAb (fun _=>by omega),qAb (fun _=>by omega)];cases ((decide ((b:Int)<0) || decide ((v.length:Int)≤b)) || (!decide ((v.getD (Int.toNat (b:Int)) (ET.dft .node)).kind=7))) with
  | true=>exact ⟨_,rfl,by omega⟩
  | false =>
   rw [cnF,qAb (by unfold qAc; omega),hr,obS];cases r with
   | inl q=>exact ⟨_,rfl,hrl q rfl⟩
   | inr u=>exact ⟨_,rfl,by omega⟩
theorem by_trim:∀(m:Nat) (o:List Int),o.length=m→m≤100000→∃k,k≤m∧zbw_p1 o=some (o.take k)∧(0<k→0<o.getD (k - 1) (ET.dft .i64))
 | 0,o,h,hm=>by
  refine ⟨0,by omega,?_,fun h=>by omega⟩;have:o=[]:=List.eq_nil_of_length_eq_zero h;subst this;unfold zbw_p1;refine qAe ?_;unfold qD1;rw [qAb (fun h=>by simp at h),qAb (fun h=>by simp at h),qAb (fun h=>by simp at h)];rfl
 | m+1,o,h,hm=>by
  have hlen:Int.toNat ((o.length:Int) - 1)=m:=by omega
  by_cases hc:o.getD m (ET.dft .i64)≤0
  ·obtain ⟨k,k1,k2,k3⟩:=by_trim m (o.take m) (by rw [List.length_take]; omega) (by omega);refine ⟨k,by omega,?_,fun hk=>?_⟩
   ·unfold zbw_p1 at k2 ⊢;rw [qAh (y:=o.take m) ?_,k2,List.take_take,Nat.min_eq_left k1];unfold qD1;rw [qAb (fun _=>by unfold qAc; omega),qAb (fun _=>by omega),qAb (fun _=>by omega),hlen,deT (show (0:Int)<o.length by omega),deT hc,Bool.and_self,cnT,qAb (by unfold qAc; omega),qAb (by omega)]
   ·have:=k3 hk;rw [List.getD_eq_getElem?_getD,List.getElem?_take_of_lt (by omega)] at this;rw [List.getD_eq_getElem?_getD];exact this
  ·refine ⟨m+1,Nat.le_refl _,?_,fun _=>by rw [Nat.add_sub_cancel]; omega⟩;rw [List.take_of_length_le (by omega)];unfold zbw_p1;refine qAe ?_;unfold qD1;rw [qAb (fun _=>by unfold qAc; omega),qAb (fun _=>by omega),qAb (fun _=>by omega),hlen,deF hc,Bool.and_false,cnF]
theorem getD_mem {o:List Int} {k:Nat} (h:k<o.length):o.getD k (ET.dft .i64)∈o:=by
 rw [List.getD_eq_getElem?_getD,List.getElem?_eq_getElem h];exact List.getElem_mem h
theorem by_loop {v:List Eng.Node} (hv:OkL v):∀(j i:Nat) (o:List Int),i+j=v.length→o.length≤65536→(∀x∈o,qAc x)→∃y,zbw_p0 (i:Int) v o=some y
 | 0,i,o,h,ho,hi=>by
  refine ⟨.inr (),?_⟩;unfold zbw_p0;refine qAe ?_;unfold qD0;dsimp only;rw [deF (by omega),cnF]
 | j+1,i,o,h,ho,hi=>by
  have hlen:=hv.1;obtain ⟨k,k1,k2,k3⟩:=by_trim o.length o rfl (by omega);obtain ⟨n,_,hmem,hget⟩:=nd_some (v:=v) (a:=i) (by omega);have hkids:=(hv.2 n hmem).kids;have p2:∀q:List Int,q.length=k→(∀x∈q,qAc x)→∃z,zbw_p2 (i:Int) v q=some z∧(z=.inl true∨∃q',z=.inr q'∧q'.length≤65536∧∀x∈q',qAc x):=by
   intro q hq hx;unfold zbw_p2;rw [qAb (by omega),Int.toNat_natCast,qAb (by omega),qAb (by omega),hget,qAb (by simp only [List.length_singleton]; omega)];by_cases h6:(65536:Int)<(q++[n.kids]).length
   ·rw [deT h6,cnT];exact ⟨_,rfl,.inl rfl⟩
   ·rw [deF h6,cnF];refine ⟨_,rfl,.inr ⟨_,rfl,by omega,fun x hx'=>?_⟩⟩;rcases List.mem_append.1 hx' with h | h
    ·exact hx x h
    ·rw [List.mem_singleton] at h;rw [h]; exact hkids
  have hstep:∃y,qD0 (i:Int) v o=some y∧((∃z,y=.inr z)∨∃q,y=.inl (((i+1:Nat):Int),q)∧q.length≤65536∧∀x∈q,qAc x):=by
   unfold qD0;rw [deT (by omega),cnT,k2,obS];have hk8:(o.take k).length=k:=by rw [List.length_take]; omega
   have htk:∀x∈o.take k,qAc x:=fun x hx=>hi x (List.mem_of_mem_take hx)
   have fin:∀q:List Int,q.length=k→(∀x∈q,qAc x)→∃y,((zbw_p2 (i:Int) v q).bind fun o9=>(Sum.elim (fun (o9_0:Bool)=>some (.inr (.inl o9_0))) (fun (o9_1:(List Int))=>gd (qAc ((i:Int)+1)) <| some (.inl (((i:Int)+1),o9_1)))) o9:Option ((Int × (List Int)) ⊕ (Bool ⊕ Unit)))=some y∧((∃z,y=.inr z)∨∃q,y=.inl (((i+1:Nat):Int),q)∧q.length≤65536∧∀x∈q,qAc x):=by
    intro q hq hx;obtain ⟨z,z1,z2⟩:=p2 q hq hx;rw [z1,obS];rcases z2 with rfl | ⟨q',rfl,q1,q2⟩
    ·exact ⟨_,rfl,.inl ⟨_,rfl⟩⟩
    ·exact ⟨_,qAb (by unfold qAc; omega) _,.inr ⟨q',rfl,q1,q2⟩⟩
   by_cases h0:0<k
   ·rw [hk8,deT (by omega),cnT];have hkt:Int.toNat ((k:Int) - 1)=k - 1:=by omega
    have hgd:(o.take k).getD (k - 1) (ET.dft .i64)=o.getD (k - 1) (ET.dft .i64):=by
     rw [List.getD_eq_getElem?_getD,List.getElem?_take_of_lt (by omega),←List.getD_eq_getElem?_getD]
    have hpos:=k3 h0;have hin:=hi _ (getD_mem (o:=o) (k:=k - 1) (by omega));unfold qAc at hin;rw [qAb (by unfold qAc; omega),qAb (by unfold qAc; omega),qAb (by omega),hkt,hgd,qAb (by omega),qAb (by unfold qAc; omega),qAb (by omega),qAb (by omega)];refine fin _ (by rw [List.length_set,hk8]) fun x hx=>?_
    rcases List.mem_or_eq_of_mem_set hx with h | rfl
    ·exact htk x h
    ·unfold qAc; omega
   ·rw [hk8,deF (by omega),cnF];exact fin _ hk8 htk
  obtain ⟨y,h1,h2⟩:=hstep;rcases h2 with ⟨z,rfl⟩ | ⟨q,rfl,q1,q2⟩
  ·refine ⟨z,?_⟩;unfold zbw_p0;exact qAe h1
  ·obtain ⟨y,hy⟩:=by_loop hv j (i+1) q (by omega) q1 q2;refine ⟨y,?_⟩;unfold zbw_p0 at hy ⊢;rw [qAh h1];exact hy
theorem beyond_total {v:List Eng.Node} (hv:OkL v):∃b,zbw_s v=some b:=by
 obtain ⟨y,hy⟩:=by_loop hv v.length 0 [] (by omega) (by simp) (fun x hx=>by cases hx);unfold zbw_s;rw [show ((0:Nat):Int)=0 from rfl] at hy;rw [hy,obS];cases y <;> exact ⟨_,rfl⟩
set_option maxRecDepth 100000
noncomputable section
def zbe_q:IQ:=(.seq (rg 2 [oP 1 (.box 32 15 t0),oP 2 (.alloc 32 [.slice none 0 0,.string ⟨#[]⟩,.bool false,.string ⟨#[]⟩,.bool false,.slice none 0 0,.bool false,.string ⟨#[]⟩,.bool false,.bool false,.int .i64 0,.bool false,.int .i64 0,.bool false,.int .i64 0])]) (.seq (rg 3 [oP 3 (.mv (.v (.slice none 0 0)))]) (.seq (rg 0 [oM 5 t3,oP 6 (.faddr 0 t1),oP 7 (.load none t6),oP 8 (.append 39 6 64 [.int .i64 0,.string ⟨#[]⟩,.string ⟨#[]⟩,.bool false,.int .i64 0,.int .i64 0] t5 t7),oP 9 (.faddr 0 t1),oN (.store 1 t9 t8)]) (.seq (rg 4 [oP 4 (.mv (.v (.slice none 0 0)))]) (.seq (rg 0 [oM 10 t4,oP 11 (.faddr 5 t1),oP 12 (.load none t11),oP 13 (.append 9 1 16 [.string ⟨#[]⟩] t10 t12),oP 14 (.faddr 5 t1),oN (.store 1 t14 t13)]) (.seq (rg 0 [oP 15 (.load (some 15) t1),oN (.store 15 t2 t15)]) (.canon [(2,some 0,.node,39),(2,some 5,.str,9)] [2] .ret)))))))
def zbe_s (c:qGw):Option qGw :=
 gd (c.value.length≤9223372036854775807∧c.value.length*64≤140737488355328) <|
 gd (c.aud.length≤9223372036854775807∧c.aud.length*16≤140737488355328) <|
 some c
def zDHX3:=(qAa dB (qAa dS (qAa dB (qAa dB (qAa dZ (qAa dB (qAa dZ (qAa dB (qAa dZ dNil)))))))))
def zDHX1:=(qAa (dO 0) (qAa dS (qAa dB (qAa dS (qAa dB (qAa (dO 1) zDHX3))))))
def zbe_c:CS:=mkC (qAa (dVC (dCA zDHX1)) dNil) (qAa (qAt .node) (qAa (qAt .str) dNil)) (fun x y=>zbe_s (⟨y.1,x.1.2.1,x.1.2.2.1,x.1.2.2.2.1,x.1.2.2.2.2.1,y.2.1,x.1.2.2.2.2.2.2.1,x.1.2.2.2.2.2.2.2.1,x.1.2.2.2.2.2.2.2.2.1,(⟨x.1.2.2.2.2.2.2.2.2.2.1,x.1.2.2.2.2.2.2.2.2.2.2.1⟩:qGu),(⟨x.1.2.2.2.2.2.2.2.2.2.2.2.1,x.1.2.2.2.2.2.2.2.2.2.2.2.2.1⟩:qGu),(⟨x.1.2.2.2.2.2.2.2.2.2.2.2.2.2.1,x.1.2.2.2.2.2.2.2.2.2.2.2.2.2.2.1⟩:qGu)⟩:qGw)) (fun x y r=>.c (.agg [.own 2,.vS r.iss,.vB r.hasIss,.vS r.sub,.vB r.hasSub,.own 3,.vB r.hasAud,.vS r.jti,.vB r.hasJti,.vB r.exp_.has,.vI r.exp_.at_,.vB r.nbf.has,.vI r.nbf.at_,.vB r.iat.has,.vI r.iat.at_])) fun x y r=>[.view .node y.1,.view .str y.2.1,.row .node 39 r.value,.row .str 9 r.aud]
theorem zbe_val:qAl Tryd.prog 8 zbe_c:=vl0 zbe_q [.cell 2 (some 15)] 16 5 2 [] trivial fun x y=>by
 simp only [zbe_s,-eq_self,sZ];kernel_rfl
def zbe_w:CQ:=qBk [(0,some 0,some (.node,39)),(0,some 5,some (.str,9))] (qDb [false,false] zbe_c)
theorem zbe_ok:qAi Tryd.prog 8 zbe_w:=qBd zbe_val
def zbc_b0:IQ:=(.loop [0,1,5] (.seq (.seq (rg 14 [oM 11 t5,oM 12 t0,oP 13 (.len t12),oP 14 (.bi .lss t11 t13)]) (.cond t14 .skip (.cn [] (.exit 0)))) (.seq (.block 1 (.seq (.reg 25 (some [0,1,2,3,4,5,6,7,8]) [oM 17 t0,oM 18 t5,oP 19 (.iaddr 6 t17 t18),oP 20 (.load (some 6) t19),oM 21 t1,oM 22 t5,oP 23 (.iaddr 6 t21 t22),oP 24 (.load (some 6) t23),oP 25 (.ext (.aggEq true [.int .i64,.str,.str,.bool,.int .i64,.int .i64]) [t20,t24])]) (.cond t25 (.seq (rg 4 [oP 4 (.mv vF)]) (.cn [4] .ret)) .skip))) (rg 5 [oM 15 t5,oP 16 (.bi .add t15 (vI 1)),oM 5 t16]))))
def zbc_q:IQ:=(.seq (rg 4 [oP 4 (.mv vF)]) (.seq (.seq (rg 10 [oM 6 t0,oP 7 (.len t6),oM 8 t1,oP 9 (.len t8),oP 10 (.bi .neq t7 t9)]) (.cond t10 (.seq (rg 4 [oP 4 (.mv vF)]) (.cn [4] .ret)) .skip)) (.seq (.seq (rg 5 [oP 5 (.mv (vI 0))]) (.block 0 (.cn [0,1,5] (.sub 0 zbc_b0)))) (.seq (rg 4 [oP 4 (.mv vT)]) (.cn [4] .ret)))))
def qFi (i:Int) (a b:List Eng.Node):Option (Int ⊕ (Bool ⊕ Unit)) :=
 bif decide (i<(a.length:Int)) then (
  gd (0≤i∧i<a.length) <|
  gd ((Int.toNat i)<a.length) <|
  gd (0≤i∧i<b.length) <|
  gd ((Int.toNat i)<b.length) <|
  bif (!(decide (((a.getD (Int.toNat i) (ET.dft .node)).kind)=((b.getD (Int.toNat i) (ET.dft .node)).kind)) && (decide (((a.getD (Int.toNat i) (ET.dft .node)).key)=((b.getD (Int.toNat i) (ET.dft .node)).key)) && (decide (((a.getD (Int.toNat i) (ET.dft .node)).text)=((b.getD (Int.toNat i) (ET.dft .node)).text)) && ((((a.getD (Int.toNat i) (ET.dft .node)).whole) == ((b.getD (Int.toNat i) (ET.dft .node)).whole)) && (decide (((a.getD (Int.toNat i) (ET.dft .node)).int)=((b.getD (Int.toNat i) (ET.dft .node)).int)) && (decide (((a.getD (Int.toNat i) (ET.dft .node)).kids)=((b.getD (Int.toNat i) (ET.dft .node)).kids)) && true))))))) then (
   some (.inr (.inl false)))
  else (
   gd (qAc (i+(1:Int))) <|
   some (.inl (i+(1:Int)))))
 else (
  some (.inr (.inr ())))
def zbc_p0 (i:Int) (a b:List Eng.Node):Option (Bool ⊕ Unit) :=
 qAn (fun x:Int=>qFi x a b) i
def zbc_s (a b:(List Eng.Node)):Option Bool :=
 bif (!decide ((a.length:Int)=(b.length:Int))) then (
  some false)
 else (
  (zbc_p0 (0:Int) a b).bind fun o1=>(Sum.elim (fun (o1_0:Bool) =>
   some o1_0) (fun (o1_1:Unit) =>
   some true)) o1)
def zbc_G:Nat→Option CQ:=tblQ []
def zbc_d0:=(dQS (qAa (dSO 0 (dO 0)) (qAa (dSO 1 (dO 1)) (qAa (dSO 5 dZ) dNil))) (qAa (qAt .node) (qAa (qAt .node) dNil)))
def zbc_l0:SubQ:=mkL zbc_d0 (fun x=>zbc_p0 x.1.2.2.1 x.2.1 x.2.2.1) fun x r R kn kx kr=>(Sum.elim (fun (r_0:Bool)=>kr ⟨[sL 4 (.vB r_0)],[],[.view .node x.2.1,.view .node x.2.2.1]⟩) (fun (r_1:Unit)=>kx 0 ⟨[],[],[.view .node x.2.1,.view .node x.2.2.1]⟩)) r
def zbc_L:Nat→SubQ:=tblL [(0,zbc_l0)]
theorem zbc_sub0:qA2 zbc_L zbc_G 2 6 26 0 zbc_b0:=qAm (show zbc_L 0=zbc_l0 from by kernel_rfl) fun x R kn kx kr=>qAf (step:=fun y=>qFi y x.2.1 x.2.2.1) (enc:=fun (y:Int)=>zbc_d0.e ((x.1.1,x.1.2.1,y,x.1.2.2.2),x.2)) (fun y=>by kernel_rfl) (fun y ki=>by simp only [qFi,-eq_self,sZ]; kernel_rfl) x.1.2.2.1
def zbc_c:CS:=mkC (qAa (dVC (dCO (dO 0))) (qAa (dVC (dCO (dO 1))) dNil)) (qAa (qAt .node) (qAa (qAt .node) dNil)) (fun x y=>zbc_s y.1 y.2.1) (fun x y r=>.c (.o (.vB r))) fun x y r=>[.view .node y.1,.view .node y.2.1]
theorem zbc_val:qAl Tryd.prog 10 zbc_c:=vl1 zbc_q [.tmp 4] 26 6 2 (show qA8 zbc_L zbc_G 2 6 26 [(0,zbc_b0)] from ⟨zbc_sub0,tV⟩) (fun f C h=>by cases h) fun x y=>by
 simp only [zbc_s,-eq_self,sZ];kernel_rfl
def zbc_w:CQ:=qBk [(0,none,some (.node,39)),(1,none,some (.node,39))] (qBu [false,false] zbc_c)
theorem zbc_ok:qAi Tryd.prog 10 zbc_w:=qAr zbc_val
def zbd_b0:IQ:=(.loop [0,1,5] (.seq (.seq (rg 14 [oM 11 t5,oM 12 t0,oP 13 (.len t12),oP 14 (.bi .lss t11 t13)]) (.cond t14 .skip (.cn [] (.exit 0)))) (.seq (.block 1 (.seq (.reg 25 (some [0,1,2,3,4,5,6,7,8]) [oM 17 t0,oM 18 t5,oP 19 (.iaddr 1 t17 t18),oP 20 (.load none t19),oM 21 t1,oM 22 t5,oP 23 (.iaddr 1 t21 t22),oP 24 (.load none t23),oP 25 (.bi .neq t20 t24)]) (.cond t25 (.seq (rg 4 [oP 4 (.mv vF)]) (.cn [4] .ret)) .skip))) (rg 5 [oM 15 t5,oP 16 (.bi .add t15 (vI 1)),oM 5 t16]))))
def zbd_q:IQ:=(.seq (rg 4 [oP 4 (.mv vF)]) (.seq (.seq (rg 10 [oM 6 t0,oP 7 (.len t6),oM 8 t1,oP 9 (.len t8),oP 10 (.bi .neq t7 t9)]) (.cond t10 (.seq (rg 4 [oP 4 (.mv vF)]) (.cn [4] .ret)) .skip)) (.seq (.seq (rg 5 [oP 5 (.mv (vI 0))]) (.block 0 (.cn [0,1,5] (.sub 0 zbd_b0)))) (.seq (rg 4 [oP 4 (.mv vT)]) (.cn [4] .ret)))))
def qFj (i:Int) (a b:List BA):Option (Int ⊕ (Bool ⊕ Unit)) :=
 bif decide (i<(a.length:Int)) then (
  gd (0≤i∧i<a.length) <|
  gd ((Int.toNat i)<a.length) <|
  gd (0≤i∧i<b.length) <|
  gd ((Int.toNat i)<b.length) <|
  bif (!decide ((a.getD (Int.toNat i) (ET.dft .str))=(b.getD (Int.toNat i) (ET.dft .str)))) then (
   some (.inr (.inl false)))
  else (
   gd (qAc (i+(1:Int))) <|
   some (.inl (i+(1:Int)))))
 else (
  some (.inr (.inr ())))
def zbd_p0 (i:Int) (a b:List BA):Option (Bool ⊕ Unit) :=
 qAn (fun x:Int=>qFj x a b) i
def zbd_s (a b:(List BA)):Option Bool :=
 bif (!decide ((a.length:Int)=(b.length:Int))) then (
  some false)
 else (
  (zbd_p0 (0:Int) a b).bind fun o1=>(Sum.elim (fun (o1_0:Bool) =>
   some o1_0) (fun (o1_1:Unit) =>
   some true)) o1)
def zbd_G:Nat→Option CQ:=tblQ []
def zbd_d0:=(dQS (qAa (dSO 0 (dO 0)) (qAa (dSO 1 (dO 1)) (qAa (dSO 5 dZ) dNil))) (qAa (qAt .str) (qAa (qAt .str) dNil)))
def zbd_l0:SubQ:=mkL zbd_d0 (fun x=>zbd_p0 x.1.2.2.1 x.2.1 x.2.2.1) fun x r R kn kx kr=>(Sum.elim (fun (r_0:Bool)=>kr ⟨[sL 4 (.vB r_0)],[],[.view .str x.2.1,.view .str x.2.2.1]⟩) (fun (r_1:Unit)=>kx 0 ⟨[],[],[.view .str x.2.1,.view .str x.2.2.1]⟩)) r
def zbd_L:Nat→SubQ:=tblL [(0,zbd_l0)]
theorem zbd_sub0:qA2 zbd_L zbd_G 2 6 26 0 zbd_b0:=qAm (show zbd_L 0=zbd_l0 from by kernel_rfl) fun x R kn kx kr=>qAf (step:=fun y=>qFj y x.2.1 x.2.2.1) (enc:=fun (y:Int)=>zbd_d0.e ((x.1.1,x.1.2.1,y,x.1.2.2.2),x.2)) (fun y=>by kernel_rfl) (fun y ki=>by simp only [qFj,-eq_self,sZ]; kernel_rfl) x.1.2.2.1
def zbd_c:CS:=mkC (qAa (dVC (dCO (dO 0))) (qAa (dVC (dCO (dO 1))) dNil)) (qAa (qAt .str) (qAa (qAt .str) dNil)) (fun x y=>zbd_s y.1 y.2.1) (fun x y r=>.c (.o (.vB r))) fun x y r=>[.view .str y.1,.view .str y.2.1]
theorem zbd_val:qAl Tryd.prog 11 zbd_c:=vl1 zbd_q [.tmp 4] 26 6 2 (show qA8 zbd_L zbd_G 2 6 26 [(0,zbd_b0)] from ⟨zbd_sub0,tV⟩) (fun f C h=>by cases h) fun x y=>by
 simp only [zbd_s,-eq_self,sZ];kernel_rfl
def zbd_w:CQ:=qBk [(0,none,some (.str,9)),(1,none,some (.str,9))] (qBu [false,false] zbd_c)
theorem zbd_ok:qAi Tryd.prog 11 zbd_w:=qAr zbd_val
def zbp_q:IQ:=(.seq (rg 6 [oP 6 (.mv vF)]) (.seq (rg 7 [oM 8 t0,oM 9 t1,oP 10 (.call 50 [t8,(vI 0),t9]),oM 7 t10]) (.seq (rg 6 [oM 11 t7,oP 12 (.bi .geq t11 (vI 0)),oM 13 t12,oF 14 (.mv t0) 13,oF 15 (.mv t7) 13,oF 16 (.iaddr 6 t14 t15) 13,oF 17 (.faddr 0 t16) 13,oF 18 (.load none t17) 13,oF 19 (.bi .eql t18 (vI 5)) 13,oP 20 (.pick t13 t19 vF),oM 21 t20,oF 22 (.mv t0) 21,oF 23 (.mv t7) 21,oF 24 (.iaddr 6 t22 t23) 21,oF 25 (.faddr 2 t24) 21,oF 26 (.load none t25) 21,oF 27 (.mv t2) 21,oF 28 (.bi .eql t26 t27) 21,oP 29 (.pick t21 t28 vF),oM 6 t29]) (.cn [6] .ret))))
def zbp_s (v:(List Eng.Node)) (name text:BA):Option Bool :=
 (zby_s v (0:Int) name).bind fun r1 =>
 gd ((decide ((0:Int)≤r1))=true→0≤r1∧r1<v.length) <|
 gd ((decide ((0:Int)≤r1))=true→(Int.toNat r1)<v.length) <|
 gd ((decide ((0:Int)≤r1))=true→(Int.toNat r1)<v.length) <|
 gd (((decide ((0:Int)≤r1)) && (decide (((v.getD (Int.toNat r1) (ET.dft .node)).kind)=(5:Int))))=true→0≤r1∧r1<v.length) <|
 gd (((decide ((0:Int)≤r1)) && (decide (((v.getD (Int.toNat r1) (ET.dft .node)).kind)=(5:Int))))=true→(Int.toNat r1)<v.length) <|
 gd (((decide ((0:Int)≤r1)) && (decide (((v.getD (Int.toNat r1) (ET.dft .node)).kind)=(5:Int))))=true→(Int.toNat r1)<v.length) <|
 some (((decide ((0:Int)≤r1)) && (decide (((v.getD (Int.toNat r1) (ET.dft .node)).kind)=(5:Int)))) && (decide (((v.getD (Int.toNat r1) (ET.dft .node)).text)=text)))
def zbp_c:CS:=mkC (qAa (dVC (dCO (dO 0))) (qAa (dVC (dCO dS)) (qAa (dVC (dCO dS)) dNil))) (qAa (qAt .node) dNil) (fun x y=>zbp_s y.1 x.2.1 x.2.2.1) (fun x y r=>.c (.o (.vB r))) fun x y r=>[.view .node y.1]
theorem zbp_val:qAl Tryd.prog 31 zbp_c:=vl0 zbp_q [.tmp 6] 30 8 1 [(50,zby_w)] ⟨zby_ok,tV⟩ fun x y=>by
 simp only [zbp_s,-eq_self,sZ];kernel_rfl
def zbp_w:CQ:=qBk [(0,none,some (.node,39))] (qBu [false] zbp_c)
theorem zbp_ok:qAi Tryd.prog 31 zbp_w:=qAr zbp_val
def zbl_b0:IQ:=(.loop [2,3,5] (.seq (.seq (rg 20 [oM 16 t5,oP 17 (.faddr 5 t2),oP 18 (.load none t17),oP 19 (.len t18),oP 20 (.bi .lss t16 t19)]) (.cond t20 .skip (.cn [] (.exit 0)))) (.seq (.block 1 (.seq (.reg 30 (some [0,1,2,3,4,5,6,7]) [oP 23 (.faddr 5 t2),oP 24 (.load none t23),oM 25 t5,oP 26 (.iaddr 1 t24 t25),oP 27 (.load none t26),oP 28 (.faddr 0 t3),oP 29 (.load none t28),oP 30 (.bi .neq t27 t29)]) (.cond t30 (.seq (rg 4 [oP 4 (.mv vT)]) (.cn [4] .ret)) .skip))) (rg 5 [oM 21 t5,oP 22 (.bi .add t21 (vI 1)),oM 5 t22]))))
def zbl_q:IQ:=(.seq (rg 4 [oP 2 (.box 32 15 t0),oP 3 (.box 34 10 t1),oP 4 (.mv vF)]) (.seq (.seq (rg 9 [oP 6 (.faddr 0 t2),oP 7 (.load none t6),oP 8 (.call 50 [t7,(vI 0),(.v (.string ⟨#[97,122,112]⟩))]),oP 9 (.bi .geq t8 (vI 0))]) (.cond t9 (.seq (rg 4 [oP 10 (.faddr 0 t2),oP 11 (.load none t10),oP 12 (.faddr 0 t3),oP 13 (.load none t12),oP 14 (.call 31 [t11,(.v (.string ⟨#[97,122,112]⟩)),t13]),oP 15 (.un .not t14),oM 4 t15]) (.cn [4] .ret)) .skip)) (.seq (.seq (rg 5 [oP 5 (.mv (vI 0))]) (.block 0 (.cn [2,3,5] (.sub 0 zbl_b0)))) (.seq (rg 4 [oP 4 (.mv vF)]) (.cn [4] .ret)))))
def qCz (i:Int) (c_aud:List BA) (qG4:BA):Option (Int ⊕ (Bool ⊕ Unit)) :=
 bif decide (i<(c_aud.length:Int)) then (
  gd (0≤i∧i<c_aud.length) <|
  gd ((Int.toNat i)<c_aud.length) <|
  bif (!decide ((c_aud.getD (Int.toNat i) (ET.dft .str))=qG4)) then (
   some (.inr (.inl true)))
  else (
   gd (qAc (i+(1:Int))) <|
   some (.inl (i+(1:Int)))))
 else (
  some (.inr (.inr ())))
def zbl_p0 (i:Int) (c_aud:List BA) (qG4:BA):Option (Bool ⊕ Unit) :=
 qAn (fun x:Int=>qCz x c_aud qG4) i
def zbl_s (c:qGw) (w:qGy):Option Bool :=
 (zby_s c.value (0:Int) (⟨#[97,122,112]⟩:BA)).bind fun r3 =>
 bif decide ((0:Int)≤r3) then (
  (zbp_s c.value (⟨#[97,122,112]⟩:BA) w.client).bind fun r4 =>
  some (!r4))
 else (
  (zbl_p0 (0:Int) c.aud w.client).bind fun o5=>(Sum.elim (fun (o5_0:Bool) =>
   some o5_0) (fun (o5_1:Unit) =>
   some false)) o5)
def zbl_G:Nat→Option CQ:=tblQ [(50,zby_w),(31,zbp_w)]
def zDHX2:=(qAa dS (qAa dS (qAa dB (qAa dS (qAa dB (qAa dS (qAa dB (qAa dZ (qAa dB (qAa dZ dNil))))))))))
def zbl_d0:=(dQS (qAa (dSO 2 (dH 2 0)) (qAa (dSO 3 (dH 3 0)) (qAa (dSO 5 dZ) dNil))) (qAa (qAt .node) (qAa (qAt .str) (qAa (qAy 32 zDHX1) (qAa (qAy 34 zDHX2) dNil)))))
def zbl_l0:SubQ:=mkL zbl_d0 (fun x=>zbl_p0 x.1.2.2.1 x.2.2.1 x.2.2.2.2.1.1) fun x r R kn kx kr=>(Sum.elim (fun (r_0:Bool)=>kr ⟨[sL 4 (.vB r_0)],[],[.view .node x.2.1,.view .str x.2.2.1]⟩) (fun (r_1:Unit)=>kx 0 ⟨[],[],[.view .node x.2.1,.view .str x.2.2.1]⟩)) r
def zbl_L:Nat→SubQ:=tblL [(0,zbl_l0)]
theorem zbl_sub0:qA2 zbl_L zbl_G 2 6 31 0 zbl_b0:=qAm (show zbl_L 0=zbl_l0 from by kernel_rfl) fun x R kn kx kr=>qAf (step:=fun y=>qCz y x.2.2.1 x.2.2.2.2.1.1) (enc:=fun (y:Int)=>zbl_d0.e ((x.1.1,x.1.2.1,y,x.1.2.2.2),x.2)) (fun y=>by kernel_rfl) (fun y ki=>by simp only [qCz,-eq_self,sZ]; kernel_rfl) x.1.2.2.1
def zbl_c:CS:=mkC (qAa (dVC (dCA zDHX1)) (qAa (dVC (dCA zDHX2)) dNil)) (qAa (qAt .node) (qAa (qAt .str) dNil)) (fun x y=>zbl_s (⟨y.1,x.1.2.1,x.1.2.2.1,x.1.2.2.2.1,x.1.2.2.2.2.1,y.2.1,x.1.2.2.2.2.2.2.1,x.1.2.2.2.2.2.2.2.1,x.1.2.2.2.2.2.2.2.2.1,(⟨x.1.2.2.2.2.2.2.2.2.2.1,x.1.2.2.2.2.2.2.2.2.2.2.1⟩:qGu),(⟨x.1.2.2.2.2.2.2.2.2.2.2.2.1,x.1.2.2.2.2.2.2.2.2.2.2.2.2.1⟩:qGu),(⟨x.1.2.2.2.2.2.2.2.2.2.2.2.2.2.1,x.1.2.2.2.2.2.2.2.2.2.2.2.2.2.2.1⟩:qGu)⟩:qGw) (⟨x.2.1.1,x.2.1.2.1,x.2.1.2.2.1,x.2.1.2.2.2.1,x.2.1.2.2.2.2.1,x.2.1.2.2.2.2.2.1,x.2.1.2.2.2.2.2.2.1,x.2.1.2.2.2.2.2.2.2.1,x.2.1.2.2.2.2.2.2.2.2.1,x.2.1.2.2.2.2.2.2.2.2.2.1⟩:qGy)) (fun x y r=>.c (.o (.vB r))) fun x y r=>[.view .node y.1,.view .str y.2.1]
theorem zbl_val:qAl Tryd.prog 30 zbl_c:=vl1 zbl_q [.tmp 4] 31 6 2 (show qA8 zbl_L zbl_G 2 6 31 [(0,zbl_b0)] from ⟨zbl_sub0,tV⟩) (qAs ⟨zby_ok,zbp_ok,tV⟩) fun x y=>by
 simp only [zbl_s,-eq_self,sZ];kernel_rfl
def zbl_w:CQ:=qBk [(0,some 0,some (.node,39)),(0,some 5,some (.str,9))] (qBu [false,false] zbl_c)
theorem zbl_ok:qAi Tryd.prog 30 zbl_w:=qAr zbl_val
def zbn_q:IQ:=(.seq (rg 6 [oP 3 (.box 32 15 t0),oP 5 (.box 34 10 t2),oP 6 (.mv vF)]) (.seq (rg 8 [oM 12 t1,oP 13 (.faddr 3 t5),oP 14 (.load none t13),oP 15 (.call 6 [t12,t14]),oM 11 t15,oP 16 (.extract t11 0),oP 17 (.extract t11 1),oM 7 t16,oM 8 t17]) (.seq (rg 10 [oM 19 t1,oP 20 (.faddr 5 t5),oP 21 (.load none t20),oP 22 (.call 6 [t19,t21]),oM 18 t22,oP 23 (.extract t18 0),oP 24 (.extract t18 1),oM 9 t23,oM 10 t24]) (.seq (rg 6 [oP 25 (.faddr 4 t5),oP 26 (.load none t25),oM 27 t26,oF 28 (.faddr 0 t3) 27,oF 29 (.load none t28) 27,oF 30 (.mv t7) 27,oF 31 (.call 31 [t29,(.v (.string ⟨#[97,116,95,104,97,115,104]⟩)),t30]) 27,oF 32 (.un .not t31) 27,oP 33 (.pick t27 t32 vF),oM 34 t33,oE 35 (.faddr 6 t5) 34,oE 36 (.load none t35) 34,oE 37 (.mv t36) 34,oF 38 (.faddr 0 t3) 37,oF 39 (.load none t38) 37,oF 40 (.mv t9) 37,oF 41 (.call 31 [t39,(.v (.string ⟨#[99,95,104,97,115,104]⟩)),t40]) 37,oF 42 (.un .not t41) 37,oE 43 (.pick t37 t42 vF) 34,oP 44 (.pick t34 vT t43),oM 6 t44]) (.cn [6] .ret)))))
def zbn_s (c:qGw) (a:Int) (w:qGy):Option Bool :=
 (zbk_s a w.access).bind fun r1 =>
 (zbk_s a w.code).bind fun r2 =>
 bif w.hasAccess then (
  (zbp_s c.value (⟨#[97,116,95,104,97,115,104]⟩:BA) r1.1).bind fun r3 =>
  bif (!r3) then (
   some true)
  else (
   bif w.hasCode then (
    (zbp_s c.value (⟨#[99,95,104,97,115,104]⟩:BA) r2.1).bind fun r4 =>
    some (!r4))
   else (
    some false)))
 else (
  bif w.hasCode then (
   (zbp_s c.value (⟨#[99,95,104,97,115,104]⟩:BA) r2.1).bind fun r5 =>
   some (!r5))
  else (
   some false))
def zbn_c:CS:=mkC (qAa (dVC (dCA zDHX1)) (qAa (dVC (dCO dZ)) (qAa (dVC (dCA zDHX2)) dNil))) (qAa (qAt .node) (qAa (qAt .str) dNil)) (fun x y=>zbn_s (⟨y.1,x.1.2.1,x.1.2.2.1,x.1.2.2.2.1,x.1.2.2.2.2.1,y.2.1,x.1.2.2.2.2.2.2.1,x.1.2.2.2.2.2.2.2.1,x.1.2.2.2.2.2.2.2.2.1,(⟨x.1.2.2.2.2.2.2.2.2.2.1,x.1.2.2.2.2.2.2.2.2.2.2.1⟩:qGu),(⟨x.1.2.2.2.2.2.2.2.2.2.2.2.1,x.1.2.2.2.2.2.2.2.2.2.2.2.2.1⟩:qGu),(⟨x.1.2.2.2.2.2.2.2.2.2.2.2.2.2.1,x.1.2.2.2.2.2.2.2.2.2.2.2.2.2.2.1⟩:qGu)⟩:qGw) x.2.1 (⟨x.2.2.1.1,x.2.2.1.2.1,x.2.2.1.2.2.1,x.2.2.1.2.2.2.1,x.2.2.1.2.2.2.2.1,x.2.2.1.2.2.2.2.2.1,x.2.2.1.2.2.2.2.2.2.1,x.2.2.1.2.2.2.2.2.2.2.1,x.2.2.1.2.2.2.2.2.2.2.2.1,x.2.2.1.2.2.2.2.2.2.2.2.2.1⟩:qGy)) (fun x y r=>.c (.o (.vB r))) fun x y r=>[.view .node y.1,.view .str y.2.1]
theorem zbn_val:qAl Tryd.prog 32 zbn_c:=vl0 zbn_q [.tmp 6] 45 11 2 [(6,zbk_w),(31,zbp_w)] ⟨zbk_ok,zbp_ok,tV⟩ fun x y=>by
 simp only [zbn_s,-eq_self,sZ];kernel_rfl
def zbn_w:CQ:=qBk [(0,some 0,some (.node,39)),(0,some 5,some (.str,9))] (qBu [false,false] zbn_c)
theorem zbn_ok:qAi Tryd.prog 32 zbn_w:=qAr zbn_val
def zbo_q:IQ:=(.seq (rg 6 [oP 3 (.box 32 15 t0),oP 4 (.box 34 10 t1),oP 6 (.mv vF)]) (.seq (rg 7 [oP 11 (.faddr 0 t3),oP 12 (.load none t11),oP 13 (.call 50 [t12,(vI 0),(.v (.string ⟨#[97,117,116,104,95,116,105,109,101]⟩))]),oM 7 t13]) (.seq (.seq (rg 33 [oM 14 t7,oP 15 (.bi .lss t14 (vI 0)),oM 16 t15,oE 17 (.faddr 0 t3) 16,oE 18 (.load none t17) 16,oE 19 (.mv t7) 16,oE 20 (.iaddr 6 t18 t19) 16,oE 21 (.faddr 0 t20) 16,oE 22 (.load none t21) 16,oE 23 (.bi .neq t22 (vI 4)) 16,oP 24 (.pick t16 vT t23),oM 25 t24,oE 26 (.faddr 0 t3) 25,oE 27 (.load none t26) 25,oE 28 (.mv t7) 25,oE 29 (.iaddr 6 t27 t28) 25,oE 30 (.faddr 3 t29) 25,oE 31 (.load none t30) 25,oE 32 (.un .not t31) 25,oP 33 (.pick t25 vT t32)]) (.cond t33 (.seq (rg 6 [oP 6 (.mv vT)]) (.cn [6] .ret)) .skip)) (.seq (rg 8 [oP 34 (.faddr 0 t3),oP 35 (.load none t34),oM 36 t7,oP 37 (.iaddr 6 t35 t36),oP 38 (.faddr 4 t37),oP 39 (.load none t38),oM 8 t39]) (.seq (rg 9 [oM 40 t8,oP 41 (.bi .and t40 (vI 4294967295)),oP 42 (.faddr 7 t4),oP 43 (.load none t42),oP 44 (.bi .add t41 t43),oP 45 (.faddr 9 t4),oP 46 (.load none t45),oP 47 (.bi .add t44 t46),oM 9 t47]) (.seq (rg 10 [oM 48 t8,oP 49 (.bi .shr t48 (.v (.int .u64 32))),oM 50 t9,oP 51 (.bi .shr t50 (.v (.int .u64 32))),oP 52 (.bi .add t49 t51),oM 10 t52]) (.seq (rg 9 [oM 53 t9,oP 54 (.bi .and t53 (vI 4294967295)),oM 9 t54]) (.seq (rg 6 [oM 55 t2,oP 56 (.bi .shr t55 (.v (.int .u64 32))),oM 57 t10,oP 58 (.bi .gtr t56 t57),oM 59 t58,oE 60 (.mv t2) 59,oE 61 (.bi .shr t60 (.v (.int .u64 32))) 59,oE 62 (.mv t10) 59,oE 63 (.bi .eql t61 t62) 59,oE 64 (.mv t63) 59,oF 65 (.mv t2) 64,oF 66 (.bi .and t65 (vI 4294967295)) 64,oF 67 (.mv t9) 64,oF 68 (.bi .gtr t66 t67) 64,oE 69 (.pick t64 t68 vF) 59,oP 70 (.pick t59 vT t69),oM 6 t70]) (.cn [6] .ret)))))))))
def zbo_s (c:qGw) (w:qGy) (now:Int):Option Bool :=
 (zby_s c.value (0:Int) (⟨#[97,117,116,104,95,116,105,109,101]⟩:BA)).bind fun r1 =>
 gd ((decide (r1<(0:Int)))=false→0≤r1∧r1<c.value.length) <|
 gd ((decide (r1<(0:Int)))=false→(Int.toNat r1)<c.value.length) <|
 gd ((decide (r1<(0:Int)))=false→(Int.toNat r1)<c.value.length) <|
 gd (((decide (r1<(0:Int))) || (!decide (((c.value.getD (Int.toNat r1) (ET.dft .node)).kind)=(4:Int))))=false→0≤r1∧r1<c.value.length) <|
 gd (((decide (r1<(0:Int))) || (!decide (((c.value.getD (Int.toNat r1) (ET.dft .node)).kind)=(4:Int))))=false→(Int.toNat r1)<c.value.length) <|
 gd (((decide (r1<(0:Int))) || (!decide (((c.value.getD (Int.toNat r1) (ET.dft .node)).kind)=(4:Int))))=false→(Int.toNat r1)<c.value.length) <|
 bif (((decide (r1<(0:Int))) || (!decide (((c.value.getD (Int.toNat r1) (ET.dft .node)).kind)=(4:Int)))) || (!((c.value.getD (Int.toNat r1) (ET.dft .node)).whole))) then (
  some true)
 else (
  gd (0≤r1∧r1<c.value.length) <|
  gd ((Int.toNat r1)<c.value.length) <|
  gd ((Int.toNat r1)<c.value.length) <|
  gd (qAc ((qAg .i64 ((c.value.getD (Int.toNat r1) (ET.dft .node)).int) (4294967295:Int))+w.maxAge)) <|
  gd (qAc (((qAg .i64 ((c.value.getD (Int.toNat r1) (ET.dft .node)).int) (4294967295:Int))+w.maxAge)+w.leeway)) <|
  gd (0≤(32:Int)) <|
  gd (0≤(32:Int)) <|
  gd (qAc ((((c.value.getD (Int.toNat r1) (ET.dft .node)).int) / 4294967296)+((((qAg .i64 ((c.value.getD (Int.toNat r1) (ET.dft .node)).int) (4294967295:Int))+w.maxAge)+w.leeway) / 4294967296))) <|
  gd (0≤(32:Int)) <|
  gd ((decide (((((c.value.getD (Int.toNat r1) (ET.dft .node)).int) / 4294967296)+((((qAg .i64 ((c.value.getD (Int.toNat r1) (ET.dft .node)).int) (4294967295:Int))+w.maxAge)+w.leeway) / 4294967296))<(now / 4294967296)))=false→0≤(32:Int)) <|
  some ((decide (((((c.value.getD (Int.toNat r1) (ET.dft .node)).int) / 4294967296)+((((qAg .i64 ((c.value.getD (Int.toNat r1) (ET.dft .node)).int) (4294967295:Int))+w.maxAge)+w.leeway) / 4294967296))<(now / 4294967296))) || ((decide ((now / 4294967296)=((((c.value.getD (Int.toNat r1) (ET.dft .node)).int) / 4294967296)+((((qAg .i64 ((c.value.getD (Int.toNat r1) (ET.dft .node)).int) (4294967295:Int))+w.maxAge)+w.leeway) / 4294967296)))) && (decide ((qAg .i64 (((qAg .i64 ((c.value.getD (Int.toNat r1) (ET.dft .node)).int) (4294967295:Int))+w.maxAge)+w.leeway) (4294967295:Int))<(qAg .i64 now (4294967295:Int)))))))
def zDHX4:=(qAa (dVC (dCA zDHX2)) (qAa (dVC (dCO dZ)) dNil))
def zbo_c:CS:=mkC (qAa (dVC (dCA zDHX1)) zDHX4) (qAa (qAt .node) (qAa (qAt .str) dNil)) (fun x y=>zbo_s (⟨y.1,x.1.2.1,x.1.2.2.1,x.1.2.2.2.1,x.1.2.2.2.2.1,y.2.1,x.1.2.2.2.2.2.2.1,x.1.2.2.2.2.2.2.2.1,x.1.2.2.2.2.2.2.2.2.1,(⟨x.1.2.2.2.2.2.2.2.2.2.1,x.1.2.2.2.2.2.2.2.2.2.2.1⟩:qGu),(⟨x.1.2.2.2.2.2.2.2.2.2.2.2.1,x.1.2.2.2.2.2.2.2.2.2.2.2.2.1⟩:qGu),(⟨x.1.2.2.2.2.2.2.2.2.2.2.2.2.2.1,x.1.2.2.2.2.2.2.2.2.2.2.2.2.2.2.1⟩:qGu)⟩:qGw) (⟨x.2.1.1,x.2.1.2.1,x.2.1.2.2.1,x.2.1.2.2.2.1,x.2.1.2.2.2.2.1,x.2.1.2.2.2.2.2.1,x.2.1.2.2.2.2.2.2.1,x.2.1.2.2.2.2.2.2.2.1,x.2.1.2.2.2.2.2.2.2.2.1,x.2.1.2.2.2.2.2.2.2.2.2.1⟩:qGy) x.2.2.1) (fun x y r=>.c (.o (.vB r))) fun x y r=>[.view .node y.1,.view .str y.2.1]
theorem zbo_val:qAl Tryd.prog 33 zbo_c:=vl0 zbo_q [.tmp 6] 71 11 2 [(50,zby_w)] ⟨zby_ok,tV⟩ fun x y=>by
 simp only [zbo_s,-eq_self,sZ];kernel_rfl
def zbo_w:CQ:=qBk [(0,some 0,some (.node,39)),(0,some 5,some (.str,9))] (qBu [false,false] zbo_c)
theorem zbo_ok:qAi Tryd.prog 33 zbo_w:=qAr zbo_val
def zbj_b0:IQ:=(.loop [1,3,4,6,9,10] (.seq (.seq (rg 65 [oM 61 t10,oP 62 (.faddr 5 t4),oP 63 (.load none t62),oP 64 (.len t63),oP 65 (.bi .lss t61 t64)]) (.cond t65 .skip (.cn [1,3,4,6,9] (.exit 0)))) (.seq (.block 1 (.reg 9 (some [0,1,2,3,4,5,6,7,8,9,10,11]) [oM 68 t9,oM 69 t68,oE 70 (.faddr 5 t4) 69,oE 71 (.load none t70) 69,oE 72 (.mv t10) 69,oE 73 (.iaddr 1 t71 t72) 69,oE 74 (.load none t73) 69,oE 75 (.faddr 0 t6) 69,oE 76 (.load none t75) 69,oE 77 (.bi .eql t74 t76) 69,oP 78 (.pick t69 vT t77),oM 9 t78])) (rg 10 [oM 66 t10,oP 67 (.bi .add t66 (vI 1)),oM 10 t67]))))
def zbj_q:IQ:=(.seq (rg 8 [oP 4 (.box 32 15 t0),oP 6 (.box 34 10 t2),oP 8 (.mv (vI 0))]) (.seq (.seq (rg 32 [oP 11 (.faddr 9 t6),oP 12 (.load none t11),oP 13 (.bi .lss t12 (vI 0)),oM 14 t13,oE 15 (.faddr 9 t6) 14,oE 16 (.load none t15) 14,oE 17 (.bi .gtr t16 (vI 600)) 14,oP 18 (.pick t14 vT t17),oM 19 t18,oE 20 (.faddr 8 t6) 19,oE 21 (.load none t20) 19,oE 22 (.mv t21) 19,oF 23 (.faddr 7 t6) 22,oF 24 (.load none t23) 22,oF 25 (.bi .lss t24 (vI 0)) 22,oF 26 (.mv t25) 22,oE 27 (.faddr 7 t6) 26,oE 28 (.load none t27) 26,oE 29 (.bi .gtr t28 (vI 2147483648)) 26,oF 30 (.pick t26 vT t29) 22,oE 31 (.pick t22 t30 vF) 19,oP 32 (.pick t19 vT t31)]) (.cond t32 (.seq (rg 8 [oP 8 (.mv (vI 12))]) (.cn [8] .ret)) .skip)) (.seq (.seq (rg 35 [oM 33 t1,oP 34 (.call 18 [t33]),oP 35 (.bi .eql t34 (vI 0))]) (.cond t35 (.seq (rg 8 [oP 8 (.mv (vI 111))]) (.cn [8] .ret)) .skip)) (.seq (.seq (rg 60 [oP 36 (.faddr 2 t4),oP 37 (.load none t36),oP 38 (.un .not t37),oM 39 t38,oE 40 (.faddr 4 t4) 39,oE 41 (.load none t40) 39,oE 42 (.un .not t41) 39,oP 43 (.pick t39 vT t42),oM 44 t43,oE 45 (.faddr 6 t4) 44,oE 46 (.load none t45) 44,oE 47 (.un .not t46) 44,oP 48 (.pick t44 vT t47),oM 49 t48,oE 50 (.faddr 9 t4) 49,oE 51 (.faddr 0 t50) 49,oE 52 (.load none t51) 49,oE 53 (.un .not t52) 49,oP 54 (.pick t49 vT t53),oM 55 t54,oE 56 (.faddr 13 t4) 55,oE 57 (.faddr 0 t56) 55,oE 58 (.load none t57) 55,oE 59 (.un .not t58) 55,oP 60 (.pick t55 vT t59)]) (.cond t60 (.seq (rg 8 [oP 8 (.mv (vI 137))]) (.cn [8] .ret)) .skip)) (.seq (rg 9 [oP 9 (.mv vF)]) (.seq (.seq (rg 10 [oP 10 (.mv (vI 0))]) (.block 0 (.cn [1,3,4,6,9,10] (.sub 0 zbj_b0)))) (.seq (.seq (rg 80 [oM 79 t9,oP 80 (.un .not t79)]) (.cond t80 (.seq (rg 8 [oP 8 (.mv (vI 133))]) (.cn [8] .ret)) .skip)) (.seq (.seq (rg 83 [oP 81 (.load (some 15) t4),oP 82 (.load (some 10) t6),oP 83 (.call 30 [t81,t82])]) (.cond t83 (.seq (rg 8 [oP 8 (.mv (vI 151))]) (.cn [8] .ret)) .skip)) (.seq (.seq (rg 93 [oP 84 (.faddr 2 t6),oP 85 (.load none t84),oM 86 t85,oF 87 (.faddr 0 t4) 86,oF 88 (.load none t87) 86,oF 89 (.faddr 1 t6) 86,oF 90 (.load none t89) 86,oF 91 (.call 31 [t88,(.v (.string ⟨#[110,111,110,99,101]⟩)),t90]) 86,oF 92 (.un .not t91) 86,oP 93 (.pick t86 t92 vF)]) (.cond t93 (.seq (rg 8 [oP 8 (.mv (vI 150))]) (.cn [8] .ret)) .skip)) (.seq (.seq (rg 97 [oP 94 (.load (some 15) t4),oM 95 t1,oP 96 (.load (some 10) t6),oP 97 (.call 32 [t94,t95,t96])]) (.cond t97 (.seq (rg 8 [oP 8 (.mv (vI 152))]) (.cn [8] .ret)) .skip)) (.seq (.seq (rg 105 [oP 98 (.faddr 8 t6),oP 99 (.load none t98),oM 100 t99,oF 101 (.load (some 15) t4) 100,oF 102 (.load (some 10) t6) 100,oF 103 (.mv t3) 100,oF 104 (.call 33 [t101,t102,t103]) 100,oP 105 (.pick t100 t104 vF)]) (.cond t105 (.seq (rg 8 [oP 8 (.mv (vI 153))]) (.cn [8] .ret)) .skip)) (.seq (rg 8 [oP 8 (.mv (vI 0))]) (.cn [8] .ret)))))))))))))
def qDy (in_:Bool) (i:Int) (c_aud:List BA) (qG4:BA):Option ((Bool × Int) ⊕ Bool) :=
 bif decide (i<(c_aud.length:Int)) then (
  gd (in_=false→0≤i∧i<c_aud.length) <|
  gd (in_=false→(Int.toNat i)<c_aud.length) <|
  gd (qAc (i+(1:Int))) <|
  some (.inl ((in_ || (decide ((c_aud.getD (Int.toNat i) (ET.dft .str))=qG4))),(i+(1:Int)))))
 else (
  some (.inr in_))
def zbj_p0 (in_:Bool) (i:Int) (c_aud:List BA) (qG4:BA):Option Bool :=
 qAn (fun x:(Bool × Int)=>qDy x.1 x.2 c_aud qG4) (in_,i)
def zbj_s (c:qGw) (a:Int) (w:qGy) (now:Int):Option Int :=
 bif (((decide (w.leeway<(0:Int))) || (decide ((600:Int)<w.leeway))) || (w.hasAge && ((decide (w.maxAge<(0:Int))) || (decide ((2147483648:Int)<w.maxAge))))) then (
  some (12:Int))
 else (
  (zbm_s a).bind fun r3 =>
  bif decide (r3=(0:Int)) then (
   some (111:Int))
  else (
   bif (((((!c.hasIss) || (!c.hasSub)) || (!c.hasAud)) || (!c.exp_.has)) || (!c.iat.has)) then (
    some (137:Int))
   else (
    (zbj_p0 false (0:Int) c.aud w.client).bind fun o4 =>
    bif (!o4) then (
     some (133:Int))
    else (
     (zbl_s c w).bind fun r5 =>
     bif r5 then (
      some (151:Int))
     else (
      bif w.hasNonce then (
       (zbp_s c.value (⟨#[110,111,110,99,101]⟩:BA) w.nonce).bind fun r6 =>
       bif (!r6) then (
        some (150:Int))
       else (
        (zbn_s c a w).bind fun r7 =>
        bif r7 then (
         some (152:Int))
        else (
         bif w.hasAge then (
          (zbo_s c w now).bind fun r8 =>
          bif r8 then (
           some (153:Int))
          else (
           some (0:Int)))
         else (
          some (0:Int)))))
      else (
       (zbn_s c a w).bind fun r9 =>
       bif r9 then (
        some (152:Int))
       else (
        bif w.hasAge then (
         (zbo_s c w now).bind fun r10 =>
         bif r10 then (
          some (153:Int))
         else (
          some (0:Int)))
        else (
         some (0:Int)))))))))
def zbj_G:Nat→Option CQ:=tblQ [(18,zbm_w),(30,zbl_w),(31,zbp_w),(32,zbn_w),(33,zbo_w)]
def zbj_d0:=(dQS (qAa (dSO 1 dZ) (qAa (dSO 3 dZ) (qAa (dSO 4 (dH 2 0)) (qAa (dSO 6 (dH 3 0)) (qAa (dSO 9 dB) (qAa (dSO 10 dZ) dNil)))))) (qAa (qAt .node) (qAa (qAt .str) (qAa (qAy 32 zDHX1) (qAa (qAy 34 zDHX2) dNil)))))
def zbj_l0:SubQ:=mkL zbj_d0 (fun x=>zbj_p0 x.1.2.2.2.2.1 x.1.2.2.2.2.2.1 x.2.2.1 x.2.2.2.2.1.1) fun x r R kn kx kr=>kx 0 ⟨[sL 1 (.vI x.1.1),sL 3 (.vI x.1.2.1),sL 4 (.hd 2 0),sL 6 (.hd 3 0),sL 9 (.vB r)],[],[.view .node x.2.1,.view .str x.2.2.1,.cells 32 [.own 0,.vS x.2.2.2.1.2.1,.vB x.2.2.2.1.2.2.1,.vS x.2.2.2.1.2.2.2.1,.vB x.2.2.2.1.2.2.2.2.1,.own 1,.vB x.2.2.2.1.2.2.2.2.2.2.1,.vS x.2.2.2.1.2.2.2.2.2.2.2.1,.vB x.2.2.2.1.2.2.2.2.2.2.2.2.1,.vB x.2.2.2.1.2.2.2.2.2.2.2.2.2.1,.vI x.2.2.2.1.2.2.2.2.2.2.2.2.2.2.1,.vB x.2.2.2.1.2.2.2.2.2.2.2.2.2.2.2.1,.vI x.2.2.2.1.2.2.2.2.2.2.2.2.2.2.2.2.1,.vB x.2.2.2.1.2.2.2.2.2.2.2.2.2.2.2.2.2.1,.vI x.2.2.2.1.2.2.2.2.2.2.2.2.2.2.2.2.2.2.1],.cells 34 [.vS x.2.2.2.2.1.1,.vS x.2.2.2.2.1.2.1,.vB x.2.2.2.2.1.2.2.1,.vS x.2.2.2.2.1.2.2.2.1,.vB x.2.2.2.2.1.2.2.2.2.1,.vS x.2.2.2.2.1.2.2.2.2.2.1,.vB x.2.2.2.2.1.2.2.2.2.2.2.1,.vI x.2.2.2.2.1.2.2.2.2.2.2.2.1,.vB x.2.2.2.2.1.2.2.2.2.2.2.2.2.1,.vI x.2.2.2.2.1.2.2.2.2.2.2.2.2.2.1]]⟩
def zbj_L:Nat→SubQ:=tblL [(0,zbj_l0)]
theorem zbj_sub0:qA2 zbj_L zbj_G 2 11 106 0 zbj_b0:=qAm (show zbj_L 0=zbj_l0 from by kernel_rfl) fun x R kn kx kr=>qAf (step:=fun y=>qDy y.1 y.2 x.2.2.1 x.2.2.2.2.1.1) (enc:=fun (y:Bool × Int)=>zbj_d0.e ((x.1.1,x.1.2.1,x.1.2.2.1,x.1.2.2.2.1,y.1,y.2,x.1.2.2.2.2.2.2),x.2)) (fun y=>by kernel_rfl) (fun y ki=>by simp only [qDy,-eq_self,sZ]; kernel_rfl) (x.1.2.2.2.2.1,x.1.2.2.2.2.2.1)
def zbj_c:CS:=mkC (qAa (dVC (dCA zDHX1)) (qAa (dVC (dCO dZ)) zDHX4)) (qAa (qAt .node) (qAa (qAt .str) dNil)) (fun x y=>zbj_s (⟨y.1,x.1.2.1,x.1.2.2.1,x.1.2.2.2.1,x.1.2.2.2.2.1,y.2.1,x.1.2.2.2.2.2.2.1,x.1.2.2.2.2.2.2.2.1,x.1.2.2.2.2.2.2.2.2.1,(⟨x.1.2.2.2.2.2.2.2.2.2.1,x.1.2.2.2.2.2.2.2.2.2.2.1⟩:qGu),(⟨x.1.2.2.2.2.2.2.2.2.2.2.2.1,x.1.2.2.2.2.2.2.2.2.2.2.2.2.1⟩:qGu),(⟨x.1.2.2.2.2.2.2.2.2.2.2.2.2.2.1,x.1.2.2.2.2.2.2.2.2.2.2.2.2.2.2.1⟩:qGu)⟩:qGw) x.2.1 (⟨x.2.2.1.1,x.2.2.1.2.1,x.2.2.1.2.2.1,x.2.2.1.2.2.2.1,x.2.2.1.2.2.2.2.1,x.2.2.1.2.2.2.2.2.1,x.2.2.1.2.2.2.2.2.2.1,x.2.2.1.2.2.2.2.2.2.2.1,x.2.2.1.2.2.2.2.2.2.2.2.1,x.2.2.1.2.2.2.2.2.2.2.2.2.1⟩:qGy) x.2.2.2.1) (fun x y r=>.c (.o (.vI r))) fun x y r=>[.view .node y.1,.view .str y.2.1]
theorem zbj_val:qAl Tryd.prog 13 zbj_c:=vl1 zbj_q [.tmp 8] 106 11 2 (show qA8 zbj_L zbj_G 2 11 106 [(0,zbj_b0)] from ⟨zbj_sub0,tV⟩) (qAs ⟨zbm_ok,zbl_ok,zbp_ok,zbn_ok,zbo_ok,tV⟩) fun x y=>by
 simp only [zbj_s,-eq_self,sZ];kernel_rfl
def zbj_w:CQ:=qBk [(0,some 0,some (.node,39)),(0,some 5,some (.str,9))] (qBu [false,false] zbj_c)
theorem zbj_ok:qAi Tryd.prog 13 zbj_w:=qAr zbj_val
def zbb_b0:IQ:=(.loop [1,3,4,6,9,13] (.seq (.seq (rg 96 [oM 92 t13,oP 93 (.faddr 5 t9),oP 94 (.load none t93),oP 95 (.len t94),oP 96 (.bi .lss t92 t95)]) (.cond t96 .skip (.cn [1,3,4,6,9] (.exit 0)))) (.seq (.block 1 (.reg 0 (some [0,1,2,3,4,5,6,7,8,9,10]) [oP 99 (.faddr 5 t9),oP 100 (.load none t99),oM 101 t13,oP 102 (.faddr 5 t9),oP 103 (.load none t102),oM 104 t13,oP 105 (.iaddr 1 t103 t104),oP 106 (.load none t105),oP 107 (.bi .add t106 (.v (.string ⟨#[120]⟩))),oP 108 (.iaddr 1 t100 t101),oN (.store 1 t108 t107)])) (rg 13 [oM 97 t13,oP 98 (.bi .add t97 (vI 1)),oM 13 t98]))))
def zbb_b1:IQ:=(.loop [1,3,4,6,9,15] (.seq (.seq (rg 125 [oM 121 t15,oP 122 (.faddr 5 t9),oP 123 (.load none t122),oP 124 (.len t123),oP 125 (.bi .lss t121 t124)]) (.cond t125 .skip (.cn [1,3,6,9] (.exit 2)))) (.seq (.block 3 (.reg 0 (some [0,1,2,3,4,5,6,7,8,9]) [oP 128 (.faddr 5 t9),oP 129 (.load none t128),oM 130 t15,oP 131 (.faddr 5 t4),oP 132 (.load none t131),oM 133 t15,oP 134 (.iaddr 1 t132 t133),oP 135 (.load none t134),oP 136 (.iaddr 1 t129 t130),oN (.store 1 t136 t135)])) (rg 15 [oM 126 t15,oP 127 (.bi .add t126 (vI 1)),oM 15 t127]))))
def zbb_b2:IQ:=(.loop [1,3,6,9,16] (.seq (.seq (rg 141 [oM 137 t16,oP 138 (.faddr 0 t9),oP 139 (.load none t138),oP 140 (.len t139),oP 141 (.bi .lss t137 t140)]) (.cond t141 .skip (.cn [1,3,6,9] (.exit 4)))) (.seq (.block 5 (.seq (rg 150 [oP 144 (.faddr 0 t9),oP 145 (.load none t144),oM 146 t16,oP 147 (.iaddr 6 t145 t146),oP 148 (.faddr 0 t147),oP 149 (.load none t148),oP 150 (.bi .eql t149 (vI 5))]) (.cond t150 (.reg 0 (some [0,1,2,3,4,5,6,7,8,9,10,11,12]) [oP 151 (.faddr 0 t9),oP 152 (.load none t151),oM 153 t16,oP 154 (.faddr 0 t9),oP 155 (.load none t154),oM 156 t16,oP 157 (.iaddr 6 t155 t156),oP 158 (.faddr 2 t157),oP 159 (.load none t158),oP 160 (.bi .add t159 (.v (.string ⟨#[120]⟩))),oP 161 (.iaddr 6 t152 t153),oP 162 (.faddr 2 t161),oN (.store 1 t162 t160)]) .skip))) (rg 16 [oM 142 t16,oP 143 (.bi .add t142 (vI 1)),oM 16 t143]))))
def zbb_q:IQ:=(.seq (rg 8 [oP 4 (.box 32 15 t0),oP 6 (.box 34 10 t2),oP 8 (.mv vF)]) (.seq (.seq (rg 19 [oP 17 (.faddr 0 t4),oP 18 (.load none t17),oP 19 (.call 7 [t18])]) (.cond t19 (.seq (rg 8 [oP 8 (.mv vT)]) (.cn [8] .ret)) .skip)) (.seq (rg 0 [oP 20 (.load (some 15) t4),oP 21 (.call 8 [t20]),oP 9 (.alloc 32 [.slice none 0 0,.string ⟨#[]⟩,.bool false,.string ⟨#[]⟩,.bool false,.slice none 0 0,.bool false,.string ⟨#[]⟩,.bool false,.bool false,.int .i64 0,.bool false,.int .i64 0,.bool false,.int .i64 0]),oN (.store 15 t9 t21)]) (.seq (rg 10 [oP 22 (.faddr 0 t9),oP 23 (.load none t22),oP 24 (.build [.int .i64 0,.string ⟨#[]⟩,.string ⟨#[]⟩,.bool false,.int .i64 0,.int .i64 0] [(2,1,(.v (.string ⟨#[109,97,114,107]⟩)))]),oP 25 (.bslice 39 6 1 [.int .i64 0,.string ⟨#[]⟩,.string ⟨#[]⟩,.bool false,.int .i64 0,.int .i64 0] [(0,t24)]),oP 26 (.append 39 6 64 [.int .i64 0,.string ⟨#[]⟩,.string ⟨#[]⟩,.bool false,.int .i64 0,.int .i64 0] t23 t25),oM 10 t26]) (.seq (rg 11 [oP 27 (.faddr 5 t9),oP 28 (.load none t27),oP 29 (.bslice 9 1 1 [.string ⟨#[]⟩] [(0,(.v (.string ⟨#[109,97,114,107]⟩)))]),oP 30 (.append 9 1 16 [.string ⟨#[]⟩] t28 t29),oM 11 t30]) (.seq (rg 0 [oM 31 t10,oP 32 (.faddr 0 t4),oP 33 (.load none t32),oP 34 (.len t33),oP 35 (.sub (some 6) t31 (some (vI 0)) (some t34)),oP 36 (.faddr 0 t9),oN (.store 1 t36 t35)]) (.seq (rg 0 [oM 37 t11,oP 38 (.faddr 5 t4),oP 39 (.load none t38),oP 40 (.len t39),oP 41 (.sub (some 1) t37 (some (vI 0)) (some t40)),oP 42 (.faddr 5 t9),oN (.store 1 t42 t41)]) (.seq (rg 12 [oP 43 (.load (some 15) t9),oM 44 t1,oP 45 (.load (some 10) t6),oM 46 t3,oP 47 (.call 9 [t43,t44,t45,t46]),oM 12 t47]) (.seq (.seq (rg 80 [oP 48 (.faddr 0 t9),oP 49 (.load none t48),oP 50 (.faddr 0 t4),oP 51 (.load none t50),oP 52 (.call 10 [t49,t51]),oP 53 (.un .not t52),oM 54 t53,oE 55 (.faddr 5 t9) 54,oE 56 (.load none t55) 54,oE 57 (.faddr 5 t4) 54,oE 58 (.load none t57) 54,oE 59 (.call 11 [t56,t58]) 54,oE 60 (.un .not t59) 54,oP 61 (.pick t54 vT t60),oM 62 t61,oE 63 (.mv t10) 62,oE 64 (.faddr 0 t4) 62,oE 65 (.load none t64) 62,oE 66 (.len t65) 62,oE 67 (.iaddr 6 t63 t66) 62,oE 68 (.load (some 6) t67) 62,oE 69 (.build [.int .i64 0,.string ⟨#[]⟩,.string ⟨#[]⟩,.bool false,.int .i64 0,.int .i64 0] [(2,1,(.v (.string ⟨#[109,97,114,107]⟩)))]) 62,oE 70 (.ext (.aggEq true [.int .i64,.str,.str,.bool,.int .i64,.int .i64]) [t68,t69]) 62,oP 71 (.pick t62 vT t70),oM 72 t71,oE 73 (.mv t11) 72,oE 74 (.faddr 5 t4) 72,oE 75 (.load none t74) 72,oE 76 (.len t75) 72,oE 77 (.iaddr 1 t73 t76) 72,oE 78 (.load none t77) 72,oE 79 (.bi .neq t78 (.v (.string ⟨#[109,97,114,107]⟩))) 72,oP 80 (.pick t72 vT t79)]) (.cond t80 (.seq (rg 8 [oP 8 (.mv vF)]) (.cn [8] .ret)) .skip)) (.seq (.seq (rg 84 [oP 81 (.faddr 0 t4),oP 82 (.load none t81),oP 83 (.call 12 [t82]),oP 84 (.un .not t83)]) (.cond t84 (.seq (rg 8 [oP 8 (.mv vT)]) (.cn [8] .ret)) .skip)) (.seq (.seq (rg 91 [oM 85 t12,oP 86 (.load (some 15) t4),oM 87 t1,oP 88 (.load (some 10) t6),oM 89 t3,oP 90 (.call 13 [t86,t87,t88,t89]),oP 91 (.bi .neq t85 t90)]) (.cond t91 (.seq (rg 8 [oP 8 (.mv vF)]) (.cn [8] .ret)) .skip)) (.seq (.seq (rg 13 [oP 13 (.mv (vI 0))]) (.block 0 (.cn [1,3,4,6,9,13] (.sub 0 zbb_b0)))) (.seq (rg 14 [oP 109 (.load (some 15) t9),oM 110 t1,oP 111 (.load (some 10) t6),oM 112 t3,oP 113 (.call 13 [t109,t110,t111,t112]),oM 14 t113]) (.seq (.seq (rg 120 [oP 114 (.load (some 15) t9),oM 115 t1,oP 116 (.load (some 10) t6),oM 117 t3,oP 118 (.call 9 [t114,t115,t116,t117]),oM 119 t14,oP 120 (.bi .neq t118 t119)]) (.cond t120 (.seq (rg 8 [oP 8 (.mv vF)]) (.cn [8] .ret)) .skip)) (.seq (.seq (rg 15 [oP 15 (.mv (vI 0))]) (.block 2 (.cn [1,3,4,6,9,15] (.sub 1 zbb_b1)))) (.seq (.seq (rg 16 [oP 16 (.mv (vI 0))]) (.block 4 (.cn [1,3,6,9,16] (.sub 2 zbb_b2)))) (.seq (rg 14 [oP 163 (.load (some 15) t9),oM 164 t1,oP 165 (.load (some 10) t6),oM 166 t3,oP 167 (.call 13 [t163,t164,t165,t166]),oM 14 t167]) (.seq (rg 8 [oP 168 (.load (some 15) t9),oM 169 t1,oP 170 (.load (some 10) t6),oM 171 t3,oP 172 (.call 9 [t168,t169,t170,t171]),oM 173 t14,oP 174 (.bi .eql t172 t173),oM 8 t174]) (.cn [8] .ret)))))))))))))))))))
def qFg (i:Int) (qGz:Nat) (h8:List BA):Option ((Int × (List BA)) ⊕ ((List BA))) :=
 bif decide (i<((qGz:Nat):Int)) then (
  gd (0≤i∧i<((qGz:Nat):Int)) <|
  gd (((0)+Int.toNat i)<h8.length) <|
  gd ((h8.getD ((0)+Int.toNat i) (ET.dft .str)).size+(⟨#[120]⟩:BA).size≤9223372036854775807) <|
  gd (0≤i∧i<((qGz:Nat):Int)) <|
  gd (((0)+Int.toNat i)<h8.length) <|
  gd (qAc (i+(1:Int))) <|
  some (.inl ((i+(1:Int)),(h8.set ((0)+Int.toNat i) ((h8.getD ((0)+Int.toNat i) (ET.dft .str))++(⟨#[120]⟩:BA))))))
 else (
  some (.inr h8))
def zbb_p0 (i:Int) (qGz:Nat) (h8:List BA):Option ((List BA)) :=
 qAn (fun x:(Int × (List BA))=>qFg x.1 qGz x.2) (i,h8)
def qFh (i:Int) (c_aud:List BA) (qGz:Nat) (h8:List BA):Option ((Int × (List BA)) ⊕ ((List BA))) :=
 bif decide (i<((qGz:Nat):Int)) then (
  gd (0≤i∧i<c_aud.length) <|
  gd ((Int.toNat i)<c_aud.length) <|
  gd (0≤i∧i<((qGz:Nat):Int)) <|
  gd (((0)+Int.toNat i)<h8.length) <|
  gd (qAc (i+(1:Int))) <|
  some (.inl ((i+(1:Int)),(h8.set ((0)+Int.toNat i) (c_aud.getD (Int.toNat i) (ET.dft .str))))))
 else (
  some (.inr h8))
def zbb_p1 (i:Int) (c_aud:List BA) (qGz:Nat) (h8:List BA):Option ((List BA)) :=
 qAn (fun x:(Int × (List BA))=>qFh x.1 c_aud qGz x.2) (i,h8)
def qDw (i:Int) (qG1:Nat) (h6:List Eng.Node):Option ((Int × (List Eng.Node)) ⊕ ((List Eng.Node))) :=
 bif decide (i<((qG1:Nat):Int)) then (
  gd (0≤i∧i<((qG1:Nat):Int)) <|
  gd (((0)+Int.toNat i)<h6.length) <|
  gd (((0)+Int.toNat i)<h6.length) <|
  bif decide (((h6.getD ((0)+Int.toNat i) (ET.dft .node)).kind)=(5:Int)) then (
   gd (0≤i∧i<((qG1:Nat):Int)) <|
   gd (((0)+Int.toNat i)<h6.length) <|
   gd (((0)+Int.toNat i)<h6.length) <|
   gd (((h6.getD ((0)+Int.toNat i) (ET.dft .node)).text).size+(⟨#[120]⟩:BA).size≤9223372036854775807) <|
   gd (0≤i∧i<((qG1:Nat):Int)) <|
   gd (((0)+Int.toNat i)<h6.length) <|
   gd (((0)+Int.toNat i)<h6.length) <|
   gd (qAc (i+(1:Int))) <|
   some (.inl ((i+(1:Int)),(h6.set ((0)+Int.toNat i) (⟨(h6.getD ((0)+Int.toNat i) (ET.dft .node)).kind,(h6.getD ((0)+Int.toNat i) (ET.dft .node)).key,(((h6.getD ((0)+Int.toNat i) (ET.dft .node)).text)++(⟨#[120]⟩:BA)),(h6.getD ((0)+Int.toNat i) (ET.dft .node)).whole,(h6.getD ((0)+Int.toNat i) (ET.dft .node)).int,(h6.getD ((0)+Int.toNat i) (ET.dft .node)).kids⟩:Eng.Node)))))
  else (
   gd (qAc (i+(1:Int))) <|
   some (.inl ((i+(1:Int)),h6))))
 else (
  some (.inr h6))
def zbb_p2 (i:Int) (qG1:Nat) (h6:List Eng.Node):Option ((List Eng.Node)) :=
 qAn (fun x:(Int × (List Eng.Node))=>qDw x.1 qG1 x.2) (i,h6)
def zbb_s (c:qGw) (a:Int) (w:qGy) (now:Int):Option Bool :=
 (zbw_s c.value).bind fun r57 =>
 bif r57 then (
  some true)
 else (
  (zbe_s c).bind fun r58 =>
  gd (r58.value.length+([(⟨(0:Int),(⟨#[]⟩:BA),(⟨#[109,97,114,107]⟩:BA),false,(0:Int),(0:Int)⟩:Eng.Node)]:List Eng.Node).length≤9223372036854775807∧(r58.value.length+([(⟨(0:Int),(⟨#[]⟩:BA),(⟨#[109,97,114,107]⟩:BA),false,(0:Int),(0:Int)⟩:Eng.Node)]:List Eng.Node).length)*64≤140737488355328) <|
  gd (r58.aud.length+([(⟨#[109,97,114,107]⟩:BA)]:List BA).length≤9223372036854775807∧(r58.aud.length+([(⟨#[109,97,114,107]⟩:BA)]:List BA).length)*16≤140737488355328) <|
  gd (0≤(0:Int)∧(0:Int)≤(c.value.length:Int)∧(c.value.length:Int)≤(r58.value++[(⟨(0:Int),(⟨#[]⟩:BA),(⟨#[109,97,114,107]⟩:BA),false,(0:Int),(0:Int)⟩:Eng.Node)]).length) <|
  gd (0≤(0:Int)∧(0:Int)≤(c.aud.length:Int)∧(c.aud.length:Int)≤(r58.aud++[(⟨#[109,97,114,107]⟩:BA)]).length) <|
  gd ((0)+(Int.toNat (c.value.length:Int))≤(r58.value++[(⟨(0:Int),(⟨#[]⟩:BA),(⟨#[109,97,114,107]⟩:BA),false,(0:Int),(0:Int)⟩:Eng.Node)]).length) <|
  gd ((0)+(Int.toNat (c.aud.length:Int))≤(r58.aud++[(⟨#[109,97,114,107]⟩:BA)]).length) <|
  (zac_s {r58 with value:=(((r58.value++[(⟨(0:Int),(⟨#[]⟩:BA),(⟨#[109,97,114,107]⟩:BA),false,(0:Int),(0:Int)⟩:Eng.Node)]).drop (0)).take (Int.toNat (c.value.length:Int))),aud:=(((r58.aud++[(⟨#[109,97,114,107]⟩:BA)]).drop (0)).take (Int.toNat (c.aud.length:Int))):qGw} a w now).bind fun r59 =>
  gd ((0)+(Int.toNat (c.value.length:Int))≤(r58.value++[(⟨(0:Int),(⟨#[]⟩:BA),(⟨#[109,97,114,107]⟩:BA),false,(0:Int),(0:Int)⟩:Eng.Node)]).length) <|
  (zbc_s (((r58.value++[(⟨(0:Int),(⟨#[]⟩:BA),(⟨#[109,97,114,107]⟩:BA),false,(0:Int),(0:Int)⟩:Eng.Node)]).drop (0)).take (Int.toNat (c.value.length:Int))) c.value).bind fun r60 =>
  bif (!r60) then (
   gd (true=false→0≤(c.value.length:Int)∧(c.value.length:Int)<(r58.value++[(⟨(0:Int),(⟨#[]⟩:BA),(⟨#[109,97,114,107]⟩:BA),false,(0:Int),(0:Int)⟩:Eng.Node)]).length) <|
   gd (true=false→(Int.toNat (c.value.length:Int))<(r58.value++[(⟨(0:Int),(⟨#[]⟩:BA),(⟨#[109,97,114,107]⟩:BA),false,(0:Int),(0:Int)⟩:Eng.Node)]).length) <|
   gd (true=false→0≤(c.aud.length:Int)∧(c.aud.length:Int)<(r58.aud++[(⟨#[109,97,114,107]⟩:BA)]).length) <|
   gd (true=false→(Int.toNat (c.aud.length:Int))<(r58.aud++[(⟨#[109,97,114,107]⟩:BA)]).length) <|
   some false)
  else (
   gd ((0)+(Int.toNat (c.aud.length:Int))≤(r58.aud++[(⟨#[109,97,114,107]⟩:BA)]).length) <|
   (zbd_s (((r58.aud++[(⟨#[109,97,114,107]⟩:BA)]).drop (0)).take (Int.toNat (c.aud.length:Int))) c.aud).bind fun r61 =>
   gd ((!r61)=false→0≤(c.value.length:Int)∧(c.value.length:Int)<(r58.value++[(⟨(0:Int),(⟨#[]⟩:BA),(⟨#[109,97,114,107]⟩:BA),false,(0:Int),(0:Int)⟩:Eng.Node)]).length) <|
   gd ((!r61)=false→(Int.toNat (c.value.length:Int))<(r58.value++[(⟨(0:Int),(⟨#[]⟩:BA),(⟨#[109,97,114,107]⟩:BA),false,(0:Int),(0:Int)⟩:Eng.Node)]).length) <|
   gd (((!r61) || (!(decide ((((r58.value++[(⟨(0:Int),(⟨#[]⟩:BA),(⟨#[109,97,114,107]⟩:BA),false,(0:Int),(0:Int)⟩:Eng.Node)]).getD (Int.toNat (c.value.length:Int)) (ET.dft .node)).kind)=(0:Int)) && (decide ((((r58.value++[(⟨(0:Int),(⟨#[]⟩:BA),(⟨#[109,97,114,107]⟩:BA),false,(0:Int),(0:Int)⟩:Eng.Node)]).getD (Int.toNat (c.value.length:Int)) (ET.dft .node)).key)=(⟨#[]⟩:BA)) && (decide ((((r58.value++[(⟨(0:Int),(⟨#[]⟩:BA),(⟨#[109,97,114,107]⟩:BA),false,(0:Int),(0:Int)⟩:Eng.Node)]).getD (Int.toNat (c.value.length:Int)) (ET.dft .node)).text)=(⟨#[109,97,114,107]⟩:BA)) && (((((r58.value++[(⟨(0:Int),(⟨#[]⟩:BA),(⟨#[109,97,114,107]⟩:BA),false,(0:Int),(0:Int)⟩:Eng.Node)]).getD (Int.toNat (c.value.length:Int)) (ET.dft .node)).whole) == false) && (decide ((((r58.value++[(⟨(0:Int),(⟨#[]⟩:BA),(⟨#[109,97,114,107]⟩:BA),false,(0:Int),(0:Int)⟩:Eng.Node)]).getD (Int.toNat (c.value.length:Int)) (ET.dft .node)).int)=(0:Int)) && (decide ((((r58.value++[(⟨(0:Int),(⟨#[]⟩:BA),(⟨#[109,97,114,107]⟩:BA),false,(0:Int),(0:Int)⟩:Eng.Node)]).getD (Int.toNat (c.value.length:Int)) (ET.dft .node)).kids)=(0:Int)) && true))))))))=false→0≤(c.aud.length:Int)∧(c.aud.length:Int)<(r58.aud++[(⟨#[109,97,114,107]⟩:BA)]).length) <|
   gd (((!r61) || (!(decide ((((r58.value++[(⟨(0:Int),(⟨#[]⟩:BA),(⟨#[109,97,114,107]⟩:BA),false,(0:Int),(0:Int)⟩:Eng.Node)]).getD (Int.toNat (c.value.length:Int)) (ET.dft .node)).kind)=(0:Int)) && (decide ((((r58.value++[(⟨(0:Int),(⟨#[]⟩:BA),(⟨#[109,97,114,107]⟩:BA),false,(0:Int),(0:Int)⟩:Eng.Node)]).getD (Int.toNat (c.value.length:Int)) (ET.dft .node)).key)=(⟨#[]⟩:BA)) && (decide ((((r58.value++[(⟨(0:Int),(⟨#[]⟩:BA),(⟨#[109,97,114,107]⟩:BA),false,(0:Int),(0:Int)⟩:Eng.Node)]).getD (Int.toNat (c.value.length:Int)) (ET.dft .node)).text)=(⟨#[109,97,114,107]⟩:BA)) && (((((r58.value++[(⟨(0:Int),(⟨#[]⟩:BA),(⟨#[109,97,114,107]⟩:BA),false,(0:Int),(0:Int)⟩:Eng.Node)]).getD (Int.toNat (c.value.length:Int)) (ET.dft .node)).whole) == false) && (decide ((((r58.value++[(⟨(0:Int),(⟨#[]⟩:BA),(⟨#[109,97,114,107]⟩:BA),false,(0:Int),(0:Int)⟩:Eng.Node)]).getD (Int.toNat (c.value.length:Int)) (ET.dft .node)).int)=(0:Int)) && (decide ((((r58.value++[(⟨(0:Int),(⟨#[]⟩:BA),(⟨#[109,97,114,107]⟩:BA),false,(0:Int),(0:Int)⟩:Eng.Node)]).getD (Int.toNat (c.value.length:Int)) (ET.dft .node)).kids)=(0:Int)) && true))))))))=false→(Int.toNat (c.aud.length:Int))<(r58.aud++[(⟨#[109,97,114,107]⟩:BA)]).length) <|
   bif (((!r61) || (!(decide ((((r58.value++[(⟨(0:Int),(⟨#[]⟩:BA),(⟨#[109,97,114,107]⟩:BA),false,(0:Int),(0:Int)⟩:Eng.Node)]).getD (Int.toNat (c.value.length:Int)) (ET.dft .node)).kind)=(0:Int)) && (decide ((((r58.value++[(⟨(0:Int),(⟨#[]⟩:BA),(⟨#[109,97,114,107]⟩:BA),false,(0:Int),(0:Int)⟩:Eng.Node)]).getD (Int.toNat (c.value.length:Int)) (ET.dft .node)).key)=(⟨#[]⟩:BA)) && (decide ((((r58.value++[(⟨(0:Int),(⟨#[]⟩:BA),(⟨#[109,97,114,107]⟩:BA),false,(0:Int),(0:Int)⟩:Eng.Node)]).getD (Int.toNat (c.value.length:Int)) (ET.dft .node)).text)=(⟨#[109,97,114,107]⟩:BA)) && (((((r58.value++[(⟨(0:Int),(⟨#[]⟩:BA),(⟨#[109,97,114,107]⟩:BA),false,(0:Int),(0:Int)⟩:Eng.Node)]).getD (Int.toNat (c.value.length:Int)) (ET.dft .node)).whole) == false) && (decide ((((r58.value++[(⟨(0:Int),(⟨#[]⟩:BA),(⟨#[109,97,114,107]⟩:BA),false,(0:Int),(0:Int)⟩:Eng.Node)]).getD (Int.toNat (c.value.length:Int)) (ET.dft .node)).int)=(0:Int)) && (decide ((((r58.value++[(⟨(0:Int),(⟨#[]⟩:BA),(⟨#[109,97,114,107]⟩:BA),false,(0:Int),(0:Int)⟩:Eng.Node)]).getD (Int.toNat (c.value.length:Int)) (ET.dft .node)).kids)=(0:Int)) && true)))))))) || (!decide (((r58.aud++[(⟨#[109,97,114,107]⟩:BA)]).getD (Int.toNat (c.aud.length:Int)) (ET.dft .str))=(⟨#[109,97,114,107]⟩:BA)))) then (
    some false)
   else (
    (zbz_s c.value).bind fun r62 =>
    bif (!r62) then (
     some true)
    else (
     (zbj_s c a w now).bind fun r63 =>
     bif (!decide (r59=r63)) then (
      some false)
     else (
      (zbb_p0 (0:Int) (Int.toNat (c.aud.length:Int)) (r58.aud++[(⟨#[109,97,114,107]⟩:BA)])).bind fun o64 =>
      gd ((0)+(Int.toNat (c.value.length:Int))≤(r58.value++[(⟨(0:Int),(⟨#[]⟩:BA),(⟨#[109,97,114,107]⟩:BA),false,(0:Int),(0:Int)⟩:Eng.Node)]).length) <|
      gd ((0)+(Int.toNat (c.aud.length:Int))≤o64.length) <|
      (zbj_s {r58 with value:=(((r58.value++[(⟨(0:Int),(⟨#[]⟩:BA),(⟨#[109,97,114,107]⟩:BA),false,(0:Int),(0:Int)⟩:Eng.Node)]).drop (0)).take (Int.toNat (c.value.length:Int))),aud:=((o64.drop (0)).take (Int.toNat (c.aud.length:Int))):qGw} a w now).bind fun r65 =>
      gd ((0)+(Int.toNat (c.value.length:Int))≤(r58.value++[(⟨(0:Int),(⟨#[]⟩:BA),(⟨#[109,97,114,107]⟩:BA),false,(0:Int),(0:Int)⟩:Eng.Node)]).length) <|
      gd ((0)+(Int.toNat (c.aud.length:Int))≤o64.length) <|
      (zac_s {r58 with value:=(((r58.value++[(⟨(0:Int),(⟨#[]⟩:BA),(⟨#[109,97,114,107]⟩:BA),false,(0:Int),(0:Int)⟩:Eng.Node)]).drop (0)).take (Int.toNat (c.value.length:Int))),aud:=((o64.drop (0)).take (Int.toNat (c.aud.length:Int))):qGw} a w now).bind fun r66 =>
      bif (!decide (r66=r65)) then (
       some false)
      else (
       (zbb_p1 (0:Int) c.aud (Int.toNat (c.aud.length:Int)) o64).bind fun o67 =>
       (zbb_p2 (0:Int) (Int.toNat (c.value.length:Int)) (r58.value++[(⟨(0:Int),(⟨#[]⟩:BA),(⟨#[109,97,114,107]⟩:BA),false,(0:Int),(0:Int)⟩:Eng.Node)])).bind fun o68 =>
       gd ((0)+(Int.toNat (c.value.length:Int))≤o68.length) <|
       gd ((0)+(Int.toNat (c.aud.length:Int))≤o67.length) <|
       (zbj_s {r58 with value:=((o68.drop (0)).take (Int.toNat (c.value.length:Int))),aud:=((o67.drop (0)).take (Int.toNat (c.aud.length:Int))):qGw} a w now).bind fun r69 =>
       gd ((0)+(Int.toNat (c.value.length:Int))≤o68.length) <|
       gd ((0)+(Int.toNat (c.aud.length:Int))≤o67.length) <|
       (zac_s {r58 with value:=((o68.drop (0)).take (Int.toNat (c.value.length:Int))),aud:=((o67.drop (0)).take (Int.toNat (c.aud.length:Int))):qGw} a w now).bind fun r70 =>
       some (decide (r70=r69))))))))
def zbb_G:Nat→Option CQ:=tblQ [(7,zbw_w),(8,zbe_w),(9,zac_w),(10,zbc_w),(11,zbd_w),(12,zbz_w),(13,zbj_w)]
def zDHX5:=(qAa (dRow .node 39) (qAa (dRow .str 9) dNil))
def zbb_d0:=(dQS (qAa (dSO 1 dZ) (qAa (dSO 3 dZ) (qAa (dSO 4 (dH 2 0)) (qAa (dSO 6 (dH 3 0)) (qAa (dSO 9 (dH 4 0)) (qAa (dSO 13 dZ) dNil)))))) (qAa (qAt .node) (qAa (qAt .str) (qAa (qAy 32 zDHX1) (qAa (qAy 34 zDHX2) (qAa (qAy 32 (qAa (dO 5) (qAa dS (qAa dB (qAa dS (qAa dB (qAa (dO 6) zDHX3))))))) (qAa (dPart0 7 6) (qAa (dPart0 8 1) zDHX5))))))))
def zbb_l0:SubQ:=mkL zbb_d0 (fun x=>zbb_p0 x.1.2.2.2.2.2.1 x.2.2.2.2.2.2.2.1 x.2.2.2.2.2.2.2.2.2.1) fun x r R kn kx kr=>kx 0 ⟨[sL 1 (.vI x.1.1),sL 3 (.vI x.1.2.1),sL 4 (.hd 2 0),sL 6 (.hd 3 0),sL 9 (.hd 4 0)],[],[.view .node x.2.1,.view .str x.2.2.1,.cells 32 [.own 0,.vS x.2.2.2.1.2.1,.vB x.2.2.2.1.2.2.1,.vS x.2.2.2.1.2.2.2.1,.vB x.2.2.2.1.2.2.2.2.1,.own 1,.vB x.2.2.2.1.2.2.2.2.2.2.1,.vS x.2.2.2.1.2.2.2.2.2.2.2.1,.vB x.2.2.2.1.2.2.2.2.2.2.2.2.1,.vB x.2.2.2.1.2.2.2.2.2.2.2.2.2.1,.vI x.2.2.2.1.2.2.2.2.2.2.2.2.2.2.1,.vB x.2.2.2.1.2.2.2.2.2.2.2.2.2.2.2.1,.vI x.2.2.2.1.2.2.2.2.2.2.2.2.2.2.2.2.1,.vB x.2.2.2.1.2.2.2.2.2.2.2.2.2.2.2.2.2.1,.vI x.2.2.2.1.2.2.2.2.2.2.2.2.2.2.2.2.2.2.1],.cells 34 [.vS x.2.2.2.2.1.1,.vS x.2.2.2.2.1.2.1,.vB x.2.2.2.2.1.2.2.1,.vS x.2.2.2.2.1.2.2.2.1,.vB x.2.2.2.2.1.2.2.2.2.1,.vS x.2.2.2.2.1.2.2.2.2.2.1,.vB x.2.2.2.2.1.2.2.2.2.2.2.1,.vI x.2.2.2.2.1.2.2.2.2.2.2.2.1,.vB x.2.2.2.2.1.2.2.2.2.2.2.2.2.1,.vI x.2.2.2.2.1.2.2.2.2.2.2.2.2.2.1],.cells 32 [.own 5,.vS x.2.2.2.2.2.1.2.1,.vB x.2.2.2.2.2.1.2.2.1,.vS x.2.2.2.2.2.1.2.2.2.1,.vB x.2.2.2.2.2.1.2.2.2.2.1,.own 6,.vB x.2.2.2.2.2.1.2.2.2.2.2.2.1,.vS x.2.2.2.2.2.1.2.2.2.2.2.2.2.1,.vB x.2.2.2.2.2.1.2.2.2.2.2.2.2.2.1,.vB x.2.2.2.2.2.1.2.2.2.2.2.2.2.2.2.1,.vI x.2.2.2.2.2.1.2.2.2.2.2.2.2.2.2.2.1,.vB x.2.2.2.2.2.1.2.2.2.2.2.2.2.2.2.2.2.1,.vI x.2.2.2.2.2.1.2.2.2.2.2.2.2.2.2.2.2.2.1,.vB x.2.2.2.2.2.1.2.2.2.2.2.2.2.2.2.2.2.2.2.1,.vI x.2.2.2.2.2.1.2.2.2.2.2.2.2.2.2.2.2.2.2.2.1],.part 7 (0) x.2.2.2.2.2.2.1 6,.part 8 (0) x.2.2.2.2.2.2.2.1 1,.row .node 39 x.2.2.2.2.2.2.2.2.1,.row .str 9 r]⟩
def zbb_d1:=(dQS (qAa (dSO 1 dZ) (qAa (dSO 3 dZ) (qAa (dSO 4 (dH 2 0)) (qAa (dSO 6 (dH 3 0)) (qAa (dSO 9 (dH 4 0)) (qAa (dSO 15 dZ) dNil)))))) (qAa (qAt .node) (qAa (qAt .str) (qAa (qAy 32 zDHX1) (qAa (qAy 34 zDHX2) (qAa (qAy 32 (qAa (dO 5) (qAa dS (qAa dB (qAa dS (qAa dB (qAa (dO 6) zDHX3))))))) (qAa (dPart0 7 6) (qAa (dPart0 8 1) zDHX5))))))))
def zbb_l1:SubQ:=mkL zbb_d1 (fun x=>zbb_p1 x.1.2.2.2.2.2.1 x.2.2.1 x.2.2.2.2.2.2.2.1 x.2.2.2.2.2.2.2.2.2.1) fun x r R kn kx kr=>kx 2 ⟨[sL 1 (.vI x.1.1),sL 3 (.vI x.1.2.1),sL 6 (.hd 2 0),sL 9 (.hd 3 0)],[],[.view .node x.2.1,.view .str x.2.2.1,.cells 34 [.vS x.2.2.2.2.1.1,.vS x.2.2.2.2.1.2.1,.vB x.2.2.2.2.1.2.2.1,.vS x.2.2.2.2.1.2.2.2.1,.vB x.2.2.2.2.1.2.2.2.2.1,.vS x.2.2.2.2.1.2.2.2.2.2.1,.vB x.2.2.2.2.1.2.2.2.2.2.2.1,.vI x.2.2.2.2.1.2.2.2.2.2.2.2.1,.vB x.2.2.2.2.1.2.2.2.2.2.2.2.2.1,.vI x.2.2.2.2.1.2.2.2.2.2.2.2.2.2.1],.cells 32 [.own 4,.vS x.2.2.2.2.2.1.2.1,.vB x.2.2.2.2.2.1.2.2.1,.vS x.2.2.2.2.2.1.2.2.2.1,.vB x.2.2.2.2.2.1.2.2.2.2.1,.own 5,.vB x.2.2.2.2.2.1.2.2.2.2.2.2.1,.vS x.2.2.2.2.2.1.2.2.2.2.2.2.2.1,.vB x.2.2.2.2.2.1.2.2.2.2.2.2.2.2.1,.vB x.2.2.2.2.2.1.2.2.2.2.2.2.2.2.2.1,.vI x.2.2.2.2.2.1.2.2.2.2.2.2.2.2.2.2.1,.vB x.2.2.2.2.2.1.2.2.2.2.2.2.2.2.2.2.2.1,.vI x.2.2.2.2.2.1.2.2.2.2.2.2.2.2.2.2.2.2.1,.vB x.2.2.2.2.2.1.2.2.2.2.2.2.2.2.2.2.2.2.2.1,.vI x.2.2.2.2.2.1.2.2.2.2.2.2.2.2.2.2.2.2.2.2.1],.part 6 (0) x.2.2.2.2.2.2.1 6,.part 7 (0) x.2.2.2.2.2.2.2.1 1,.row .node 39 x.2.2.2.2.2.2.2.2.1,.row .str 9 r]⟩
def zbb_d2:=(dQS (qAa (dSO 1 dZ) (qAa (dSO 3 dZ) (qAa (dSO 6 (dH 2 0)) (qAa (dSO 9 (dH 3 0)) (qAa (dSO 16 dZ) dNil))))) (qAa (qAt .node) (qAa (qAt .str) (qAa (qAy 34 zDHX2) (qAa (qAy 32 (qAa (dO 4) (qAa dS (qAa dB (qAa dS (qAa dB (qAa (dO 5) zDHX3))))))) (qAa (dPart0 6 6) (qAa (dPart0 7 1) zDHX5)))))))
def zbb_l2:SubQ:=mkL zbb_d2 (fun x=>zbb_p2 x.1.2.2.2.2.1 x.2.2.2.2.2.1 x.2.2.2.2.2.2.2.1) fun x r R kn kx kr=>kx 4 ⟨[sL 1 (.vI x.1.1),sL 3 (.vI x.1.2.1),sL 6 (.hd 2 0),sL 9 (.hd 3 0)],[],[.view .node x.2.1,.view .str x.2.2.1,.cells 34 [.vS x.2.2.2.1.1,.vS x.2.2.2.1.2.1,.vB x.2.2.2.1.2.2.1,.vS x.2.2.2.1.2.2.2.1,.vB x.2.2.2.1.2.2.2.2.1,.vS x.2.2.2.1.2.2.2.2.2.1,.vB x.2.2.2.1.2.2.2.2.2.2.1,.vI x.2.2.2.1.2.2.2.2.2.2.2.1,.vB x.2.2.2.1.2.2.2.2.2.2.2.2.1,.vI x.2.2.2.1.2.2.2.2.2.2.2.2.2.1],.cells 32 [.own 4,.vS x.2.2.2.2.1.2.1,.vB x.2.2.2.2.1.2.2.1,.vS x.2.2.2.2.1.2.2.2.1,.vB x.2.2.2.2.1.2.2.2.2.1,.own 5,.vB x.2.2.2.2.1.2.2.2.2.2.2.1,.vS x.2.2.2.2.1.2.2.2.2.2.2.2.1,.vB x.2.2.2.2.1.2.2.2.2.2.2.2.2.1,.vB x.2.2.2.2.1.2.2.2.2.2.2.2.2.2.1,.vI x.2.2.2.2.1.2.2.2.2.2.2.2.2.2.2.1,.vB x.2.2.2.2.1.2.2.2.2.2.2.2.2.2.2.2.1,.vI x.2.2.2.2.1.2.2.2.2.2.2.2.2.2.2.2.2.1,.vB x.2.2.2.2.1.2.2.2.2.2.2.2.2.2.2.2.2.2.1,.vI x.2.2.2.2.1.2.2.2.2.2.2.2.2.2.2.2.2.2.2.1],.part 6 (0) x.2.2.2.2.2.1 6,.part 7 (0) x.2.2.2.2.2.2.1 1,.row .node 39 r,.row .str 9 x.2.2.2.2.2.2.2.2.1]⟩
def zbb_L:Nat→SubQ:=tblL [(0,zbb_l0),(1,zbb_l1),(2,zbb_l2)]
theorem zbb_sub0:qA2 zbb_L zbb_G 2 17 175 0 zbb_b0:=qAm (show zbb_L 0=zbb_l0 from by kernel_rfl) fun x R kn kx kr=>qAf (step:=fun y=>qFg y.1 x.2.2.2.2.2.2.2.1 y.2) (enc:=fun (y:Int × (List BA))=>zbb_d0.e ((x.1.1,x.1.2.1,x.1.2.2.1,x.1.2.2.2.1,x.1.2.2.2.2.1,y.1,x.1.2.2.2.2.2.2),(x.2.1,x.2.2.1,x.2.2.2.1,x.2.2.2.2.1,x.2.2.2.2.2.1,x.2.2.2.2.2.2.1,x.2.2.2.2.2.2.2.1,x.2.2.2.2.2.2.2.2.1,y.2,x.2.2.2.2.2.2.2.2.2.2))) (fun y=>by kernel_rfl) (fun y ki=>by simp only [qFg,-eq_self,sZ]; kernel_rfl) (x.1.2.2.2.2.2.1,x.2.2.2.2.2.2.2.2.2.1)
theorem zbb_sub1:qA2 zbb_L zbb_G 2 17 175 1 zbb_b1:=qAm (show zbb_L 1=zbb_l1 from by kernel_rfl) fun x R kn kx kr=>qAf (step:=fun y=>qFh y.1 x.2.2.1 x.2.2.2.2.2.2.2.1 y.2) (enc:=fun (y:Int × (List BA))=>zbb_d1.e ((x.1.1,x.1.2.1,x.1.2.2.1,x.1.2.2.2.1,x.1.2.2.2.2.1,y.1,x.1.2.2.2.2.2.2),(x.2.1,x.2.2.1,x.2.2.2.1,x.2.2.2.2.1,x.2.2.2.2.2.1,x.2.2.2.2.2.2.1,x.2.2.2.2.2.2.2.1,x.2.2.2.2.2.2.2.2.1,y.2,x.2.2.2.2.2.2.2.2.2.2))) (fun y=>by kernel_rfl) (fun y ki=>by simp only [qFh,-eq_self,sZ]; kernel_rfl) (x.1.2.2.2.2.2.1,x.2.2.2.2.2.2.2.2.2.1)
theorem zbb_sub2:qA2 zbb_L zbb_G 2 17 175 2 zbb_b2:=qAm (show zbb_L 2=zbb_l2 from by kernel_rfl) fun x R kn kx kr=>qAf (step:=fun y=>qDw y.1 x.2.2.2.2.2.1 y.2) (enc:=fun (y:Int × (List Eng.Node))=>zbb_d2.e ((x.1.1,x.1.2.1,x.1.2.2.1,x.1.2.2.2.1,y.1,x.1.2.2.2.2.2),(x.2.1,x.2.2.1,x.2.2.2.1,x.2.2.2.2.1,x.2.2.2.2.2.1,x.2.2.2.2.2.2.1,y.2,x.2.2.2.2.2.2.2.2))) (fun y=>by kernel_rfl) (fun y ki=>by simp only [qDw,-eq_self,sZ]; kernel_rfl) (x.1.2.2.2.2.1,x.2.2.2.2.2.2.2.1)
def zbb_c:CS:=mkC (qAa (dVC (dCA zDHX1)) (qAa (dVC (dCO dZ)) zDHX4)) (qAa (qAt .node) (qAa (qAt .str) dNil)) (fun x y=>zbb_s (⟨y.1,x.1.2.1,x.1.2.2.1,x.1.2.2.2.1,x.1.2.2.2.2.1,y.2.1,x.1.2.2.2.2.2.2.1,x.1.2.2.2.2.2.2.2.1,x.1.2.2.2.2.2.2.2.2.1,(⟨x.1.2.2.2.2.2.2.2.2.2.1,x.1.2.2.2.2.2.2.2.2.2.2.1⟩:qGu),(⟨x.1.2.2.2.2.2.2.2.2.2.2.2.1,x.1.2.2.2.2.2.2.2.2.2.2.2.2.1⟩:qGu),(⟨x.1.2.2.2.2.2.2.2.2.2.2.2.2.2.1,x.1.2.2.2.2.2.2.2.2.2.2.2.2.2.2.1⟩:qGu)⟩:qGw) x.2.1 (⟨x.2.2.1.1,x.2.2.1.2.1,x.2.2.1.2.2.1,x.2.2.1.2.2.2.1,x.2.2.1.2.2.2.2.1,x.2.2.1.2.2.2.2.2.1,x.2.2.1.2.2.2.2.2.2.1,x.2.2.1.2.2.2.2.2.2.2.1,x.2.2.1.2.2.2.2.2.2.2.2.1,x.2.2.1.2.2.2.2.2.2.2.2.2.1⟩:qGy) x.2.2.2.1) (fun x y r=>.c (.o (.vB r))) fun x y r=>[.view .node y.1,.view .str y.2.1]
theorem zbb_val:qAl Tryd.prog 4 zbb_c:=vl1 zbb_q [.tmp 8] 175 17 2 (raws:=[35,41]) (show qA8 zbb_L zbb_G 2 17 175 [(0,zbb_b0),(1,zbb_b1),(2,zbb_b2)] from ⟨zbb_sub0,zbb_sub1,zbb_sub2,tV⟩) (qAs ⟨zbw_ok,zbe_ok,zac_ok,zbc_ok,zbd_ok,zbz_ok,zbj_ok,tV⟩) fun x y=>by
 simp only [zbb_s,-eq_self,sZ];kernel_rfl
end
end Go.Proofs.YtobmafbliahplaaDoor
