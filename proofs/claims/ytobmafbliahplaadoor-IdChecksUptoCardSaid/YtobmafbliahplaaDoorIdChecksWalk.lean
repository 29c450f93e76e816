/-
  Texts of a claim.
-/
import Derived.Below
import Derived.Carry
import Derived.ProofKit
import Derived.Deep.Slices
import Derived.Deep.Fields
import Derived.ChangeSame
import Derived.SliceStrings
import Derived.SizedLaws
import Derived.Lib.LaidU8
import Derived.Lib.LaidTab
import Derived.Test.YtobmafbliahplaaDoorDecKey
import Derived.Test.YtobmafbliahplaaDoorHX
import Derived.Test.YtobmafbliahplaaDoorEngN
import Derived.Test.YtobmafbliahplaaDoorRows
import Derived.Test.YtobmafbliahplaaDoorEngO
import Derived.Test.YtobmafbliahplaaDoorProg
set_option linter.unusedSimpArgs false
set_option linter.unusedVariables false
namespace Go.Proofs.YtobmafbliahplaaDoor
open Go.Eng
theorem Trees.map {v v':List Eng.Node} (hl:v'.length=v.length) (hm:∀(a:Nat) (n:Eng.Node),v[a]?=some n→∃n':Eng.Node,v'[a]?=some n'∧n'.kids=n.kids) {k a e:Nat} (h:Trees v k a e):Trees v' k a e:=by
 induction h with
 | nil a ha=>exact .nil a (by omega)
 | cons n hn h0 h1 h2 i1 i2 =>
  obtain ⟨n',g1,g2⟩:=hm _ n hn;exact .cons n' g1 (by omega) (by rw [g2]; exact i1) i2
theorem mem_any (v:List Eng.Node) (hv:v.length≤2000000):∃m,Mem v m :=
 ⟨fun n=>(zar_s v 0 n).getD 0,fun n=>by
  obtain ⟨r,h,_⟩:=j_member_lt v hv 0 n;rw [h];rfl,fun n=>by
  obtain ⟨r,h,hl⟩:=j_member_lt v hv 0 n;show (zar_s v 0 n).getD 0<_;rw [h];exact hl⟩
theorem mem_ref {v:List Eng.Node} {m:BA→Int} (hm:Mem v m) (hv:v.length≤2000000) (ht:Tree v 0 v.length) (n:BA):zby_s v 0 n=some (m n):=by
 obtain ⟨r,h1,h2,_⟩:=member_tree hv ht n;rw [show ((0:Nat):Int)=0 from rfl] at h1 h2;rw [hm.is n] at h1;cases h1;exact h2
section
variable {c:qGw} {m:BA→Int} (hm:Mem c.value m) (hr:∀n,zby_s c.value 0 n=some (m n))
include hm hr
theorem q_said (name text:BA):zbp_s c.value name text=some (sdB c.value m name text):=by
 have h:=hm.lt name;unfold zbp_s sdB;rw [hr,obS];by_cases h0:0≤m name
 ·rw [deT h0]
  repeat refine (qAb (fun _=>by omega) _).trans ?_
  rfl
 ·rw [deF h0]
  repeat refine (qAb (fun h=>by cases h) _).trans ?_
  rfl
omit hm hr in
theorem q_azp_loop (l:List BA) (hl:l.length≤3000000) (w:BA):∀(j i:Nat),i+j=l.length →
  (zbl_p0 (i:Int) l w=some (.inl true)∧(l.drop i).any (fun s=>!decide (s=w))=true)∨(zbl_p0 (i:Int) l w=some (.inr ())∧(l.drop i).any (fun s=>!decide (s=w))=false)
 | 0,i,h=>by
  refine .inr ⟨?_,by rw [List.drop_eq_nil_of_le (by omega)]; rfl⟩;unfold zbl_p0;refine qAe ?_;unfold qCz;rw [deF (by omega),cnF]
 | j+1,i,h=>by
  have hi:i<l.length:=by omega
  have hd:l.drop i=l[i]::l.drop (i+1):=List.drop_eq_getElem_cons hi;rw [hd,List.any_cons];by_cases he:l[i]=w
  ·have hst:qCz (i:Int) l w=some (.inl ((i+1:Nat):Int)):=by
    unfold qCz;rw [deT (by omega),cnT,qAb (by omega),qAb (by omega),Int.toNat_natCast,getD_str hi,deT he,Bool.not_true,cnF];exact qAb (by unfold qAc; omega) _
   have ih:=q_azp_loop l hl w j (i+1) (by omega);rw [deT he,Bool.not_true,Bool.false_or];unfold zbl_p0 at ih ⊢;rw [qAh hst];exact ih
  ·refine .inl ⟨?_,by rw [deF he]; rfl⟩;unfold zbl_p0;refine qAe ?_;unfold qCz;rw [deT (by omega),cnT,qAb (by omega),qAb (by omega),Int.toNat_natCast,getD_str hi,deF he,Bool.not_false,cnT]
theorem q_azp (hl:c.aud.length≤3000000) (w:qGy):zbl_s c w=some (azpB m c w):=by
 unfold zbl_s azpB;rw [show (⟨#[97,122,112]⟩:BA)=kAzp from rfl,hr,obS,q_said hm hr];cases decide (0≤m kAzp) with
 | true=>rfl
 | false =>
  have h:=q_azp_loop c.aud hl w.client c.aud.length 0 (by omega);rw [List.drop_zero,show ((0:Nat):Int)=0 from rfl] at h;rw [cnF,cnF];rcases h with ⟨h1,h2⟩ | ⟨h1,h2⟩
  ·rw [h1,h2]; rfl
  ·rw [h1,h2]; rfl
theorem q_hashes (a:Int) (w:qGy) (h1:w.access.size≤100000000) (h2:w.code.size≤100000000):zbn_s c a w=some (hashB m c a w):=by
 unfold zbn_s hashB;rw [show (⟨#[97,116,95,104,97,115,104]⟩:BA)=kAt from rfl,show (⟨#[99,95,104,97,115,104]⟩:BA)=kC from rfl];rw [q_Half a w.access (by omega),q_Half a w.code (by omega)];simp only [obS];rw [q_said hm hr,q_said hm hr];simp only [obS];cases w.hasAccess <;> cases w.hasCode <;> cases sdB c.value m kAt (halfT a w.access) <;> cases sdB c.value m kC (halfT a w.code) <;> rfl
omit hm hr in
theorem and32 (x:Int):qAg .i64 x 4294967295=x % 4294967296:=by
 have h2:(BitVec.ofInt 64 4294967295).toNat=2 ^ 32 - 1:=by decide
 unfold qAg;show IntKind.i64.wrap ((BitVec.ofInt 64 x &&& BitVec.ofInt 64 4294967295).toNat:Int)=_;rw [BitVec.toNat_and,h2,Nat.and_two_pow_sub_one_eq_mod,BitVec.toNat_ofInt];have h3:(((x % (2 ^ 64:Nat)).toNat % 2 ^ 32:Nat):Int)=x % 4294967296:=by
  have:(2 ^ 64:Nat)=18446744073709551616:=by decide
  rw [this];omega
 rw [h3];exact w64_id (by unfold qAc; omega)
theorem q_old (hi:∀n∈c.value,qAc n.int) (w:qGy) {now:Int} (hn:qAc now) (hA:w.hasAge=true) (hp:qGc w=false):zbo_s c w now=some (ageB m c w now):=by
 have h:=hm.lt qGk;unfold zbo_s ageB;rw [show (⟨#[97,117,116,104,95,116,105,109,101]⟩:BA)=qGk from rfl,hr,obS,hA,Bool.true_and];unfold qGc at hp;rw [hA] at hp;simp only [Bool.true_and,Bool.or_eq_false_iff,decide_eq_false_iff_not] at hp;by_cases h0:m qGk<0
 ·rw [deT h0]
  repeat refine (qAb (fun h=>by cases h) _).trans ?_
  rfl
 ·rw [deF h0]
  repeat refine (qAb (fun _=>by omega) _).trans ?_
  rw [Bool.false_or];cases hc:(!decide ((c.value.getD (m qGk).toNat (ET.dft .node)).kind=4) || !(c.value.getD (m qGk).toNat (ET.dft .node)).whole) with
  | true=>rfl
  | false =>
   have hlt:(m qGk).toNat<c.value.length:=by omega
   have hin:qAc (c.value.getD (m qGk).toNat (ET.dft .node)).int:=by
    rw [List.getD_eq_getElem?_getD,List.getElem?_eq_getElem hlt];exact hi _ (List.getElem_mem hlt)
   generalize (c.value.getD (m qGk).toNat (ET.dft .node)).int=x at hin ⊢
   unfold qAc at hin hn;rw [cnF,qAb (by omega),qAb (by omega),qAb (by omega)];simp only [and32]
   iterate 7 refine (qAb (by first | decide | (unfold qAc; omega) | omega | exact fun _=>by decide) _).trans ?_
   rw [Bool.false_or];congr 1
   apply Bool.eq_iff_iff.2;rw [Bool.or_eq_true,Bool.and_eq_true,decide_eq_true_eq,decide_eq_true_eq,decide_eq_true_eq,decide_eq_true_eq];omega
omit hm hr in
theorem q_in_loop (l:List BA) (hl:l.length≤3000000) (w:BA):∀(j i:Nat) (b:Bool),i+j=l.length→zbj_p0 b (i:Int) l w=some (b || inB (l.drop i) w)
 | 0,i,b,h=>by
  unfold zbj_p0;refine qAe ?_;unfold qDy;dsimp only;rw [deF (by omega),cnF,List.drop_eq_nil_of_le (by omega)];show (some (Sum.inr b):Option ((Bool × Int) ⊕ Bool))=some (Sum.inr (b || false))
  rw [Bool.or_false]
 | j+1,i,b,h=>by
  have hi:i<l.length:=by omega
  have hd:l.drop i=l[i]::l.drop (i+1):=List.drop_eq_getElem_cons hi;have hst:qDy b (i:Int) l w=some (.inl (b || decide (l[i]=w),((i+1:Nat):Int))):=by
   unfold qDy;rw [deT (by omega),cnT,qAb (fun _=>by omega),qAb (fun _=>by omega),Int.toNat_natCast,getD_str hi];exact qAb (by unfold qAc; omega) _
  have ih:=q_in_loop l hl w j (i+1) (b || decide (l[i]=w)) (by omega)
  unfold zbj_p0 at ih ⊢;rw [qAh hst,ih,hd,Bool.or_assoc];rfl
theorem q_check (a:Int) (w:qGy) {now:Int} (hi:∀n∈c.value,qAc n.int) (hl:c.aud.length≤3000000) (hn:qAc now) (h1:w.access.size≤100000000) (h2:w.code.size≤100000000):zbj_s c a w now=some (chkV m c a w now):=by
 have hin:=q_in_loop c.aud hl w.client c.aud.length 0 false (by omega);rw [List.drop_zero,Bool.false_or,show ((0:Nat):Int)=0 from rfl] at hin;have hmiss:(((((!c.hasIss) || (!c.hasSub)) || (!c.hasAud)) || (!c.exp_.has)) || (!c.iat.has))=missB c:=by
  unfold missB;cases c.hasIss <;> cases c.hasSub <;> cases c.hasAud <;> cases c.exp_.has <;> cases c.iat.has <;> rfl
 unfold zbj_s chkV;rw [hmiss,q_hash,hin,q_azp hm hr hl w,q_hashes hm hr a w h1 h2,show (⟨#[110,111,110,99,101]⟩:BA)=kNonce from rfl,q_said hm hr];show (bif qGc w then _ else _)=_;cases hp:qGc w with
 | true=>rfl
 | false =>
  have ho:=fun hA=>q_old hm hr hi w hn hA hp
  rw [cnF,cnF];simp only [obS];unfold nonceB;cases decide (hsh a=0) with
  | true=>rfl
  | false =>
  cases missB c with
  | true=>rfl
  | false =>
  cases inB c.aud w.client with
  | false=>rfl
  | true =>
  cases azpB m c w with
  | true=>rfl
  | false =>
  have hage:ageB m c w now=(w.hasAge && ageB m c w now):=by
   unfold ageB;cases w.hasAge <;> rfl
  cases hA:w.hasAge with
  | true =>
   rw [ho hA];cases w.hasNonce <;> cases sdB c.value m kNonce w.nonce <;> cases hashB m c a w <;> cases ageB m c w now <;> rfl
  | false =>
   rw [hage,hA];cases w.hasNonce <;> cases sdB c.value m kNonce w.nonce <;> cases hashB m c a w <;> rfl
end
theorem texts_loop (l:List BA) (hl:l.length≤4000000):∀(j i:Nat),i+j=l.length→zbd_p0 (i:Int) l l=some (.inr ())
 | 0,i,h=>by
  unfold zbd_p0;refine qAe ?_;unfold qFj;rw [deF (by omega),cnF]
 | j+1,i,h=>by
  have ih:=texts_loop l hl j (i+1) (by omega);unfold zbd_p0 at ih ⊢;rw [qAh (y:=((i+1:Nat):Int)) ?_,ih];unfold qFj;rw [deT (by omega),cnT,qAb (by omega),qAb (by omega),qAb (by omega),qAb (by omega)];simp only [decide_true,Bool.not_true,cnF];exact qAb (by unfold qAc; omega) _
theorem texts_self (l:List BA) (hl:l.length≤4000000):zbd_s l l=some true:=by
 have:=texts_loop l hl l.length 0 (by omega);rw [show ((0:Nat):Int)=0 from rfl] at this;unfold zbd_s;rw [deT rfl,Bool.not_true,cnF,this];rfl
theorem nodes_loop (v:List Eng.Node) (hv:v.length≤3000000):∀(j i:Nat),i+j=v.length→zbc_p0 (i:Int) v v=some (.inr ())
 | 0,i,h=>by
  unfold zbc_p0;refine qAe ?_;unfold qFi;rw [deF (by omega),cnF]
 | j+1,i,h=>by
  have ih:=nodes_loop v hv j (i+1) (by omega);unfold zbc_p0 at ih ⊢;rw [qAh (y:=((i+1:Nat):Int)) ?_,ih];unfold qFi;rw [deT (by omega),cnT,qAb (by omega),qAb (by omega),qAb (by omega),qAb (by omega)];simp only [decide_true,beq_self_eq_true,Bool.and_self,Bool.not_true,cnF];exact qAb (by unfold qAc; omega) _
theorem nodes_self (v:List Eng.Node) (hv:v.length≤3000000):zbc_s v v=some true:=by
 have:=nodes_loop v hv v.length 0 (by omega);rw [show ((0:Nat):Int)=0 from rfl] at this;unfold zbc_s;rw [deT rfl,Bool.not_true,cnF,this];rfl
theorem x_size:(⟨#[120]⟩:BA).size=1:=rfl
theorem aud_loop (n:Nat) (hn:n≤2000000):∀(j i:Nat) (h:List BA),i+j=n→n≤h.length→(∀k,i≤k→(h.getD k (ET.dft .str)).size≤3000000) →
  ∃r,zbb_p0 (i:Int) n h=some r∧r.length=h.length
 | 0,i,h,hi,hl,hs=>by
  refine ⟨h,?_,rfl⟩;unfold zbb_p0;refine qAe ?_;unfold qFg;dsimp only;rw [deF (by omega),cnF]
 | j+1,i,h,hi,hl,hs=>by
  obtain ⟨x,hx⟩:∃x,x=h.getD i (ET.dft .str)++(⟨#[120]⟩:BA):=⟨_,rfl⟩;have hsi:=hs i (Nat.le_refl _);obtain ⟨r,h1,h2⟩:=aud_loop n hn j (i+1) (h.set i x) (by omega) (by rw [List.length_set]; exact hl) (fun k hk=>by
   rw [List.getD,List.getElem?_set_ne (by omega)];exact hs k (by omega))
  refine ⟨r,?_,by rw [h2,List.length_set]⟩;unfold zbb_p0 at h1 ⊢;rw [qAh (y:=(((i+1:Nat):Int),h.set i x)) ?_]
  ·exact h1
  ·unfold qFg;dsimp only;simp only [Int.toNat_natCast,Nat.zero_add];rw [deT (by omega),cnT,qAb (by omega),qAb (by omega),qAb (by rw [x_size]; omega),qAb (by omega),qAb (by omega),qAb (by unfold qAc; omega),←hx];rfl
theorem back_loop (c:List BA) (hn:c.length≤2000000):∀(j i:Nat) (h:List BA),i+j=c.length→c.length≤h.length→∃r,zbb_p1 (i:Int) c c.length h=some r∧r.length=h.length
 | 0,i,h,hi,hl=>by
  refine ⟨h,?_,rfl⟩;unfold zbb_p1;refine qAe ?_;unfold qFh;dsimp only;rw [deF (by omega),cnF]
 | j+1,i,h,hi,hl=>by
  obtain ⟨r,h1,h2⟩:=back_loop c hn j (i+1) (h.set i (c.getD i (ET.dft .str))) (by omega) (by rw [List.length_set]; exact hl);refine ⟨r,?_,by rw [h2,List.length_set]⟩;unfold zbb_p1 at h1 ⊢;rw [qAh (y:=(((i+1:Nat):Int),h.set i (c.getD i (ET.dft .str)))) ?_]
  ·exact h1
  ·unfold qFh;dsimp only;simp only [Int.toNat_natCast,Nat.zero_add];rw [deT (by omega),cnT,qAb (by omega),qAb (by omega),qAb (by omega),qAb (by omega),qAb (by unfold qAc; omega)];rfl
def Alike (v v':List Eng.Node):Prop:=v'.length=v.length∧∀(a:Nat) (n:Eng.Node),v[a]?=some n→∃n':Eng.Node,v'[a]?=some n'∧n'.kids=n.kids∧n'.int=n.int
theorem Alike.refl (v:List Eng.Node):Alike v v:=⟨rfl,fun a n h=>⟨n,h,rfl,rfl⟩⟩
theorem Alike.trans {u v w:List Eng.Node} (h:Alike u v) (g:Alike v w):Alike u w:=⟨g.1.trans h.1,fun a n ha=>by
 obtain ⟨n',h1,h2,h3⟩:=h.2 a n ha;obtain ⟨n'',g1,g2,g3⟩:=g.2 a n' h1;exact ⟨n'',g1,g2.trans h2,g3.trans h3⟩⟩
theorem Alike.set {v:List Eng.Node} {i:Nat} {x:Eng.Node} (hx:x.kids=(v.getD i (ET.dft .node)).kids∧x.int=(v.getD i (ET.dft .node)).int):Alike v (v.set i x):=⟨List.length_set,fun a n ha=>by
 by_cases hq:i=a
 ·subst hq;have hlt:i<v.length:=(List.getElem?_eq_some_iff.1 ha).1;refine ⟨x,by rw [List.getElem?_set_self hlt],?_,?_⟩
  ·rw [hx.1,List.getD_eq_getElem?_getD,ha]; rfl
  ·rw [hx.2,List.getD_eq_getElem?_getD,ha]; rfl
 ·exact ⟨n,by rw [List.getElem?_set_ne hq]; exact ha,rfl,rfl⟩⟩
theorem value_loop (n:Nat) (hn:n≤2000000):∀(j i:Nat) (h:List Eng.Node),i+j=n→n≤h.length→(∀k,i≤k→(h.getD k (ET.dft .node)).text.size≤3000000) →
  ∃r,zbb_p2 (i:Int) n h=some r∧Alike h r
 | 0,i,h,hi,hl,hs=>by
  refine ⟨h,?_,.refl h⟩;unfold zbb_p2;refine qAe ?_;unfold qDw;dsimp only;rw [deF (by omega),cnF]
 | j+1,i,h,hi,hl,hs=>by
  have hsi:=hs i (Nat.le_refl _);by_cases hk:(h.getD i (ET.dft .node)).kind=5
  ·obtain ⟨x,hx⟩:∃x:Eng.Node,x=⟨(h.getD i (ET.dft .node)).kind,(h.getD i (ET.dft .node)).key,(h.getD i (ET.dft .node)).text++(⟨#[120]⟩:BA),(h.getD i (ET.dft .node)).whole,(h.getD i (ET.dft .node)).int,(h.getD i (ET.dft .node)).kids⟩:=⟨_,rfl⟩;have hal:Alike h (h.set i x):=Alike.set (by rw [hx]; exact ⟨rfl,rfl⟩);obtain ⟨r,h1,h2⟩:=value_loop n hn j (i+1) (h.set i x) (by omega) (by rw [List.length_set]; exact hl) (fun k hk=>by
    rw [List.getD,List.getElem?_set_ne (by omega)];exact hs k (by omega))
   refine ⟨r,?_,hal.trans h2⟩;unfold zbb_p2 at h1 ⊢;rw [qAh (y:=(((i+1:Nat):Int),h.set i x)) ?_]
   ·exact h1
   ·unfold qDw;dsimp only;simp only [Int.toNat_natCast,Nat.zero_add];rw [deT (by omega),cnT,qAb (by omega),qAb (by omega),qAb (by omega),deT hk,cnT,qAb (by omega),qAb (by omega),qAb (by omega),qAb (by rw [x_size]; omega),qAb (by omega),qAb (by omega),qAb (by omega),qAb (by unfold qAc; omega),←hx];rfl
  ·obtain ⟨r,h1,h2⟩:=value_loop n hn j (i+1) h (by omega) hl (fun k hk=>hs k (by omega));refine ⟨r,?_,h2⟩;unfold zbb_p2 at h1 ⊢;rw [qAh (y:=(((i+1:Nat):Int),h)) ?_]
   ·exact h1
   ·unfold qDw;dsimp only;simp only [Int.toNat_natCast,Nat.zero_add];rw [deT (by omega),cnT,qAb (by omega),qAb (by omega),qAb (by omega),deF hk,cnF,qAb (by unfold qAc; omega)];rfl
def mkN:Eng.Node:=⟨(0:Int),(⟨#[]⟩:BA),(⟨#[109,97,114,107]⟩:BA),false,(0:Int),(0:Int)⟩
def mkS:BA:=⟨#[109,97,114,107]⟩
theorem mkN_self:(decide (mkN.kind=(0:Int)) && (decide (mkN.key=(⟨#[]⟩:BA)) && (decide (mkN.text=(⟨#[109,97,114,107]⟩:BA)) && ((mkN.whole == false) && (decide (mkN.int=(0:Int)) && (decide (mkN.kids=(0:Int)) && true))))))=true:=by decide
theorem idChecks_plain {c:qGw} {a now:Int} {w:qGy} (hv:c.value.length≤1048576∧∀n∈c.value,n.key.size≤1048576∧n.text.size≤1048576∧qAc n.kids) (hi:∀n∈c.value,qAc n.int) (hl:c.aud.length≤1048576) (has:∀s∈c.aud,s.size≤1048576) (hn:qAc now) (h1:w.access.size≤1048576) (h2:w.code.size≤1048576):zbb_s c a w now=some true:=by
 have ok:OkL c.value:=⟨by have:=hv.1; omega,fun n hn=>by obtain ⟨h1,h2,h3⟩:=hv.2 n hn; exact ⟨by omega,by omega,h3⟩⟩;have hvl:=hv.1;have hvl2:c.value.length≤2000000:=by omega
 have l1:(c.value++[mkN]).length=c.value.length+1:=by rw [List.length_append]; rfl
 have l2:(c.aud++[mkS]).length=c.aud.length+1:=by rw [List.length_append]; rfl
 have e1:((c.value++[mkN]).drop 0).take c.value.length=c.value:=by simp
 have e2:((c.aud++[mkS]).drop 0).take c.aud.length=c.aud:=by simp
 have g1:(c.value++[mkN]).getD c.value.length (ET.dft .node)=mkN:=by
  rw [List.getD,List.getElem?_append_right (Nat.le_refl _),Nat.sub_self];rfl
 have g2:(c.aud++[mkS]).getD c.aud.length (ET.dft .str)=mkS:=by
  rw [List.getD,List.getElem?_append_right (Nat.le_refl _),Nat.sub_self];rfl
 have hmsz:mkS.size=4:=rfl;have hmt:mkN.text.size=4:=rfl;have szs:∀k,((c.aud++[mkS]).getD k (ET.dft .str)).size≤3000000:=fun k=>by
  rw [List.getD];cases h:(c.aud++[mkS])[k]? with
  | none=>exact Nat.zero_le _
  | some x =>
   have hx:=List.mem_of_getElem? h;show x.size≤_;rcases List.mem_append.1 hx with hx | hx
   ·have:=has x hx; omega
   ·simp only [List.mem_cons,List.not_mem_nil,or_false] at hx;subst hx;omega
 have szv:∀k,((c.value++[mkN]).getD k (ET.dft .node)).text.size≤3000000:=fun k=>by
  rw [List.getD];cases h:(c.value++[mkN])[k]? with
  | none=>exact Nat.zero_le _
  | some x =>
   have hx:=List.mem_of_getElem? h;show x.text.size≤_;rcases List.mem_append.1 hx with hx | hx
   ·have:=(hv.2 x hx).2.1; omega
   ·simp only [List.mem_cons,List.not_mem_nil,or_false] at hx;subst hx;omega
 obtain ⟨b,hb⟩:=beyond_total ok;obtain ⟨m,hm⟩:=mem_any c.value (by omega);have ht:zbe_s c=some c:=by
  unfold zbe_s;rw [qAb (by omega),qAb (by omega)]
 unfold zbb_s;rw [hb,obS];cases b with
 | true=>rfl
 | false =>
  rw [cnF,ht,obS];rw [show (⟨(0:Int),(⟨#[]⟩:BA),(⟨#[109,97,114,107]⟩:BA),false,(0:Int),(0:Int)⟩:Eng.Node)=mkN from rfl];rw [show ([(⟨#[109,97,114,107]⟩:BA)]:List BA)=[mkS] from rfl];simp only [Int.toNat_natCast,l1,l2,e1,e2,g1,g2,Nat.zero_add,List.length_cons,List.length_nil];rw [qAb (by omega),qAb (by omega),qAb (by omega),qAb (by omega),qAb (by omega),qAb (by omega)];rw [show (⟨c.value,c.iss,c.hasIss,c.sub,c.hasSub,c.aud,c.hasAud,c.jti,c.hasJti,c.exp_,c.nbf,c.iat⟩:qGw)=c from rfl,check_v a w now hm hi (by omega) hn,obS,qAb (by omega),nodes_self c.value (by omega),obS,Bool.not_true,cnF,qAb (by omega),texts_self c.aud (by omega),obS,Bool.not_true];rw [mkN_self];rw [show decide (mkS=(⟨#[109,97,114,107]⟩:BA))=true from deT rfl];rw [qAb (fun _=>by omega),qAb (fun _=>by omega),qAb (fun _=>by omega),qAb (fun _=>by omega)];show (bif false then _ else _)=_;rw [cnF];obtain ⟨b2,hb2,hsh⟩:=shaped_some ok;rw [hb2,obS];cases b2 with
  | false=>rfl
  | true =>
   have htr:=hsh rfl;rw [Bool.not_true,cnF,q_check hm (mem_ref hm hvl2 htr) a w hi (by omega) hn (by omega) (by omega),obS,deT rfl,Bool.not_true,cnF];obtain ⟨o,ho,hol⟩:=aud_loop c.aud.length (by omega) c.aud.length 0 (c.aud++[mkS]) (by omega) (by omega) (fun k _=>szs k);rw [show ((0:Nat):Int)=0 from rfl] at ho;rw [ho,obS,qAb (by omega),qAb (by omega)];have hta:((o.drop 0).take c.aud.length).length≤3000000:=by rw [List.length_take]; omega
   rw [q_check (c:=(⟨c.value,c.iss,c.hasIss,c.sub,c.hasSub,(o.drop 0).take c.aud.length,c.hasAud,c.jti,c.hasJti,c.exp_,c.nbf,c.iat⟩:qGw)) hm (mem_ref hm hvl2 htr) a w hi hta hn (by omega) (by omega),obS,qAb (by omega),qAb (by omega),
    check_v (c:=(⟨c.value,c.iss,c.hasIss,c.sub,c.hasSub,(o.drop 0).take c.aud.length,c.hasAud,c.jti,c.hasJti,c.exp_,c.nbf,c.iat⟩:qGw)) a w now hm hi hta hn,obS,deT rfl,Bool.not_true,cnF]
   obtain ⟨o2,ho2,hol2⟩:=back_loop c.aud (by omega) c.aud.length 0 o (by omega) (by omega);obtain ⟨o3,ho3,hal⟩:=value_loop c.value.length (by omega) c.value.length 0 (c.value++[mkN]) (by omega) (by omega) (fun k _=>szv k);rw [show ((0:Nat):Int)=0 from rfl] at ho2 ho3;rw [ho2,obS,ho3,obS];have hol3:=hal.1;have hta2:((o2.drop 0).take c.aud.length).length≤3000000:=by rw [List.length_take]; omega
   have hal2:Alike c.value ((o3.drop 0).take c.value.length):=⟨by rw [List.length_take,List.length_drop]; omega,fun q n hq=>by
    have hlt:q<c.value.length:=(List.getElem?_eq_some_iff.1 hq).1;obtain ⟨n',k1,k2,k3⟩:=hal.2 q n (by rw [List.getElem?_append_left hlt]; exact hq);exact ⟨n',by rw [List.getElem?_take_of_lt hlt,List.drop_zero]; exact k1,k2,k3⟩⟩
   generalize (o3.drop 0).take c.value.length=v3 at hal2 ⊢
   have hv3:=hal2.1;have hv3l:v3.length≤2000000:=by omega
   obtain ⟨m3,hm3⟩:=mem_any v3 (by omega);have ht3:Tree v3 0 v3.length:=by
    rw [hv3];exact Trees.map hv3 (fun q n hq=>by obtain ⟨n',k1,k2,_⟩:=hal2.2 q n hq; exact ⟨n',k1,k2⟩) htr
   have hi3:∀n∈v3,qAc n.int:=fun n hn=>by
    obtain ⟨q,hq⟩:=List.getElem?_of_mem hn;have hlt:q<c.value.length:=by rw [←hv3]; exact (List.getElem?_eq_some_iff.1 hq).1
    obtain ⟨n',k1,_,k3⟩:=hal2.2 q c.value[q] (List.getElem?_eq_getElem hlt);rw [hq] at k1;cases k1;rw [k3];exact hi _ (List.getElem_mem hlt)
   rw [qAb (by omega),qAb (by omega)];rw [q_check (c:=(⟨v3,c.iss,c.hasIss,c.sub,c.hasSub,(o2.drop 0).take c.aud.length,c.hasAud,c.jti,c.hasJti,c.exp_,c.nbf,c.iat⟩:qGw)) hm3 (mem_ref hm3 hv3l ht3) a w hi3 hta2 hn (by omega) (by omega),obS,qAb (by omega),qAb (by omega),
    check_v (c:=(⟨v3,c.iss,c.hasIss,c.sub,c.hasSub,(o2.drop 0).take c.aud.length,c.hasAud,c.jti,c.hasJti,c.exp_,c.nbf,c.iat⟩:qGw)) a w now hm3 hi3 hta2 hn,obS,deT rfl]
end Go.Proofs.YtobmafbliahplaaDoor
namespace Go.Eng
open Go.RowKit
theorem i64_of_wf {a:Int} (h:(Lit.int .i64 a).wf=true) : -9223372036854775808≤a∧a≤9223372036854775807:=by
 simp [Lit.wf,IntKind.min,IntKind.max,IntKind.signed,IntKind.bits] at h;exact h
structure LowB (w w':World):Prop where
 os:w'.os=w.os
 output:w'.output=w.output
 size:w.heap.size≤w'.heap.size
 block:∀k,k<w.heap.size→w'.heap[k]?=w.heap[k]?
theorem lowB_of_stays {w w':World} (h:Stays (fun _=>False) w w'):LowB w w':=⟨h.os,h.output,h.size,fun k hk=>h.block k hk id⟩
theorem LowB.frame {W w':World} (h:LowB W w') (may:MemPlace→Prop):W.keptBut w' may:=by
 refine ⟨h.os,h.output,fun i hi=>?_⟩;rw [h.block i hi];split <;> simp_all
theorem LowB.same {W w':World} (h:LowB W w') {p:MemPlace} (hp:p.block<W.heap.size):W.sameAt w' p:=by
 cases p with
 | cell b o=>exact World.cell?_of_block (w:=W) (h.block b hp)
 | map b=>exact h.block b hp
theorem LowB.trod {H:Type} {enc:TypeId × Value→H} {P:Program} {t:TypeId} (hl:laidOutB P=true) (hr:P.readableRec t=true) (hrow:t<P.types.size) {W W':World} {v:Value} {d:DataW H} {ps:List MemPlace}
  (h:DataW.Trod enc P W 0 (fun _=>true) true t v d ps) (hb:LowB W W') (hlt:∀x∈ps,x.block<W.heap.size) :
  DataW.Trod enc P W' 0 (fun b=>decide (b<W.heap.size)) true t v d ps :=
 WideElems.Trod_stays hl hr hrow h (fun x hx=>hb.same (hlt x hx)) (fun x hx=>by simpa using hlt x hx)
end Go.Eng
namespace Go.Proofs.YtobmafbliahplaaDoor
open Go.RowKit Go.ChangeShapes Go.WideShapes Go.Deep Go.Eng
set_option maxRecDepth 100000
theorem callV {P:Program} {f:Nat} {C:CS} (h:qAl P f C) {args:List SV} {hp hp':List SB} {v:SV} (hc:C args hp (SV × List SB) (fun v hp'=>some (v,hp'))=some (v,hp')) (ha:∀x∈args,x.lt hp.length) (hv:v.shut=true) (w:World) {ρ:Nat→Value} (hs:HpSat noX w w ρ hp) (vs:List Value) (hvs:args.map (SV.den ρ)=vs) :
  Calls P f vs.toArray w fun e w'=>e=.returned (v.den fun _=>undef)∧LowB w w':=by
 have:=h.2 args hp v hp' hc ha noX w ρ hs;rw [hvs] at this;exact this.mono fun e w' ⟨ρ',_,_,a,_,_,b⟩=>⟨by rw [a,SV.shut_den hv ρ' fun _=>undef],lowB_of_stays b⟩
def ViewsOK (w:World):List Value→List SB→Prop
 | [],[]=>True
 | v::vs,.view t l::hp=>qB8 noX w w t v l∧ViewsOK w vs hp
 | _,_=>False
theorem viewsOK_at {w:World}:∀ {vs:List Value} {hp:List SB},ViewsOK w vs hp→∀(i:Nat) (sb:SB),hp[i]?=some sb→∃t l,sb=.view t l∧qB8 noX w w t (vs.getD i undef) l
 | [],[],_,i,sb,h=>by simp at h
 | v::vs,.view t l::hp,h,i,sb,hi=>by
  cases i with
  | zero =>
   simp at hi;exact ⟨t,l,hi.symm,h.1⟩
  | succ i =>
   obtain ⟨t',l',h1,h2⟩:=viewsOK_at h.2 i sb (by simpa using hi);exact ⟨t',l',h1,by simpa using h2⟩
 | [],_::_,h,_,_,_=>h.elim
 | _::_,[],h,_,_,_=>h.elim
 | _::_,.cells ..::_,h,_,_,_=>h.elim
 | _::_,.row ..::_,h,_,_,_=>h.elim
 | _::_,.part ..::_,h,_,_,_=>h.elim
 | _::_,.dead::_,h,_,_,_=>h.elim
theorem views_sat {w:World} {vs:List Value} {hp:List SB} (h:ViewsOK w vs hp) (ht:tabOK noX w):HpSat noX w w (fun i=>vs.getD i undef) hp:=by
 have key:=viewsOK_at h;refine ⟨fun i hi=>?_,fun i sb hi=>?_,fun i sb hi=>?_,fun i j sb sb' b _ hi hj e1 _ _ _=>?_,ht⟩
 ·obtain ⟨t,l,_,a,cap,hv,_⟩:=key i hp[i] (by simp [hi]);show qCf (vs.getD i undef);rw [hv];trivial
 ·obtain ⟨t,l,rfl,hv⟩:=key i sb hi;exact hv
 ·obtain ⟨t,l,rfl,hv⟩:=key i sb hi;trivial
 ·obtain ⟨t,l,rfl,hv⟩:=key i sb hi;cases e1
section
variable {H:Type} {enc:TypeId × Value→H} {W:World} {sp:Nat→Bool} {held:Bool} {r:Reach} {b0:Nat}
theorem bulkAll_mem:∀ {l:List (DataW H)} {d:DataW H},d∈l→Rows.uptoBulk d≤Rows.uptoBulkAll l
 | x::l,d,h=>by
  simp only [Rows.uptoBulkAll];rcases List.mem_cons.1 h with rfl | h
  ·omega
  ·have:=bulkAll_mem h;omega
theorem bulk_pos (d:DataW H):1≤Rows.uptoBulk d:=by
 cases d with
 | lit l=>cases l <;> simp [Rows.uptoBulk]
 | _=>all_goals simp [Rows.uptoBulk]
theorem bulkAll_len:∀(l:List (DataW H)),l.length≤Rows.uptoBulkAll l
 | []=>by simp
 | x::l=>by
  have h1:=bulk_pos x;have h2:=bulkAll_len l;simp only [Rows.uptoBulkAll,List.length_cons];omega
theorem view_mk {t:ET} {a:Addr} {len cap:Nat} {N:Nat→t.T} (hl:len≤cap) (hb:0<len→a.block<W.heap.size)
  (hc:∀i,i<len→∀j u,(t.enc (N i))[j]?=some u→W.cell? (a.add (i*t.sz+j))=some u):qB8 noX W W t (.slice (some a) len cap) ((List.range len).map N):=by
 refine ⟨some a,cap,by simp,by simpa using hl,fun p u hu=>⟨a,rfl,?_⟩⟩;have hlt:p<((List.range len).map N).length*t.sz:=by
  have:=(List.getElem?_eq_some_iff.1 hu).1;rwa [qA3 t.enc_len] at this
 simp only [List.length_map,List.length_range] at hlt;have hsz:=t.sz_pos;have hi:p / t.sz<len:=(Nat.div_lt_iff_lt_mul hsz).2 hlt;have hj:p % t.sz<t.sz:=Nat.mod_lt _ hsz;have he:(t.enc (((List.range len).map N).getD (p / t.sz) t.dft))[p % t.sz]?=some (t.enc (N (p / t.sz)))[p % t.sz]!:=by
  have e1:((List.range len).map N).getD (p / t.sz) t.dft=N (p / t.sz):=by simp [List.getD,hi]
  rw [e1,List.getElem?_eq_getElem (by rw [t.enc_len]; exact hj),List.getElem!_eq_getElem?_getD,List.getElem?_eq_getElem (by rw [t.enc_len]; exact hj)];rfl
 have h1:=qDn t.enc_len t.dft ((List.range len).map N) (p / t.sz) (p % t.sz) _ (by simpa using hi) he;have e2:p / t.sz*t.sz+p % t.sz=p:=Nat.div_add_mod' p t.sz;rw [e2,hu] at h1;have h2:=hc (p / t.sz) hi (p % t.sz) u (by
  have e1:((List.range len).map N).getD (p / t.sz) t.dft=N (p / t.sz):=by simp [List.getD,hi]
  rw [e1] at he;rw [he,←Option.some.inj h1])
 rw [e2] at h2;exact ⟨h2,.inl ⟨hb (Nat.lt_of_le_of_lt (Nat.zero_le _) hi),id⟩⟩
theorem view_nil {t:ET}:qB8 noX W W t (.slice none 0 0) []:=⟨none,0,rfl,Nat.le_refl _,fun j u h=>by simp at h⟩
theorem choose_ltV {α:Type} [Inhabited α] {n:Nat} {P:Nat→α→Prop} (h:∀i,i<n→∃x,P i x):∃f:Nat→α,∀i,i<n→P i (f i):=by
 classical
 refine ⟨fun i=>if hi:i<n then (h i hi).choose else default,fun i hi=>?_⟩;simp only [hi,dif_pos];exact (h i hi).choose_spec
structure NodeB (B:Nat) (n:Eng.Node):Prop where
 kind:qAc n.kind
 key:n.key.size≤B
 text:n.text.size≤B
 int:qAc n.int
 kids:qAc n.kids
instance:Inhabited Eng.Node:=⟨⟨0,.empty,.empty,false,0,0⟩⟩
theorem openV_strs_cells {fuel B:Nat} {c:Value} {y:DataW H × List MemPlace} (h:DataW.trod enc Tryd.prog W 0 sp held fuel 28 [c]=some y) (hz:Rows.uptoBulk y.1≤B) :
  ∃(v:Value) (xs:List BA),[c]=[v]∧qB8 noX W W .str v xs∧(∀s∈xs,s.size≤B)∧xs.length≤B∧xs.length≤9223372036854775807:=by
 have hlt:=DataW.trod_lt _ _ _ _ h;rcases open_slice Tryd.underlying28 h with ⟨hcs,_⟩ | ⟨a,len,cap,m,fu,D,Pl,hcs,_,hl,hm,hmm,rfl,hel⟩
 ·exact ⟨_,[],hcs,view_nil,by simp,by simp,by simp⟩
 ·have hlm:len≤m:=by rw [hmm]; split <;> omega
  rw [show Tryd.prog.cellsOf 9=1 by kernel_rfl] at hel;simp only [Rows.uptoBulk] at hz;have each:∀i,i<len→∃x:BA,x.size≤B∧∀j u,(ET.str.enc x)[j]?=some u→W.cell? (a.add (i*1+j))=some u:=by
   intro i hi;obtain ⟨cs',hcells,htr⟩:=hel i (by omega);obtain ⟨x,e,hd,_⟩:=DataW.trod_string Tryd.underlying9 htr;have hd1:D i=.lit (.string x.data.toList):=congrArg Prod.fst hd;subst e;obtain ⟨_,hcl,hat⟩:=World.cells?_some hcells;refine ⟨x,?_,fun j u hj=>?_⟩
   ·have h1:=bulkAll_mem (H:=H) (l:=(List.range len).map D) (List.mem_map.2 ⟨i,List.mem_range.2 hi,rfl⟩);rw [hd1] at h1;simp only [Rows.uptoBulk,Array.length_toList] at h1;have:x.size=x.data.size:=rfl;omega
   ·have hj1:j<1:=by
     have:=(List.getElem?_eq_some_iff.1 hj).1;simpa [ET.enc] using this
    have:=hat j hj1;rw [Go.Deep.add_add] at this;rw [this];exact hj
  obtain ⟨N,hN⟩:=choose_ltV (α:=BA) each;refine ⟨_,(List.range len).map N,hcs,view_mk (t:=.str) hl (fun h0=>?_) (fun i hi=>(hN i hi).2),fun s hs=>?_,?_,?_⟩
  ·exact hlt (.cell a.block a.off) (by
    simp only [MemPlace.row,List.mem_append,List.mem_map,List.mem_range];exact .inl ⟨0,by rw [show Tryd.prog.cellsOf 9=1 by kernel_rfl]; omega,by simp⟩)
  ·obtain ⟨i,hi,rfl⟩:=List.mem_map.1 hs;exact (hN i (List.mem_range.1 hi)).1
  ·have h1:=bulkAll_len (H:=H) ((List.range len).map D);simp only [List.length_map,List.length_range] at h1 ⊢;omega
  ·unfold maxLen at hm;simp only [List.length_map,List.length_range];omega
theorem openV_node_cells {fuel B:Nat} {l:List Value} {y:DataW H × List MemPlace} (h:DataW.trod enc Tryd.prog W 0 sp held fuel 39 l=some y) (hz:Rows.uptoBulk y.1≤B) :
  ∃x:Eng.Node,l=ET.node.enc x∧NodeB B x:=by
 obtain ⟨xs,n,_,hx,hll,hlen,hg⟩:=DataW.trod_struct Tryd.underlying39 h;rw [show Tryd.prog.cellsOf 39=6 by kernel_rfl] at hll;match l,hll,xs,hlen with
 | [c0,c1,c2,c3,c4,c5],_,[y0,y1,y2,y3,y4,y5],_ =>
  subst hx;have g0:DataW.trod enc Tryd.prog W 0 sp held n 37 [c0]=some y0:=by simpa [show Tryd.prog.cellsOf 37=1 by kernel_rfl] using hg 0 _ rfl
  have g1:DataW.trod enc Tryd.prog W 0 sp held n 9 [c1]=some y1:=by simpa [show Tryd.prog.cellsOf 9=1 by kernel_rfl] using hg 1 _ rfl
  have g2:DataW.trod enc Tryd.prog W 0 sp held n 9 [c2]=some y2:=by simpa [show Tryd.prog.cellsOf 9=1 by kernel_rfl] using hg 2 _ rfl
  have g3:DataW.trod enc Tryd.prog W 0 sp held n 4 [c3]=some y3:=by simpa [show Tryd.prog.cellsOf 4=1 by kernel_rfl] using hg 3 _ rfl
  have g4:DataW.trod enc Tryd.prog W 0 sp held n 2 [c4]=some y4:=by simpa [show Tryd.prog.cellsOf 2=1 by kernel_rfl] using hg 4 _ rfl
  have g5:DataW.trod enc Tryd.prog W 0 sp held n 3 [c5]=some y5:=by simpa [show Tryd.prog.cellsOf 3=1 by kernel_rfl] using hg 5 _ rfl
  obtain ⟨a0,e0,d0,i0⟩:=DataW.trod_int Tryd.underlying37 g0;obtain ⟨a1,e1,d1,i1⟩:=DataW.trod_string Tryd.underlying9 g1;obtain ⟨a2,e2,d2,i2⟩:=DataW.trod_string Tryd.underlying9 g2;obtain ⟨a3,e3,d3⟩:=DataW.trod_bool Tryd.underlying4 g3;obtain ⟨a4,e4,d4,i4⟩:=DataW.trod_int Tryd.underlying2 g4;obtain ⟨a5,e5,d5,i5⟩:=DataW.trod_int Tryd.underlying3 g5;simp only [List.cons.injEq,and_true] at e0 e1 e2 e3 e4 e5;subst e0 e1 e2 e3 e4 e5;subst d0 d1 d2 d3 d4 d5;simp only [List.map_cons,List.map_nil,Rows.uptoBulk,Rows.uptoBulkAll,Array.length_toList] at hz;have q1:a1.size=a1.data.size:=rfl;have q2:a2.size=a2.data.size:=rfl;exact ⟨⟨a0,a1,a2,a3,a4,a5⟩,rfl,Go.Eng.i64_of_wf i0,by show a1.size≤B; omega,by show a2.size≤B; omega,Go.Eng.i64_of_wf i4,Go.Eng.i64_of_wf i5⟩
theorem openV_nodes_cells {fuel B:Nat} {c:Value} {y:DataW H × List MemPlace} (h:DataW.trod enc Tryd.prog W 0 sp held fuel 27 [c]=some y) (hz:Rows.uptoBulk y.1≤B) :
  ∃(v:Value) (xs:List Eng.Node),[c]=[v]∧qB8 noX W W .node v xs∧(∀n∈xs,NodeB B n)∧xs.length≤B:=by
 have hlt:=DataW.trod_lt _ _ _ _ h;rcases open_slice Tryd.underlying27 h with ⟨hcs,_⟩ | ⟨a,len,cap,m,fu,D,Pl,hcs,_,hl,hm,hmm,rfl,hel⟩
 ·exact ⟨_,[],hcs,view_nil,by simp,by simp⟩
 ·have hlm:len≤m:=by rw [hmm]; split <;> omega
  rw [show Tryd.prog.cellsOf 39=6 by kernel_rfl] at hel;simp only [Rows.uptoBulk] at hz;have each:∀i,i<len→∃x:Eng.Node,NodeB B x∧∀j u,(ET.node.enc x)[j]?=some u→W.cell? (a.add (i*6+j))=some u:=by
   intro i hi;obtain ⟨cs',hcells,htr⟩:=hel i (by omega);have h1:=bulkAll_mem (H:=H) (l:=(List.range len).map D) (List.mem_map.2 ⟨i,List.mem_range.2 hi,rfl⟩);obtain ⟨x,rfl,hok⟩:=openV_node_cells (B:=B) htr (by show Rows.uptoBulk (D i)≤B; omega);obtain ⟨_,hcl,hat⟩:=World.cells?_some hcells;refine ⟨x,hok,fun j u hj=>?_⟩;have hj6:j<6:=by
    have:=(List.getElem?_eq_some_iff.1 hj).1;simpa [ET.enc] using this
   have:=hat j hj6;rw [hj,Go.Deep.add_add] at this;exact this
  obtain ⟨N,hN⟩:=choose_ltV (α:=Eng.Node) each;refine ⟨_,(List.range len).map N,hcs,view_mk (t:=.node) hl (fun h0=>?_) (fun i hi=>(hN i hi).2),fun s hs=>?_,?_⟩
  ·exact hlt (.cell a.block a.off) (by
    simp only [MemPlace.row,List.mem_append,List.mem_map,List.mem_range];exact .inl ⟨0,by rw [show Tryd.prog.cellsOf 39=6 by kernel_rfl]; omega,by simp⟩)
  ·obtain ⟨i,hi,rfl⟩:=List.mem_map.1 hs;exact (hN i (List.mem_range.1 hi)).1
  ·have h1:=bulkAll_len (H:=H) ((List.range len).map D);simp only [List.length_map,List.length_range] at h1 ⊢;omega
end
end Go.Proofs.YtobmafbliahplaaDoor
namespace Go.Proofs.YtobmafbliahplaaDoor
open Go.RowKit Go.ChangeShapes Go.WideShapes Go.Deep Go.Eng
set_option maxRecDepth 100000
section
variable {H:Type} {enc:TypeId × Value→H} {W:World} {sp:Nat→Bool} {held:Bool} {r:Reach} {b0:Nat}
theorem bulk_str {B:Nat} {s:BA} (h:Rows.uptoBulk (H:=H) (.lit (.string s.data.toList))≤B):s.size≤B:=by
 simp only [Rows.uptoBulk,Array.length_toList] at h;have:s.size=s.data.size:=rfl;omega
theorem qEn {fuel:Nat} {c0 c1:Value} {y:DataW H × List MemPlace} (h:DataW.trod enc Tryd.prog W 0 sp held fuel 30 [c0,c1]=some y) :
  ∃(b:Bool) (a:Int),[c0,c1]=[.bool b,.int .i64 a]∧(-9223372036854775808≤a∧a≤9223372036854775807):=by
 obtain ⟨xs,n,_,hx,_,hlen,hg⟩:=DataW.trod_struct Tryd.underlying30 h;match xs,hlen with
 | [y0,y1],_ =>
  have g0:DataW.trod enc Tryd.prog W 0 sp held n 4 [c0]=some y0:=by simpa [show Tryd.prog.cellsOf 4=1 by kernel_rfl] using hg 0 _ rfl
  have g1:DataW.trod enc Tryd.prog W 0 sp held n 2 [c1]=some y1:=by simpa [show Tryd.prog.cellsOf 2=1 by kernel_rfl] using hg 1 _ rfl
  obtain ⟨b,e0,_⟩:=DataW.trod_bool Tryd.underlying4 g0;obtain ⟨a,e1,_,i1⟩:=DataW.trod_int Tryd.underlying2 g1;simp only [List.cons.injEq,and_true] at e0 e1;subst e0 e1;exact ⟨b,a,rfl,Go.Eng.i64_of_wf i1⟩
theorem openVS_claims {B:Nat} {v:Value} {d:DataW H} {p:List MemPlace} (hv:Value.okWide Tryd.prog W r b0 32 v) (h:DataW.Trod enc Tryd.prog W 0 sp held 32 v d p) (hz:Rows.uptoBulk d≤B) :
  ∃(valueV:Value) (value:List Eng.Node) (iss:BA) (hasIss:Bool) (sub:BA) (hasSub:Bool) (audV:Value) (aud:List BA) (hasAud:Bool) (jti:BA) (hasJti:Bool) (expH:Bool) (exp:Int) (nbfH:Bool) (nbf:Int) (iatH:Bool) (iat:Int),v=.agg #[valueV,.string iss,.bool hasIss,.string sub,.bool hasSub,audV,.bool hasAud,.string jti,.bool hasJti,.bool expH,.int .i64 exp,.bool nbfH,.int .i64 nbf,.bool iatH,.int .i64 iat] ∧
   (qB8 noX W W .node valueV value∧(∀n∈value,NodeB B n)∧value.length≤B)∧iss.size≤B∧sub.size≤B∧(qB8 noX W W .str audV aud∧(∀s∈aud,s.size≤B)∧aud.length≤B∧aud.length≤9223372036854775807)∧jti.size≤B∧(-9223372036854775808≤exp∧exp≤9223372036854775807)∧(-9223372036854775808≤nbf∧nbf≤9223372036854775807)∧(-9223372036854775808≤iat∧iat≤9223372036854775807):=by
 obtain ⟨cs,rfl,hsz⟩:=okWide_struct Tryd.underlying32 hv;obtain ⟨l⟩:=cs;have hC:Tryd.prog.cellsOf 32=15:=by kernel_rfl
 match l,hsz.trans hC with
 | [c0,c1,c2,c3,c4,c5,c6,c7,c8,c9,c10,c11,c12,c13,c14],_ =>
  obtain ⟨fuel,hf⟩:=h;obtain ⟨xs,n,_,hx,_,hlen,hg⟩:=DataW.trod_struct Tryd.underlying32 hf;match xs,hlen with
  | [y0,y1,y2,y3,y4,y5,y6,y7,y8,y9,y10,y11],_ =>
   simp only [Prod.mk.injEq,List.map_cons,List.map_nil] at hx;obtain ⟨rfl,_⟩:=hx;simp only [Rows.uptoBulk,Rows.uptoBulkAll] at hz;have g0:DataW.trod enc Tryd.prog W 0 sp held n 27 [c0]=some y0:=by simpa [show Tryd.prog.cellsOf 27=1 by kernel_rfl,Value.cells] using hg 0 _ rfl
   have z0:Rows.uptoBulk y0.1≤B:=by omega
   have g1:DataW.trod enc Tryd.prog W 0 sp held n 9 [c1]=some y1:=by simpa [show Tryd.prog.cellsOf 9=1 by kernel_rfl,Value.cells] using hg 1 _ rfl
   have z1:Rows.uptoBulk y1.1≤B:=by omega
   have g2:DataW.trod enc Tryd.prog W 0 sp held n 4 [c2]=some y2:=by simpa [show Tryd.prog.cellsOf 4=1 by kernel_rfl,Value.cells] using hg 2 _ rfl
   have z2:Rows.uptoBulk y2.1≤B:=by omega
   have g3:DataW.trod enc Tryd.prog W 0 sp held n 9 [c3]=some y3:=by simpa [show Tryd.prog.cellsOf 9=1 by kernel_rfl,Value.cells] using hg 3 _ rfl
   have z3:Rows.uptoBulk y3.1≤B:=by omega
   have g4:DataW.trod enc Tryd.prog W 0 sp held n 4 [c4]=some y4:=by simpa [show Tryd.prog.cellsOf 4=1 by kernel_rfl,Value.cells] using hg 4 _ rfl
   have z4:Rows.uptoBulk y4.1≤B:=by omega
   have g5:DataW.trod enc Tryd.prog W 0 sp held n 28 [c5]=some y5:=by simpa [show Tryd.prog.cellsOf 28=1 by kernel_rfl,Value.cells] using hg 5 _ rfl
   have z5:Rows.uptoBulk y5.1≤B:=by omega
   have g6:DataW.trod enc Tryd.prog W 0 sp held n 4 [c6]=some y6:=by simpa [show Tryd.prog.cellsOf 4=1 by kernel_rfl,Value.cells] using hg 6 _ rfl
   have z6:Rows.uptoBulk y6.1≤B:=by omega
   have g7:DataW.trod enc Tryd.prog W 0 sp held n 9 [c7]=some y7:=by simpa [show Tryd.prog.cellsOf 9=1 by kernel_rfl,Value.cells] using hg 7 _ rfl
   have z7:Rows.uptoBulk y7.1≤B:=by omega
   have g8:DataW.trod enc Tryd.prog W 0 sp held n 4 [c8]=some y8:=by simpa [show Tryd.prog.cellsOf 4=1 by kernel_rfl,Value.cells] using hg 8 _ rfl
   have z8:Rows.uptoBulk y8.1≤B:=by omega
   have g9:DataW.trod enc Tryd.prog W 0 sp held n 30 [c9,c10]=some y9:=by simpa [show Tryd.prog.cellsOf 30=2 by kernel_rfl,Value.cells] using hg 9 _ rfl
   have z9:Rows.uptoBulk y9.1≤B:=by omega
   have g10:DataW.trod enc Tryd.prog W 0 sp held n 30 [c11,c12]=some y10:=by simpa [show Tryd.prog.cellsOf 30=2 by kernel_rfl,Value.cells] using hg 10 _ rfl
   have z10:Rows.uptoBulk y10.1≤B:=by omega
   have g11:DataW.trod enc Tryd.prog W 0 sp held n 30 [c13,c14]=some y11:=by simpa [show Tryd.prog.cellsOf 30=2 by kernel_rfl,Value.cells] using hg 11 _ rfl
   have z11:Rows.uptoBulk y11.1≤B:=by omega
   clear hz hg;obtain ⟨valueV,value,e0,i0⟩:=openV_nodes_cells g0 z0;simp only [List.cons.injEq,and_true] at e0;subst e0;obtain ⟨iss,e1,rfl,i1⟩:=DataW.trod_string Tryd.underlying9 g1;simp only [List.cons.injEq,and_true] at e1;subst e1;obtain ⟨hasIss,e2,rfl⟩:=DataW.trod_bool Tryd.underlying4 g2;simp only [List.cons.injEq,and_true] at e2;subst e2;obtain ⟨sub,e3,rfl,i3⟩:=DataW.trod_string Tryd.underlying9 g3;simp only [List.cons.injEq,and_true] at e3;subst e3;obtain ⟨hasSub,e4,rfl⟩:=DataW.trod_bool Tryd.underlying4 g4;simp only [List.cons.injEq,and_true] at e4;subst e4;obtain ⟨audV,aud,e5,i5⟩:=openV_strs_cells g5 z5;simp only [List.cons.injEq,and_true] at e5;subst e5;obtain ⟨hasAud,e6,rfl⟩:=DataW.trod_bool Tryd.underlying4 g6;simp only [List.cons.injEq,and_true] at e6;subst e6;obtain ⟨jti,e7,rfl,i7⟩:=DataW.trod_string Tryd.underlying9 g7;simp only [List.cons.injEq,and_true] at e7;subst e7;obtain ⟨hasJti,e8,rfl⟩:=DataW.trod_bool Tryd.underlying4 g8;simp only [List.cons.injEq,and_true] at e8;subst e8;obtain ⟨expH,exp,e9,i9⟩:=qEn g9;simp only [List.cons.injEq,and_true] at e9;obtain ⟨rfl,rfl⟩:=e9;obtain ⟨nbfH,nbf,e10,i10⟩:=qEn g10;simp only [List.cons.injEq,and_true] at e10;obtain ⟨rfl,rfl⟩:=e10;obtain ⟨iatH,iat,e11,i11⟩:=qEn g11;simp only [List.cons.injEq,and_true] at e11;obtain ⟨rfl,rfl⟩:=e11;exact ⟨_,value,iss,hasIss,sub,hasSub,_,aud,hasAud,jti,hasJti,expH,exp,nbfH,nbf,iatH,iat,rfl,i0,bulk_str z1,bulk_str z3,i5,bulk_str z7,i9,i10,i11⟩
theorem openVS_want {B:Nat} {v:Value} {d:DataW H} {p:List MemPlace} (hv:Value.okWide Tryd.prog W r b0 34 v) (h:DataW.Trod enc Tryd.prog W 0 sp held 34 v d p) (hz:Rows.uptoBulk d≤B) :
  ∃(client:BA) (nonce:BA) (hasNonce:Bool) (access:BA) (hasAccess:Bool) (code:BA) (hasCode:Bool) (maxAge:Int) (hasAge:Bool) (leeway:Int),v=.agg #[.string client,.string nonce,.bool hasNonce,.string access,.bool hasAccess,.string code,.bool hasCode,.int .i64 maxAge,.bool hasAge,.int .i64 leeway] ∧
   client.size≤B∧nonce.size≤B∧access.size≤B∧code.size≤B∧(-9223372036854775808≤maxAge∧maxAge≤9223372036854775807)∧(-9223372036854775808≤leeway∧leeway≤9223372036854775807):=by
 obtain ⟨cs,rfl,hsz⟩:=okWide_struct Tryd.underlying34 hv;obtain ⟨l⟩:=cs;have hC:Tryd.prog.cellsOf 34=10:=by kernel_rfl
 match l,hsz.trans hC with
 | [c0,c1,c2,c3,c4,c5,c6,c7,c8,c9],_ =>
  obtain ⟨fuel,hf⟩:=h;obtain ⟨xs,n,_,hx,_,hlen,hg⟩:=DataW.trod_struct Tryd.underlying34 hf;match xs,hlen with
  | [y0,y1,y2,y3,y4,y5,y6,y7,y8,y9],_ =>
   simp only [Prod.mk.injEq,List.map_cons,List.map_nil] at hx;obtain ⟨rfl,_⟩:=hx;simp only [Rows.uptoBulk,Rows.uptoBulkAll] at hz;have g0:DataW.trod enc Tryd.prog W 0 sp held n 9 [c0]=some y0:=by simpa [show Tryd.prog.cellsOf 9=1 by kernel_rfl,Value.cells] using hg 0 _ rfl
   have z0:Rows.uptoBulk y0.1≤B:=by omega
   have g1:DataW.trod enc Tryd.prog W 0 sp held n 9 [c1]=some y1:=by simpa [show Tryd.prog.cellsOf 9=1 by kernel_rfl,Value.cells] using hg 1 _ rfl
   have z1:Rows.uptoBulk y1.1≤B:=by omega
   have g2:DataW.trod enc Tryd.prog W 0 sp held n 4 [c2]=some y2:=by simpa [show Tryd.prog.cellsOf 4=1 by kernel_rfl,Value.cells] using hg 2 _ rfl
   have z2:Rows.uptoBulk y2.1≤B:=by omega
   have g3:DataW.trod enc Tryd.prog W 0 sp held n 9 [c3]=some y3:=by simpa [show Tryd.prog.cellsOf 9=1 by kernel_rfl,Value.cells] using hg 3 _ rfl
   have z3:Rows.uptoBulk y3.1≤B:=by omega
   have g4:DataW.trod enc Tryd.prog W 0 sp held n 4 [c4]=some y4:=by simpa [show Tryd.prog.cellsOf 4=1 by kernel_rfl,Value.cells] using hg 4 _ rfl
   have z4:Rows.uptoBulk y4.1≤B:=by omega
   have g5:DataW.trod enc Tryd.prog W 0 sp held n 9 [c5]=some y5:=by simpa [show Tryd.prog.cellsOf 9=1 by kernel_rfl,Value.cells] using hg 5 _ rfl
   have z5:Rows.uptoBulk y5.1≤B:=by omega
   have g6:DataW.trod enc Tryd.prog W 0 sp held n 4 [c6]=some y6:=by simpa [show Tryd.prog.cellsOf 4=1 by kernel_rfl,Value.cells] using hg 6 _ rfl
   have z6:Rows.uptoBulk y6.1≤B:=by omega
   have g7:DataW.trod enc Tryd.prog W 0 sp held n 2 [c7]=some y7:=by simpa [show Tryd.prog.cellsOf 2=1 by kernel_rfl,Value.cells] using hg 7 _ rfl
   have z7:Rows.uptoBulk y7.1≤B:=by omega
   have g8:DataW.trod enc Tryd.prog W 0 sp held n 4 [c8]=some y8:=by simpa [show Tryd.prog.cellsOf 4=1 by kernel_rfl,Value.cells] using hg 8 _ rfl
   have z8:Rows.uptoBulk y8.1≤B:=by omega
   have g9:DataW.trod enc Tryd.prog W 0 sp held n 2 [c9]=some y9:=by simpa [show Tryd.prog.cellsOf 2=1 by kernel_rfl,Value.cells] using hg 9 _ rfl
   have z9:Rows.uptoBulk y9.1≤B:=by omega
   clear hz hg;obtain ⟨client,e0,rfl,i0⟩:=DataW.trod_string Tryd.underlying9 g0;simp only [List.cons.injEq,and_true] at e0;subst e0;obtain ⟨nonce,e1,rfl,i1⟩:=DataW.trod_string Tryd.underlying9 g1;simp only [List.cons.injEq,and_true] at e1;subst e1;obtain ⟨hasNonce,e2,rfl⟩:=DataW.trod_bool Tryd.underlying4 g2;simp only [List.cons.injEq,and_true] at e2;subst e2;obtain ⟨access,e3,rfl,i3⟩:=DataW.trod_string Tryd.underlying9 g3;simp only [List.cons.injEq,and_true] at e3;subst e3;obtain ⟨hasAccess,e4,rfl⟩:=DataW.trod_bool Tryd.underlying4 g4;simp only [List.cons.injEq,and_true] at e4;subst e4;obtain ⟨code,e5,rfl,i5⟩:=DataW.trod_string Tryd.underlying9 g5;simp only [List.cons.injEq,and_true] at e5;subst e5;obtain ⟨hasCode,e6,rfl⟩:=DataW.trod_bool Tryd.underlying4 g6;simp only [List.cons.injEq,and_true] at e6;subst e6;obtain ⟨maxAge,e7,rfl,i7⟩:=DataW.trod_int Tryd.underlying2 g7;simp only [List.cons.injEq,and_true] at e7;subst e7;obtain ⟨hasAge,e8,rfl⟩:=DataW.trod_bool Tryd.underlying4 g8;simp only [List.cons.injEq,and_true] at e8;subst e8;obtain ⟨leeway,e9,rfl,i9⟩:=DataW.trod_int Tryd.underlying2 g9;simp only [List.cons.injEq,and_true] at e9;subst e9;exact ⟨client,nonce,hasNonce,access,hasAccess,code,hasCode,maxAge,hasAge,leeway,rfl,bulk_str z0,bulk_str z1,bulk_str z3,bulk_str z5,Go.Eng.i64_of_wf i7,Go.Eng.i64_of_wf i9⟩
end
end Go.Proofs.YtobmafbliahplaaDoor
namespace Go.Proofs.YtobmafbliahplaaDoor
open Go.Eng
theorem qCi {W:World} {name:String} {g:Nat} {t e:TypeId} {n:Nat} {k:IntKind} {l:List Int} (hg:Tryd.prog.globalNamed name=some g) (hty:(Tryd.prog.globals[g]?).map (·.type)=some t)
  (ht:Tryd.prog.underlying t=some (.array n e)) (he:Tryd.prog.underlying e=some (.int k)) (hce:Tryd.prog.cellsOf e=1) (hct:Tryd.prog.cellsOf t=n) (h:Lib.VarReads Tryd.prog W name (Lib.tabData k l)):ArrAt noX W g k l:=by
 obtain ⟨g',t',cs,fuel,p,hg',ht',hvar,hd⟩:=h;obtain rfl:=Option.some.inj (hg.symm.trans hg');obtain rfl:=Option.some.inj (hty.symm.trans ht');have hT:Lib.TabIs Tryd.prog W name k l:=by
  unfold Lib.TabIs;rw [hvar,←Lib.cells_of_tab ht he hce hct hd]
 refine ⟨fun h=>h,fun j hj=>?_⟩;rw [hT.cell hg j hj]
theorem ref_tabs {W:World} (h0:Lib.VarReads Tryd.prog W "signet/sha.k256" Rows.laid_signet_sha_k256) (h1:Lib.VarReads Tryd.prog W "signet/sha.k512" Rows.laid_signet_sha_k512) (h2:Lib.VarReads Tryd.prog W "signet/sha.start256" Rows.laid_signet_sha_start256) (h3:Lib.VarReads Tryd.prog W "signet/sha.start384" Rows.laid_signet_sha_start384) (h4:Lib.VarReads Tryd.prog W "signet/sha.start512" Rows.laid_signet_sha_start512) (h5:Lib.VarReads Tryd.prog W "signet/signetref4.k256" Rows.laid_signet_signetref4_k256) (h6:Lib.VarReads Tryd.prog W "signet/signetref4.k512" Rows.laid_signet_signetref4_k512) (h7:Lib.VarReads Tryd.prog W "signet/signetref4.start256" Rows.laid_signet_signetref4_start256) (h8:Lib.VarReads Tryd.prog W "signet/signetref4.start384" Rows.laid_signet_signetref4_start384) (h9:Lib.VarReads Tryd.prog W "signet/signetref4.start512" Rows.laid_signet_signetref4_start512):tabOK noX W:=by
 rw [show (Rows.laid_signet_sha_k256:DataW Unit)=Lib.tabData .u32 shaK256 by kernel_rfl] at h0;rw [show (Rows.laid_signet_sha_k512:DataW Unit)=Lib.tabData .u64 shaK512 by kernel_rfl] at h1;rw [show (Rows.laid_signet_sha_start256:DataW Unit)=Lib.tabData .u32 shaS256 by kernel_rfl] at h2;rw [show (Rows.laid_signet_sha_start384:DataW Unit)=Lib.tabData .u64 shaS384 by kernel_rfl] at h3;rw [show (Rows.laid_signet_sha_start512:DataW Unit)=Lib.tabData .u64 shaS512 by kernel_rfl] at h4;rw [show (Rows.laid_signet_signetref4_k256:DataW Unit)=Lib.tabData .u32 shaK256 by kernel_rfl] at h5;rw [show (Rows.laid_signet_signetref4_k512:DataW Unit)=Lib.tabData .u64 shaK512 by kernel_rfl] at h6;rw [show (Rows.laid_signet_signetref4_start256:DataW Unit)=Lib.tabData .u32 shaS256 by kernel_rfl] at h7;rw [show (Rows.laid_signet_signetref4_start384:DataW Unit)=Lib.tabData .u64 shaS384 by kernel_rfl] at h8;rw [show (Rows.laid_signet_signetref4_start512:DataW Unit)=Lib.tabData .u64 shaS512 by kernel_rfl] at h9;exact ⟨qCi (t:=88) (e:=82) (n:=64) (by kernel_rfl) (by kernel_rfl) (by kernel_rfl) (by kernel_rfl) (by kernel_rfl) (by kernel_rfl) h0,
  qCi (t:=90) (e:=71) (n:=80) (by kernel_rfl) (by kernel_rfl) (by kernel_rfl) (by kernel_rfl) (by kernel_rfl) (by kernel_rfl) h1,
  qCi (t:=83) (e:=82) (n:=8) (by kernel_rfl) (by kernel_rfl) (by kernel_rfl) (by kernel_rfl) (by kernel_rfl) (by kernel_rfl) h2,
  qCi (t:=72) (e:=71) (n:=8) (by kernel_rfl) (by kernel_rfl) (by kernel_rfl) (by kernel_rfl) (by kernel_rfl) (by kernel_rfl) h3,
  qCi (t:=72) (e:=71) (n:=8) (by kernel_rfl) (by kernel_rfl) (by kernel_rfl) (by kernel_rfl) (by kernel_rfl) (by kernel_rfl) h4,
  qCi (t:=88) (e:=82) (n:=64) (by kernel_rfl) (by kernel_rfl) (by kernel_rfl) (by kernel_rfl) (by kernel_rfl) (by kernel_rfl) h5,
  qCi (t:=90) (e:=71) (n:=80) (by kernel_rfl) (by kernel_rfl) (by kernel_rfl) (by kernel_rfl) (by kernel_rfl) (by kernel_rfl) h6,
  qCi (t:=83) (e:=82) (n:=8) (by kernel_rfl) (by kernel_rfl) (by kernel_rfl) (by kernel_rfl) (by kernel_rfl) (by kernel_rfl) h7,
  qCi (t:=72) (e:=71) (n:=8) (by kernel_rfl) (by kernel_rfl) (by kernel_rfl) (by kernel_rfl) (by kernel_rfl) (by kernel_rfl) h8,
  qCi (t:=72) (e:=71) (n:=8) (by kernel_rfl) (by kernel_rfl) (by kernel_rfl) (by kernel_rfl) (by kernel_rfl) (by kernel_rfl) h9⟩
theorem idChecks_tabs {W:World} (h:laidMetH Tryd.prog Rows.idChecksUptoRow.laid W):tabOK noX W:=by
 have h':laidMet Tryd.prog Rows.idChecksUptoRow.laid W:=h;have r:=fun {n d} hm=>Lib.laidMet.reads h' (n:=n) (d:=d) hm
 refine ref_tabs (r ?_) (r ?_) (r ?_) (r ?_) (r ?_) (r ?_) (r ?_) (r ?_) (r ?_) (r ?_) <;> (show _∈[_,_,_,_,_,_,_,_,_,_]; simp only [List.mem_cons,true_or,or_true])
theorem idChecks_walk (valueV:Value) (value:List Eng.Node) (iss:BA) (hasIss:Bool) (sub:BA) (hasSub:Bool) (audV:Value) (aud:List BA) (hasAud:Bool) (jti:BA) (hasJti:Bool) (expH:Bool) (exp:Int) (nbfH:Bool) (nbf:Int) (iatH:Bool) (iat:Int) (a:Int) (client:BA) (nonce:BA) (hasNonce:Bool) (access:BA) (hasAccess:Bool) (code:BA) (hasCode:Bool) (maxAge:Int) (hasAge:Bool) (leeway:Int) (now:Int) (W:World)
  (h0:qB8 noX W W .node valueV value∧(∀n∈value,NodeB 1048576 n)∧value.length≤1048576) (h1:iss.size≤1048576) (h2:sub.size≤1048576) (h3:qB8 noX W W .str audV aud∧(∀s∈aud,s.size≤1048576)∧aud.length≤1048576∧aud.length≤9223372036854775807) (h4:jti.size≤1048576) (h5 : -9223372036854775808≤exp∧exp≤9223372036854775807) (h6 : -9223372036854775808≤nbf∧nbf≤9223372036854775807) (h7 : -9223372036854775808≤iat∧iat≤9223372036854775807) (f1 : -9223372036854775808≤a∧a≤9223372036854775807) (g2client:client.size≤1048576) (g2nonce:nonce.size≤1048576) (g2access:access.size≤1048576) (g2code:code.size≤1048576) (g2maxAge : -9223372036854775808≤maxAge∧maxAge≤9223372036854775807) (g2leeway : -9223372036854775808≤leeway∧leeway≤9223372036854775807) (f3 : -9223372036854775808≤now∧now≤9223372036854775807) (hT:tabOK noX W) :
  Calls Tryd.prog 4 #[.agg #[valueV,.string iss,.bool hasIss,.string sub,.bool hasSub,audV,.bool hasAud,.string jti,.bool hasJti,.bool expH,.int .i64 exp,.bool nbfH,.int .i64 nbf,.bool iatH,.int .i64 iat],.int .i64 a,.agg #[.string client,.string nonce,.bool hasNonce,.string access,.bool hasAccess,.string code,.bool hasCode,.int .i64 maxAge,.bool hasAge,.int .i64 leeway],.int .i64 now] W fun e w'=>e=.returned (.bool true)∧LowB W w':=by
 refine callV zbb_val
  (args:=[.c (.agg [.own 0,.val (.string iss),.val (.bool hasIss),.val (.string sub),.val (.bool hasSub),.own 1,.val (.bool hasAud),.val (.string jti),.val (.bool hasJti),.val (.bool expH),.val (.int .i64 exp),.val (.bool nbfH),.val (.int .i64 nbf),.val (.bool iatH),.val (.int .i64 iat)]),.c (.o (.val (.int .i64 a))),.c (.agg [.val (.string client),.val (.string nonce),.val (.bool hasNonce),.val (.string access),.val (.bool hasAccess),.val (.string code),.val (.bool hasCode),.val (.int .i64 maxAge),.val (.bool hasAge),.val (.int .i64 leeway)]),.c (.o (.val (.int .i64 now)))])
  (hp:=[.view .node value,.view .str aud]) (hp':=[.view .node value,.view .str aud]) (v:=.c (.o (.val (.bool true)))) ?_ ?_ rfl W
  (views_sat (vs:=[valueV,audV]) ⟨h0.1,h3.1,tV⟩ hT) _ rfl
 ·show ((zbb_s ⟨value,iss,hasIss,sub,hasSub,aud,hasAud,jti,hasJti,⟨expH,exp⟩,⟨nbfH,nbf⟩,⟨iatH,iat⟩⟩ a ⟨client,nonce,hasNonce,access,hasAccess,code,hasCode,maxAge,hasAge,leeway⟩ now).bind fun r=>some ((.c (.o (.val (.bool r))),[.view .node value,.view .str aud]):SV × List SB))=_;rw [idChecks_plain (c:=⟨value,iss,hasIss,sub,hasSub,aud,hasAud,jti,hasJti,⟨expH,exp⟩,⟨nbfH,nbf⟩,⟨iatH,iat⟩⟩) (a:=a) (now:=now) (w:=⟨client,nonce,hasNonce,access,hasAccess,code,hasCode,maxAge,hasAge,leeway⟩) ⟨h0.2.2,fun n hn=>⟨(h0.2.1 n hn).key,(h0.2.1 n hn).text,(h0.2.1 n hn).kids⟩⟩ (fun n hn=>(h0.2.1 n hn).int) h3.2.2.1 h3.2.1 ⟨f3.1,f3.2⟩ g2access g2code];rfl
 ·intro x hx;simp only [List.mem_cons,List.not_mem_nil,or_false] at hx;rcases hx with rfl | rfl | rfl | rfl
  ·intro y hy;simp only [List.mem_cons,List.not_mem_nil,or_false] at hy;rcases hy with rfl | rfl | rfl | rfl | rfl | rfl | rfl | rfl | rfl | rfl | rfl | rfl | rfl | rfl | rfl <;> first | trivial | (show _<2; omega)
  ·trivial
  ·intro y hy;simp only [List.mem_cons,List.not_mem_nil,or_false] at hy;rcases hy with rfl | rfl | rfl | rfl | rfl | rfl | rfl | rfl | rfl | rfl <;> first | trivial | (show _<2; omega)
  ·trivial
end Go.Proofs.YtobmafbliahplaaDoor
