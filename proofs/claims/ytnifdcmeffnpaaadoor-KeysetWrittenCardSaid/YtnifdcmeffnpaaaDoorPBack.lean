/-
  Texts of a claim.
-/
import Derived.Test.YtnifdcmeffnpaaaDoorPShape
import Derived.Test.YtnifdcmeffnpaaaDoorPTreeS
import Derived.Test.YtnifdcmeffnpaaaDoorPFind
namespace Go.Proofs.YtnifdcmeffnpaaaDoor
open Go.Eng
set_option linter.unusedVariables false
set_option linter.unusedSimpArgs false
def scalL (n:Eng.Node):List Int :=
 if n.kind=1 then [110,117,108,108] else if n.kind=2 then [102,97,108,115,101] else if n.kind=3 then [116,114,117,101] else if n.kind=4 then qAh n.text else quoL n.text
def keyL (v:List Eng.Node) (obj:Bool) (a:Nat):List Int:=if obj=true then quoL (qCg v a)++[58] else []
def qF6 (first:Bool):List Int:=if first=true then [] else [44]
noncomputable def qBf (v:List Eng.Node) (one:Nat→Option Nat) (pr:Nat→List Int) (obj:Bool):Nat→Nat→Bool→List Int
 | 0,_,_=>[]
 | k+1,a,first=>qF6 first++(keyL v obj a++(pr a++qBf v one pr obj k ((one a).getD 0) false))
noncomputable def qAt (v:List Eng.Node):Nat→Nat→List Int
 | 0,a=>scalL (v.getD a (ET.dft .node))
 | d+1,a =>
  if (v.getD a (ET.dft .node)).kind<6 then scalL (v.getD a (ET.dft .node))
  else (if (v.getD a (ET.dft .node)).kind=7 then 123 else 91)::(qBf v (oneS v d (decide ((v.getD a (ET.dft .node)).kind=7))) (qAt v d) (decide ((v.getD a (ET.dft .node)).kind=7)) (v.getD a (ET.dft .node)).kids.toNat (a+1) true++[if (v.getD a (ET.dft .node)).kind=7 then 125 else 93])
theorem scalL_len {n:Eng.Node} (h:OkN n):(scalL n).length≤18000002:=by
 have h1:=quoL_len n.text;have h2:=qAp n.text;have h3:=h.text;unfold scalL;split
 ·simp
 split
 ·simp
 split
 ·simp
 split <;> omega
theorem scalL_range (n:Eng.Node):∀x∈scalL n,0≤x∧x<256:=by
 unfold scalL;split
 ·intro x hx; simp at hx; omega
 split
 ·intro x hx; simp at hx; omega
 split
 ·intro x hx; simp at hx; omega
 split
 ·exact bytesL_range _
 ·exact quoL_range _
theorem keyL_len {v:List Eng.Node} (hv:OkL v) (obj:Bool) {a:Nat} (ha:a<v.length):(keyL v obj a).length≤18000003:=by
 obtain ⟨n,hn,hmem,hget⟩:=nd_some ha;have h1:=quoL_len n.key;have h2:=(hv.2 n hmem).key;unfold keyL qCg;rw [hget];split
 ·simp only [List.length_append,List.length_singleton]; omega
 ·simp
theorem kids_len {v:List Eng.Node} (hv:OkL v) {one:Nat→Option Nat} {pr:Nat→List Int} {obj:Bool} (hone:∀a e,one a=some e→a<e∧e≤v.length) (hpr:∀a e,one a=some e→(pr a).length+18000004≤40000000*(e - a)) :
  ∀(k a:Nat) (first:Bool) (names:List BA) (e:Nat),a≤v.length→qD1 v one obj k a names=some e→(qBf v one pr obj k a first).length≤40000000*(e - a)
 | 0,a,first,names,e,ha,h=>by simp [qBf]
 | k+1,a,first,names,e,ha,h=>by
  unfold qD1 at h;cases ho:one a with
  | none=>rw [ho] at h; cases h
  | some b =>
   rw [ho] at h;dsimp only at h;split at h
   ·cases h
   ·have hb:=hone a b ho;have hp:=hpr a b ho;have ih:=kids_len hv hone hpr k b false _ e hb.2 h;have hle:=qGc hone k b _ e hb.2 h;have hkl:=keyL_len hv obj (a:=a) (by omega);have hcm:(qF6 first).length≤1:=by unfold qF6; split <;> simp
    unfold qBf;rw [ho];simp only [List.length_append,Option.getD_some];omega
theorem prOne_len {v:List Eng.Node} (hv:OkL v):∀(d:Nat) (obj:Bool) (a e:Nat),oneS v d obj a=some e→(qAt v d a).length+18000004≤40000000*(e - a):=by
 intro d;induction d with
 | zero =>
  intro obj a e h;have hle:=qDf v 0 obj a e h;obtain ⟨n,h1,h2,h3,h4,h5,h6,h7,h8,h9,h10⟩:=oneS_ok hv h;have:=scalL_len (hv.2 n h2);unfold qAt;rw [h4];omega
 | succ d ih =>
  intro obj a e h;have hle:=qDf v (d+1) obj a e h;obtain ⟨n,h1,h2,h3,h4,h5,h6,h7,h8,h9,h10⟩:=oneS_ok hv h;have hs:=scalL_len (hv.2 n h2);unfold qAt;rw [h4];split
  ·omega
  ·rcases h10 with ⟨h,_⟩ | ⟨d',h,h11⟩
   ·cases h
   ·have:d'=d:=by omega
    subst this;have:=kids_len hv (qDf v d' (decide (n.kind=7))) (fun a e=>ih _ a e) _ _ true _ _ (by omega) h11;have hle2:=qGc (qDf v d' (decide (n.kind=7))) _ _ _ _ (by omega) h11;simp only [List.length_cons,List.length_append,List.length_nil];omega
theorem sp_p2 {v:List Eng.Node} (hv:OkL v) {self:qG9→List Eng.Node→Int→Option (qG9 × Int)} {pr:Nat→List Int} {a e1:Nat} (ha:a<v.length) (kd:Int)
  (hs:∀(ad:Bool) (buf:List Int),buf.length+18000000≤120000000000000+18000004→buf.length+40000000*(e1 - a)≤120000000000000+18000004→self ⟨ad,buf⟩ v (a:Int)=some (⟨true,buf++pr a⟩,(e1:Int)))
  (ad:Bool) (buf:List Int) (hb:buf.length+40000000*(e1 - a)≤120000000000000) (he:a<e1) :
  zbk_p2 self (a:Int) ad v kd buf=some ((e1:Int),true,buf++(keyL v (decide (kd=7)) a++pr a)):=by
 have hlen:=hv.1;obtain ⟨n,hn,hmem,hget⟩:=nd_some ha;have hk:=(hv.2 n hmem).key;have hq:=quoL_len n.key;unfold zbk_p2 keyL qCg;rw [hget];by_cases h7:kd=7
 ·rw [deT h7,cnT,if_pos rfl,qAa (by omega),qAa (by omega),qAa (by omega),Int.toNat_natCast,hget];rw [p_quote _ _ _ hk (by omega),obS,p_wb _ _ _ (by simp only [List.length_append]; omega),obS];rw [hs true (buf++quoL n.key++[58]) (by simp only [List.length_append,List.length_singleton]; omega) (by simp only [List.length_append,List.length_singleton]; omega),obS];simp only [List.append_assoc]
 ·rw [deF h7,cnF,if_neg (by decide),hs ad buf (by omega) (by omega),obS,List.nil_append]
theorem sp_p1 {v:List Eng.Node} (hv:OkL v) {self:qG9→List Eng.Node→Int→Option (qG9 × Int)} {one:Nat→Option Nat} {pr:Nat→List Int} (kd:Int) (hone:∀a e,one a=some e→a<e∧e≤v.length)
  (hpr:∀a e,one a=some e→(pr a).length+18000004≤40000000*(e - a))
  (hs:∀(a e:Nat),one a=some e→∀(ad:Bool) (buf:List Int),buf.length+40000000*(e - a)≤120000000000000+18000004→self ⟨ad,buf⟩ v (a:Int)=some (⟨true,buf++pr a⟩,(e:Int))) (K:Nat) (hK:(K:Int)≤9223372036854775807) :
  ∀(k i a:Nat) (names:List BA) (e:Nat) (buf:List Int),i+k=K→a≤v.length→qD1 v one (decide (kd=7)) k a names=some e→buf.length+40000000*(e - a)+1≤120000000000000 →
   zbk_p1 self (a:Int) (K:Int) (i:Int) true v kd buf=some ((e:Int),true,buf++qBf v one pr (decide (kd=7)) k a (decide (i=0)))
 | 0,i,a,names,e,buf,h,ha,hk,hb=>by
  cases hk;show _=some ((a:Int),true,buf++[]);rw [List.append_nil];unfold zbk_p1;refine qAq ?_;unfold qD7;dsimp only;rw [deF (by omega),cnF]
 | k+1,i,a,names,e,buf,h,ha,hk,hb=>by
  unfold qD1 at hk;cases ho:one a with
  | none=>rw [ho] at hk; cases hk
  | some b =>
   rw [ho] at hk;dsimp only at hk;split at hk
   ·cases hk
   ·have hle:=hone a b ho;have hle2:=qGc hone k b _ e hle.2 hk;have hp:=hpr a b ho;have hkl:=keyL_len hv (decide (kd=7)) (a:=a) (by omega);have hst:qD7 self (a:Int) (K:Int) (i:Int) true v kd buf=some (.inl ((b:Int),((i+1:Nat):Int),true,buf++qF6 (decide (i=0))++(keyL v (decide (kd=7)) a++pr a))):=by
     unfold qD7;rw [deT (by omega),cnT];by_cases hi:i=0
     ·rw [deF (by omega),cnF,sp_p2 hv (pr:=pr) (e1:=b) (by omega) kd (fun ad buf _ h2=>hs a b ho ad buf h2) true buf (by omega) hle.1,obS,deT hi];show gd _ _=some (Sum.inl ((b:Int),((i+1:Nat):Int),true,buf++[]++_));rw [List.append_nil];exact qAa (by unfold qAj; omega) _
     ·rw [deT (by omega),cnT,p_wb _ _ _ (by omega),obS,sp_p2 hv (pr:=pr) (e1:=b) (by omega) kd (fun ad buf _ h2=>hs a b ho ad buf h2) true (buf++[44]) (by simp only [List.length_append,List.length_singleton]; omega) hle.1,obS,deF hi];exact qAa (by unfold qAj; omega) _
    have hcm:(qF6 (decide (i=0))).length≤1:=by unfold qF6; split <;> simp
    have ih:=sp_p1 hv kd hone hpr hs K hK k (i+1) b _ e (buf++qF6 (decide (i=0))++(keyL v (decide (kd=7)) a++pr a)) (by omega) hle.2 hk (by simp only [List.length_append]; omega);rw [deF (show ¬(i+1=0) by omega)] at ih;unfold qBf;rw [ho,Option.getD_some];simp only [List.append_assoc] at ih ⊢;rw [←ih];unfold zbk_p1;rw [qAy hst];simp only [List.append_assoc]
theorem sp_all {v:List Eng.Node} (hv:OkL v):∀(d:Nat) (obj:Bool) (a e n:Nat),oneS v d obj a=some e→d<n→∀(ad:Bool) (buf:List Int),buf.length+40000000*(e - a)≤120000000000000+18000004 →
  zbk_n n ⟨ad,buf⟩ v (a:Int)=some (⟨true,buf++qAt v d a⟩,(e:Int)):=by
 have hlen:=hv.1;intro d;induction d with
 | zero =>
  intro obj a e n h hn ad buf hb;have hle:=qDf v 0 obj a e h;obtain ⟨nd,h1,h2,h3,h4,h5,h6,h7,h8,h9,h10⟩:=oneS_ok hv h;rcases h10 with ⟨_,h11,rfl⟩ | ⟨d',h,_⟩
  ·cases n with
   | zero=>omega
   | succ n =>
    show zbk_t (zbk_n n) ⟨ad,buf⟩ v a=_;have htx:=(hv.2 nd h2).text;unfold zbk_t qAt scalL;rw [qAa (by omega),qAa (by omega),qAa (by unfold qAj; omega),Int.toNat_natCast,h4];by_cases k1:nd.kind=1
    ·rw [deT k1,cnT,if_pos k1,p_ws _ _ _ (by show _+4≤_; omega)]; rfl
    rw [deF k1,cnF,if_neg k1];by_cases k2:nd.kind=2
    ·rw [deT k2,cnT,if_pos k2,p_ws _ _ _ (by show _+5≤_; omega)]; rfl
    rw [deF k2,cnF,if_neg k2];by_cases k3:nd.kind=3
    ·rw [deT k3,cnT,if_pos k3,p_ws _ _ _ (by show _+4≤_; omega)]; rfl
    rw [deF k3,cnF,if_neg k3];by_cases k4:nd.kind=4
    ·rw [deT k4,cnT,if_pos k4,p_ws _ _ _ (by omega)]; rfl
    rw [deF k4,cnF,if_neg k4];by_cases k5:nd.kind=5
    ·rw [deT k5,cnT,p_quote _ _ _ htx (by omega)]; rfl
    have hc:((((decide (nd.kind<(1:Int))) || (decide ((7:Int)<nd.kind))) || (decide (nd.kids<(0:Int)))) || (((decide ((0:Int)<nd.kids)) && (!decide (nd.kind=(6:Int)))) && (!decide (nd.kind=(7:Int)))))=true:=by
     rw [deT (show nd.kind<1 by omega)]; rfl
    have:=pB_j (hv.2 nd h2);have hj:=this.1;rw [h6] at hj;unfold zao_s at hj;rw [hc,cnT] at hj;cases hj
  ·cases h
 | succ d ih =>
  intro obj a e n h hn ad buf hb;have hle:=qDf v (d+1) obj a e h;obtain ⟨nd,h1,h2,h3,h4,h5,h6,h7,h8,h9,h10⟩:=oneS_ok hv h;rcases h10 with ⟨h,_⟩ | ⟨d',h,h11⟩
  ·cases h
  ·have:d'=d:=by omega
   subst this;cases n with
   | zero=>omega
   | succ n =>
    show zbk_t (zbk_n n) ⟨ad,buf⟩ v a=_;have htx:=(hv.2 nd h2).text;have hki:=(hv.2 nd h2).kids;unfold qAj at hki;unfold zbk_t qAt scalL;rw [qAa (by omega),qAa (by omega),qAa (by unfold qAj; omega),Int.toNat_natCast,h4];have hsc:nd.kind<6→e=a+1:=fun hk=>by
     rw [show nd.kids.toNat=0 by omega] at h11;cases h11;rfl
    by_cases k1:nd.kind=1
    ·rw [hsc (by omega),deT k1,cnT,if_pos (by omega),if_pos k1,p_ws _ _ _ (by show _+4≤_; omega)]; rfl
    rw [deF k1,cnF,if_neg k1];by_cases k2:nd.kind=2
    ·rw [hsc (by omega),deT k2,cnT,if_pos (by omega),if_pos k2,p_ws _ _ _ (by show _+5≤_; omega)]; rfl
    rw [deF k2,cnF,if_neg k2];by_cases k3:nd.kind=3
    ·rw [hsc (by omega),deT k3,cnT,if_pos (by omega),if_pos k3,p_ws _ _ _ (by show _+4≤_; omega)]; rfl
    rw [deF k3,cnF,if_neg k3];by_cases k4:nd.kind=4
    ·rw [hsc (by omega),deT k4,cnT,if_pos (by omega),if_pos k4,p_ws _ _ _ (by omega)]; rfl
    rw [deF k4,cnF,if_neg k4];by_cases k5:nd.kind=5
    ·rw [hsc (by omega),deT k5,cnT,if_pos (by omega),p_quote _ _ _ htx (by omega)]; rfl
    rw [deF k5,cnF];by_cases k6:nd.kind<6
    ·exfalso;have hc:((((decide (nd.kind<(1:Int))) || (decide ((7:Int)<nd.kind))) || (decide (nd.kids<(0:Int)))) || (((decide ((0:Int)<nd.kids)) && (!decide (nd.kind=(6:Int)))) && (!decide (nd.kind=(7:Int)))))=true:=by
      rw [deT (show nd.kind<1 by omega)]; rfl
     have:=pB_j (hv.2 nd h2);have hj:=this.1;rw [h6] at hj;unfold zao_s at hj;rw [hc,cnT] at hj;cases hj
    rw [if_neg k6];obtain ⟨kk,hkk⟩:=Int.eq_ofNat_of_zero_le h7;rw [hkk,show ((kk:Int)).toNat=kk from rfl];rw [hkk,show ((kk:Int)).toNat=kk from rfl] at h11;have hle2:=qGc (qDf v d' (decide (nd.kind=7))) _ _ _ _ (by omega) h11;have hkl:=kids_len hv (qDf v d' (decide (nd.kind=7))) (fun a e=>prOne_len hv d' _ a e) _ _ true _ _ (by omega) h11;have hp0:∀(c0 c1:Int) (sg:BA),bAt sg 0=c0→bAt sg 1=c1→sg.size=2→zbk_p0 (zbk_n n) ((a:Int)+1) sg ad v buf nd.kind (kk:Int)=some ((e:Int),true,buf++c0::(qBf v (oneS v d' (decide (nd.kind=7))) (qAt v d') (decide (nd.kind=7)) kk (a+1) true++[c1])):=by
     intro c0 c1 sg e0 e1 hz;unfold zbk_p0;rw [qAa (by omega),e0,p_wb _ _ _ (by omega),obS];have:=sp_p1 hv nd.kind (qDf v d' (decide (nd.kind=7))) (fun a e=>prOne_len hv d' _ a e) (self:=zbk_n n) (fun a e ho ad buf hb=>ih _ a e n ho (by omega) ad buf hb) kk (by omega) kk 0 (a+1) [] e (buf++[c0]) (by omega) (by omega) h11 (by simp only [List.length_append,List.length_singleton]; omega);rw [show ((a+1:Nat):Int)=(a:Int)+1 by omega,show ((0:Nat):Int)=0 from rfl,deT rfl] at this;dsimp only;rw [this,obS,qAa (by omega),e1,p_wb _ _ _ (by simp only [List.length_append,List.length_singleton]; omega),obS];simp only [List.append_assoc,List.cons_append,List.nil_append]
    by_cases k7:nd.kind=7
    ·rw [deT k7] at hp0 ⊢;rw [cnT,hp0 123 125 _ (by decide) (by decide) rfl,obS,if_pos k7,if_pos k7]
    ·rw [deF k7] at hp0 ⊢;rw [cnF,hp0 91 93 _ (by decide) (by decide) rfl,obS,if_neg k7,if_neg k7]
theorem prOne_some {v:List Eng.Node} (hv:OkL v) {d:Nat} {obj:Bool} {a e:Nat} (h:oneS v d obj a=some e):qAt v d a≠[]:=by
 obtain ⟨nd,h1,h2,h3,h4,h5,h6,h7,h8,h9,h10⟩:=oneS_ok hv h;have hs:nd.kind<6→scalL nd≠[]:=by
  intro hk;unfold scalL;split
  ·simp
  split
  ·simp
  split
  ·simp
  split
  ·rename_i k4;intro he;have hz:nd.text.size=0:=by rw [←qAp,he]; rfl
   have htx:nd.text=⟨#[]⟩:=eq_none.2 hz;have hj:=(pB_j (hv.2 nd h2)).1;rw [h6] at hj;unfold zao_s at hj;have hw:=whole_j nd.text (hv.2 nd h2).text;rw [hw,p_Valid nd.text (hv.2 nd h2).text,htx] at hj;have hro:qCh (⟨#[]⟩:BA)=false:=by decide +kernel
   rw [hro,deT k4] at hj;simp only [obS,cnT,Bool.false_and] at hj;simp at hj
  ·simp [quoL]
 cases d with
 | zero =>
  unfold qAt;rw [h4];rcases h10 with ⟨_,h11,_⟩ | ⟨d',h,_⟩
  ·exact hs h11
  ·cases h
 | succ d =>
  unfold qAt;rw [h4];split
  ·rename_i hk;exact hs hk
  ·simp
theorem prOne_range (v:List Eng.Node):∀(d a:Nat),∀x∈qAt v d a,0≤x∧x<256:=by
 intro d;induction d with
 | zero =>
  intro a;exact scalL_range _
 | succ d ih =>
  intro a;have kids:∀(one:Nat→Option Nat) (obj:Bool) (k b:Nat) (first:Bool),∀x∈qBf v one (qAt v d) obj k b first,0≤x∧x<256:=by
   intro one obj k;induction k with
   | zero=>intro b first x hx; cases hx
   | succ k ihk =>
    intro b first x hx;unfold qBf at hx;simp only [List.mem_append] at hx;rcases hx with hx | hx | hx | hx
    ·unfold qF6 at hx;split at hx
     ·cases hx
     ·simp at hx; omega
    ·unfold keyL at hx;split at hx
     ·simp only [List.mem_append,List.mem_singleton] at hx;rcases hx with hx | hx
      ·exact quoL_range _ x hx
      ·omega
     ·cases hx
    ·exact ih b x hx
    ·exact ihk _ _ x hx
  unfold qAt;split
  ·exact scalL_range _
  ·intro x hx;simp only [List.mem_cons,List.mem_append,List.not_mem_nil,or_false] at hx;rcases hx with rfl | hx | rfl
   ·split <;> omega
   ·exact kids _ _ _ _ _ x hx
   ·split <;> omega
def Stop (c:Int):Prop:=¬(48≤c∧c≤57)∧c≠46∧c≠101∧c≠69
theorem has_at {t s:BA} {a:Nat} (h:Has t a (qAh s)) {i:Nat} (hi:i<s.size):bAt t ((a+i:Nat):Int)=bAt s (i:Int):=by
 have key:∀(L:List Int) (a i:Nat),Has t a L→i<L.length→bAt t ((a+i:Nat):Int)=L.getD i 0:=by
  intro L;induction L with
  | nil=>intro a i _ h; simp at h
  | cons c L ih =>
   intro a i h hi;cases i with
   | zero=>exact h.1
   | succ i =>
    have:=ih (a+1) i h.2 (by simpa using hi);rw [show a+(i+1)=a+1+i by omega,this];rfl
 rw [key _ a i h (by rw [qAp]; exact hi),List.getD_eq_getElem?_getD,qDg hi];rfl
theorem many_says {t s:BA} {a:Nat} (h:Has t a (qAh s)) (hst:Stop (bAt t ((a+s.size:Nat):Int))):∀(n i:Nat),s.size - i≤n→i≤s.size→qCw t (a+i)=a+qCw s i
 | 0,i,h1,h2=>by
  have hi:i=s.size:=by omega
  subst hi;have e1:digS s ((s.size:Nat):Int)=false:=by unfold digS; rw [qBt (by omega)]; rfl
  have e2:digS t ((a+s.size:Nat):Int)=false:=by
   unfold digS;unfold Stop at hst;rw [←Bool.not_eq_true,Bool.and_eq_true,decide_eq_true_eq,decide_eq_true_eq];exact hst.1
  rw [qBx e1,qBx e2]
 | n+1,i,h1,h2=>by
  by_cases hlt:i<s.size
  ·have e:digS t ((a+i:Nat):Int)=digS s (i:Int):=by unfold digS; rw [has_at h hlt]
   by_cases hd:digS s (i:Int)=true
   ·rw [qCf (e.trans hd),qCf hd];exact many_says h hst n (i+1) (by omega) (by omega)
   ·have hd:digS s (i:Int)=false:=by simpa using hd
    rw [qBx (e.trans hd),qBx hd]
  ·exact many_says h hst 0 i (by omega) h2
theorem numR_says {t s:BA} {a:Nat} (hr:qCh s=true) (h:Has t a (qAh s)) (hst:Stop (bAt t ((a+s.size:Nat):Int))):numR t a=.ok (a+s.size) ():=by
 have mm:∀i,i≤s.size→qCw t (a+i)=a+qCw s i:=fun i hi=>many_says h hst (s.size - i) i (Nat.le_refl _) hi
 unfold qCh at hr;simp only [Bool.and_eq_true,Bool.not_eq_true',decide_eq_true_eq,Bool.and_eq_false_iff,decide_eq_false_iff_not] at hr;obtain ⟨⟨⟨h1,h2⟩,h3⟩,h4⟩:=hr;unfold badA at h1;simp only [Bool.or_eq_false_iff,Bool.and_eq_false_iff,decide_eq_false_iff_not] at h1;have hge:∀i,i≤qCw s i:=qEe s;have hle:∀i,i≤s.size→qCw s i≤s.size:=fun i hi=>manyS_le s i hi
 have hpos:0<s.size:=by
  rcases Nat.eq_zero_or_pos s.size with h0 | h0
  ·exfalso;refine h1.1 ?_;unfold atB;rw [qBx];unfold digS;rw [qBt (by omega)];rfl
  ·exact h0
 have hA:signS t a=a+atA s:=by
  unfold signS atA;have:=has_at h (i:=0) hpos;rw [Nat.add_zero] at this;rw [this];show (if bAt s 0=45 then a+1 else a)=_;split <;> rfl
 have hA1:atA s≤s.size:=by unfold atA; split <;> omega
 have hB1:atB s≤s.size:=hle _ hA1;have hB2:atA s<atB s:=by
  have:=hge (atA s);have h1:=h1.1;unfold atB at h1 ⊢;omega
 have hAt:=has_at h (i:=atA s) (by omega);have hz:zeroR t (signS t a)=.ok (a+atB s) ():=by
  rw [hA];unfold zeroR;rw [hAt];by_cases h48:bAt s (atA s:Int)=48
  ·rw [if_pos h48];have:=h1.2.resolve_left (fun h=>h h48);rw [show a+atA s+1=a+atB s by omega]
  ·rw [if_neg h48];unfold digR;rw [mm _ hA1,if_neg (by unfold atB at hB2; omega)];rfl
 have hd:dotR t (a+atB s)=.ok (a+atC s) ()∧atC s≤s.size:=by
  unfold dotR atC;by_cases hdot:dotS s=true
  ·rw [if_pos hdot];have hb46:bAt s (atB s:Int)=46:=by unfold dotS at hdot; exact of_decide_eq_true hdot
   have hlt:atB s<s.size:=by have:=(qCp (s:=s) (i:=(atB s:Int)) (by omega)).2; omega
   rw [has_at h hlt,if_pos hb46];have hk:=h2.resolve_left (fun h=>by rw [hdot] at h; cases h);unfold digR;rw [show a+atB s+1=a+(atB s+1) by omega,mm _ (by omega),if_neg (by unfold atK at hk; omega)];exact ⟨rfl,hle _ (by omega)⟩
  ·rw [if_neg hdot];have hb46:¬bAt s (atB s:Int)=46:=by unfold dotS at hdot; exact fun h=>hdot (deT h)
   by_cases hlt:atB s<s.size
   ·rw [has_at h hlt,if_neg hb46];exact ⟨rfl,hB1⟩
   ·rw [show atB s=s.size by omega,if_neg hst.2.1];exact ⟨rfl,Nat.le_refl _⟩
 have hp:powR t (a+atC s)=.ok (a+s.size) ():=by
  unfold atG at h4;unfold powR;by_cases hexp:expS s=true
  ·rw [if_pos hexp] at h4;have he:bAt s (atC s:Int)=101∨bAt s (atC s:Int)=69:=by unfold expS at hexp; simpa using hexp
   have hlt:atC s<s.size:=by have:=(qCp (s:=s) (i:=(atC s:Int)) (by omega)).2; omega
   have hf:=h3.resolve_left (fun h=>by rw [hexp] at h; cases h);rw [has_at h hlt,if_pos he];have hlt2:atC s+1<s.size:=by
    rcases Nat.lt_or_ge (atC s+1) s.size with hh | hh
    ·exact hh
    ·exfalso;have hsg:sgnS s=false:=by
      unfold sgnS;rw [qBt (by omega)];rfl
     have hE:atE s=atC s+1:=by unfold atE; rw [hsg,if_neg (by decide)]
     refine hf ?_;unfold atF;rw [qBx];unfold digS;rw [qBt (by omega)];rfl
   have h5:=has_at h hlt2;have hq:(if bAt t ((a+atC s+1:Nat):Int)=43∨bAt t ((a+atC s+1:Nat):Int)=45 then a+atC s+2 else a+atC s+1)=a+atE s:=by
    rw [show a+atC s+1=a+(atC s+1) by omega,h5];unfold atE sgnS;rw [show ((atC s+1:Nat):Int)=(atC s:Int)+1 by omega];by_cases hs:bAt s ((atC s:Int)+1)=43∨bAt s ((atC s:Int)+1)=45
    ·rw [if_pos hs,if_pos (by simpa using hs)];omega
    ·rw [if_neg hs,if_neg (by simpa using hs)]
   rw [hq];have hEle:atE s≤s.size:=by unfold atE; split <;> omega
   unfold digR;rw [mm _ hEle,if_neg (by unfold atF at hf; omega)];unfold atF at h4;rw [h4]
  ·rw [if_neg hexp] at h4;rw [h4,if_neg (by unfold Stop at hst; omega)]
 unfold numR;rw [hz];dsimp only;rw [hd.1];dsimp only;rw [hp]
theorem litR_says {t:BA}:∀ {w:List Int} {a:Nat},Has t a w→litR t w a=.ok (a+w.length) ()
 | [],a,h=>rfl
 | c::w,a,h=>by
  unfold litR;rw [if_pos h.1,litR_says h.2,List.length_cons];congr 1
  omega
theorem pB_inv {n:Eng.Node} (hn:n.text.size≤3000000) (h:pB n=true) :
  (n.kind=4∧n.kids=0∧qCh n.text=true∧n.whole=(qFc n.text).2∧n.int=(qFc n.text).1) ∨
  (n.kind=5∧n.kids=0∧n.whole=false∧n.int=0∧Lib.validD n.text.data.toList=true) ∨
  ((n.kind=1∨n.kind=2∨n.kind=3)∧n.kids=0∧n.whole=false∧n.int=0∧n.text=⟨#[]⟩) ∨
  ((n.kind=6∨n.kind=7)∧0≤n.kids∧n.whole=false∧n.int=0∧n.text=⟨#[]⟩):=by
 have hu:qBd n.text=some (Lib.validD n.text.data.toList):=qAa (by omega) _;unfold pB zao_s at h;rw [p_Valid _ hn,whole_j _ hn,hu] at h;simp only [obS] at h;cases h1:((((decide (n.kind<(1:Int))) || (decide ((7:Int)<n.kind))) || (decide (n.kids<(0:Int)))) || (((decide ((0:Int)<n.kids)) && (!decide (n.kind=(6:Int)))) && (!decide (n.kind=(7:Int))))) with
 | true=>rw [h1] at h; cases h
 | false =>
  rw [h1,cnF] at h;simp only [Bool.or_eq_false_iff,Bool.and_eq_false_iff,decide_eq_false_iff_not,Bool.not_eq_false',decide_eq_true_eq] at h1;by_cases h4:n.kind=4
  ·rw [deT h4,cnT] at h;simp only [Option.getD_some,Bool.and_eq_true,beq_iff_eq,decide_eq_true_eq] at h;exact .inl ⟨h4,by omega,h.1.1,h.1.2,h.2⟩
  ·rw [deF h4,cnF] at h;cases hw:n.whole with
   | true=>rw [hw] at h; cases h
   | false =>
    rw [hw,Bool.false_or] at h;by_cases hi:n.int=0
    ·rw [deT hi,Bool.not_true,cnF] at h;by_cases h5:n.kind=5
     ·rw [deT h5,cnT] at h;exact .inr (.inl ⟨h5,by omega,rfl,hi,h⟩)
     ·rw [deF h5,cnF] at h;have ht:n.text=⟨#[]⟩:=of_decide_eq_true h;by_cases h6:n.kind=6∨n.kind=7
      ·exact .inr (.inr (.inr ⟨h6,by omega,rfl,hi,ht⟩))
      ·exact .inr (.inr (.inl ⟨by omega,by omega,rfl,hi,ht⟩))
    ·rw [deF hi,Bool.not_false,cnT] at h;cases h
def part (v:List Eng.Node) (p e:Nat):List Eng.Node:=(v.drop p).take (e - p)
theorem part_app (v:List Eng.Node) {p m e:Nat} (h1:p≤m) (h2:m≤e):part v p e=part v p m++part v m e:=by
 unfold part;have:v.drop m=(v.drop p).drop (m - p):=by rw [List.drop_drop,show p+(m - p)=m by omega]
 rw [this,show e - p=(m - p)+(e - m) by omega,List.take_add]
theorem part_one {v:List Eng.Node} {p:Nat} {n:Eng.Node} (h:v[p]?=some n):part v p (p+1)=[n]:=by
 have hp:=(List.getElem?_eq_some_iff.1 h);unfold part;rw [List.drop_eq_getElem_cons hp.1,hp.2,show p+1 - p=1 by omega];rfl
theorem part_cons {v:List Eng.Node} {p e:Nat} {n:Eng.Node} (h:v[p]?=some n) (he:p+1≤e):part v p e=n::part v (p+1) e:=by
 rw [part_app v (m:=p+1) (by omega) he,part_one h];rfl
def After (c:Int):Prop:=c = -1∨c=44∨c=93∨c=125
theorem After.stop {c:Int} (h:After c):Stop c:=by
 unfold After at h;unfold Stop;omega
theorem qFh {t:BA} {a:Nat} (h:bAt t (a:Int)≠32∧bAt t (a:Int)≠9∧bAt t (a:Int)≠10∧bAt t (a:Int)≠13):qAz t a=a:=by
 refine skipS_no ?_;unfold qDl;simp only [Bool.or_eq_false_iff,decide_eq_false_iff_not];omega
theorem After.skip {t:BA} {a:Nat} (h:After (bAt t (a:Int))):qAz t a=a:=qFh (by unfold After at h; omega)
theorem readOk_first {s:BA} (h:qCh s=true):0<s.size∧(bAt s 0=45∨(48≤bAt s 0∧bAt s 0≤57)):=by
 unfold qCh at h;simp only [Bool.and_eq_true,Bool.not_eq_true'] at h;have h1:=h.1.1.1;unfold badA at h1;simp only [Bool.or_eq_false_iff,decide_eq_false_iff_not] at h1;have h1:=h1.1;by_cases h45:bAt s 0=45
 ·have:=(qCp (s:=s) (i:=0) (by omega)).2;exact ⟨by omega,.inl h45⟩
 ·have hA:atA s=0:=by unfold atA; rw [if_neg h45]
  unfold atB at h1;rw [hA] at h1;by_cases hd:digS s ((0:Nat):Int)=true
  ·have:=digS_lt hd;unfold digS at hd;simp only [Bool.and_eq_true,decide_eq_true_eq] at hd;exact ⟨by omega,.inr hd⟩
  ·exact (h1 (qBx (by simpa using hd))).elim
def scQ (q:BA→List Int) (n:Eng.Node):List Int :=
 if n.kind=1 then [110,117,108,108] else if n.kind=2 then [102,97,108,115,101] else if n.kind=3 then [116,114,117,101] else if n.kind=4 then qAh n.text else q n.text
theorem scal_saysQ {q:BA→List Int} (hq:QOK q) {t:BA} {n:Eng.Node} {a:Nat} (hn:n.text.size≤3000000) (hp:pB n=true) (hk:n.kind<6) (h:Has t a (scQ q n)) (hA:Stop (bAt t ((a+(scQ q n).length:Nat):Int))) :
  qCx t a=.ok (a+(scQ q n).length) (qBo ⟨#[]⟩ [n])∧bAt t (a:Int)≠91∧bAt t (a:Int)≠123∧qAz t a=a:=by
 obtain ⟨kd,key,text,whole,int,kids⟩:=n;rcases pB_inv hn hp with ⟨h4,hkd,hr,hw,hi⟩ | ⟨h5,hkd,hw,hi,hv⟩ | ⟨h1,hkd,hw,hi,ht⟩ | ⟨h6,_⟩
 ·have e:scQ q ⟨kd,key,text,whole,int,kids⟩=qAh text:=by
   have h4:kd=4:=h4;unfold scQ;rw [h4];rfl
  rw [e] at h hA ⊢;rw [qAp] at hA ⊢;have hnum:=numR_says hr h hA;have hf:=readOk_first hr;have hf0:=has_at h (i:=0) hf.1;rw [Nat.add_zero] at hf0;have hf2:=hf.2;rw [show (0:Int)=((0:Nat):Int) from rfl,←hf0] at hf2;have hle:=h.le;rw [qAp] at hle;refine ⟨?_,by omega,by omega,qFh (by omega)⟩;unfold qCx;rw [if_neg (by omega),if_pos hf2,hnum];have hx:t.extract a (a+text.size)=text:=by
   have e1:qAh (t.extract a (a+text.size))=qAh text:=by
    rw [bytesL_ext];refine List.ext_getElem ?_ fun i g1 g2=>?_
    ·rw [List.length_drop,List.length_take,qAp,qAp];omega
    ·rw [qAp] at g2;have q1:=qDg (s:=t) (i:=a+i) (by omega);rw [List.getElem?_eq_getElem (by rw [qAp]; omega),snJ] at q1;have q2:=qDg (s:=text) (i:=i) g2;rw [List.getElem?_eq_getElem (by rw [qAp]; exact g2),snJ] at q2;rw [List.getElem_drop,List.getElem_take,q1,q2];exact has_at h g2
   have:=congrArg qA4 e1;rwa [bytesI_of,bytesI_of] at this
  dsimp only;rw [hx];have h4:kd=4:=h4;have hkd:kids=0:=hkd;have hw:whole=_:=hw;have hi:int=_:=hi;rw [h4,hkd,hw,hi];rfl
 ·have h5:kd=5:=h5;have e:scQ q ⟨kd,key,text,whole,int,kids⟩=q text:=by
   unfold scQ;rw [h5];rfl
  rw [e] at h hA ⊢;obtain ⟨q1,q2⟩:=hq text t a hv h;refine ⟨?_,by omega,by omega,qFh (by omega)⟩;unfold qCx;rw [if_pos q1,q2];dsimp only;have hkd:kids=0:=hkd;have hw:whole=false:=hw;have hi:int=0:=hi;rw [bytesI_of,h5,hkd,hw,hi];rfl
 ·obtain rfl:kids=0:=hkd;obtain rfl:whole=false:=hw;obtain rfl:int=0:=hi;obtain rfl:text=⟨#[]⟩:=ht;rcases h1 with h1 | h1 | h1
  ·obtain rfl:kd=1:=h1;have hl:litR t [110,117,108,108] a=.ok (a+4) ():=litR_says (t:=t) h;have h0:bAt t (a:Int)=110:=h.1;refine ⟨?_,by rw [h0]; decide,by rw [h0]; decide,qFh (by rw [h0]; decide)⟩;unfold qCx;rw [h0,if_neg (by decide),if_neg (by decide),if_pos rfl,hl];rfl
  ·obtain rfl:kd=2:=h1;have hl:litR t [102,97,108,115,101] a=.ok (a+5) ():=litR_says (t:=t) h;have h0:bAt t (a:Int)=102:=h.1;refine ⟨?_,by rw [h0]; decide,by rw [h0]; decide,qFh (by rw [h0]; decide)⟩;unfold qCx;rw [h0,if_neg (by decide),if_neg (by decide),if_neg (by decide),if_pos rfl,hl];rfl
  ·obtain rfl:kd=3:=h1;have hl:litR t [116,114,117,101] a=.ok (a+4) ():=litR_says (t:=t) h;have h0:bAt t (a:Int)=116:=h.1;refine ⟨?_,by rw [h0]; decide,by rw [h0]; decide,qFh (by rw [h0]; decide)⟩;unfold qCx;rw [h0,if_neg (by decide),if_neg (by decide),if_neg (by decide),if_neg (by decide),if_pos rfl,hl];rfl
 ·have h6:kd=6∨kd=7:=h6;have hk:kd<6:=hk;omega
theorem scal_says {t:BA} {n:Eng.Node} {a:Nat} (hn:n.text.size≤3000000) (hp:pB n=true) (hk:n.kind<6) (h:Has t a (scalL n)) (hA:After (bAt t ((a+(scalL n).length:Nat):Int))) :
  qCx t a=.ok (a+(scalL n).length) (qBo ⟨#[]⟩ [n])∧bAt t (a:Int)≠91∧bAt t (a:Int)≠123∧qAz t a=a:=scal_saysQ (q:=quoL) quoL_ok hn hp hk h hA.stop
def closeC (obj:Bool):Int:=if obj=true then 125 else 93
theorem lastC_close (obj:Bool):lastC obj=closeC obj:=by cases obj <;> rfl
def ReadsAt (v:List Eng.Node) (d:Nat):Prop:=∀(obj:Bool) (p e:Nat),oneS v d obj p=some e→∀(t:BA) (a:Nat),Has t a (qAt v d p)→After (bAt t ((a+(qAt v d p).length:Nat):Int)) →
 valR t d a=.ok (a+(qAt v d p).length) (qBo ⟨#[]⟩ (part v p e))∧qAz t a=a
theorem setKey_twice (k:BA) (l:List Eng.Node) (x:BA):qBo k (qBo x l)=qBo k l:=by cases l <;> rfl
theorem setKey_own {v:List Eng.Node} {p e:Nat} {n:Eng.Node} (h:v[p]?=some n) (he:p+1≤e):qBo (qCg v p) (part v p e)=part v p e:=by
 rw [part_cons h he];unfold qCg;rw [List.getD_eq_getElem?_getD,h];rfl
theorem sub_less {s a b m:Nat} (h:s - a<m+1) (hb:b≤s) (hab:a<b):s - b<m:=by omega
theorem lt_nest (a K Q:Nat):a<a+K+Q+1:=by omega
theorem sum_nest (a K Q X:Nat):a+K+Q+1+X=a+(K+(Q+(X+1))):=by omega
theorem kids_says {v:List Eng.Node} (hv:OkL v) {d:Nat} (hd:ReadsAt v d) {obj:Bool}:∀(k p e:Nat) (names:List BA) (t:BA) (a m k0:Nat) (acc:List Eng.Node) (first:Bool),qD1 v (oneS v d obj) obj (k+1) p names=some e →
  Has t a (qBf v (oneS v d obj) (qAt v d) obj (k+1) p true)→bAt t ((a+(qBf v (oneS v d obj) (qAt v d) obj (k+1) p true).length:Nat):Int)=closeC obj→t.size - a<m →
  rowR t (valR t d) obj m a k0 acc names=.ok (a+(qBf v (oneS v d obj) (qAt v d) obj (k+1) p true).length+1) (k0+(k+1),acc++part v p e)
 | k,p,e,names,t,a,0,k0,acc,first,hk,hh,hc,hm=>by omega
 | k,p,e,names,t,a,m+1,k0,acc,first,hk,hh,hc,hm=>by
  unfold qD1 at hk;cases ho:oneS v d obj p with
  | none=>rw [ho] at hk; cases hk
  | some e1 =>
   rw [ho] at hk;dsimp only at hk;have hle1:=qDf v d obj p e1 ho;obtain ⟨n,hn1,hn2,hn3,hn4,hn5,hn6,_⟩:=oneS_ok hv ho;split at hk
   ·cases hk
   ·rename_i hnm;have hke:=qGc (fun a e=>qDf v d obj a e) k e1 _ e hle1.2 hk;have hT:qBf v (oneS v d obj) (qAt v d) obj (k+1) p true=keyL v obj p++(qAt v d p++qBf v (oneS v d obj) (qAt v d) obj k e1 false):=by
     show qF6 true++(keyL v obj p++(qAt v d p++qBf v (oneS v d obj) (qAt v d) obj k ((oneS v d obj p).getD 0) false))=_;rw [ho];rfl
    rw [hT] at hh hc ⊢;rw [Has.append,Has.append] at hh;obtain ⟨g1,g2,g3⟩:=hh;simp only [List.length_append] at hc ⊢;generalize hK:(keyL v obj p).length=K at *
    generalize hP:(qAt v d p).length=Q at *
    have hrest:After (bAt t ((a+K+Q:Nat):Int))∧(k=0→qBf v (oneS v d obj) (qAt v d) obj k e1 false=[])∧(∀k',k=k'+1→bAt t ((a+K+Q:Nat):Int)=44∧qBf v (oneS v d obj) (qAt v d) obj k e1 false=44::qBf v (oneS v d obj) (qAt v d) obj k e1 true):=by
     cases k with
     | zero =>
      refine ⟨?_,fun _=>rfl,fun k' h=>by omega⟩;have e0:(qBf v (oneS v d obj) (qAt v d) obj 0 e1 false).length=0:=rfl;rw [e0,show a+(K+(Q+0))=a+K+Q by omega] at hc;rw [hc];cases obj
      ·exact .inr (.inr (.inl rfl))
      ·exact .inr (.inr (.inr rfl))
     | succ k' =>
      have e0:qBf v (oneS v d obj) (qAt v d) obj (k'+1) e1 false=44::qBf v (oneS v d obj) (qAt v d) obj (k'+1) e1 true:=rfl;rw [e0] at g3;have h44:bAt t ((a+K+Q:Nat):Int)=44:=g3.1;exact ⟨.inr (.inl h44),fun h=>by omega,fun k'' _=>⟨h44,e0⟩⟩
    obtain ⟨hAft,hk0,hk1⟩:=hrest;have hle2:=g3.le;have hitem:qEl t (valR t d) obj names a=.ok (a+K+Q) (bif obj then qCg v p else ⟨#[]⟩,part v p e1):=by
     cases obj with
     | false =>
      have e0:keyL v false p=[]:=rfl;have hK0:K=0:=by rw [←hK,e0]; rfl
      subst hK0;obtain ⟨r1,r2⟩:=hd false p e1 ho t a (by simpa using g2) (by rw [hP]; simpa using hAft);unfold qEl;rw [if_neg (by decide),r1,hP];dsimp only;have hkey:n.key=⟨#[]⟩:=by
       unfold okB at hn5;simp only [Bool.and_eq_true,Bool.or_eq_true,decide_eq_true_eq,Bool.false_eq_true,false_or] at hn5;exact hn5.2
      have hs:qBo ⟨#[]⟩ (part v p e1)=part v p e1:=by
       rw [part_cons hn1 (by omega)];show (⟨n.kind,⟨#[]⟩,n.text,n.whole,n.int,n.kids⟩:Eng.Node)::_=n::_;rw [←hkey]
      rw [hs];rfl
     | true =>
      have e0:keyL v true p=quoL (qCg v p)++[58]:=rfl;rw [e0,Has.append] at g1;have hkk:qCg v p=n.key:=by unfold qCg; rw [List.getD_eq_getElem?_getD,hn1]; rfl
      have hval:Lib.validD (qCg v p).data.toList=true:=by
       unfold okB at hn5;simp only [Bool.and_eq_true] at hn5;rw [hkk];exact hn5.1.2
      obtain ⟨q1,q2⟩:=quoL_ok (qCg v p) t a hval g1.1;have hKl:K=(quoL (qCg v p)).length+1:=by rw [←hK,e0,List.length_append]; rfl
      have h58:bAt t ((a+(quoL (qCg v p)).length:Nat):Int)=58:=g1.2.1;obtain ⟨r1,r2⟩:=hd true p e1 ho t (a+K) g2 (by rw [hP]; exact hAft);unfold qEl;rw [if_pos rfl,if_pos q1,q2];dsimp only;rw [bytesI_of,if_neg (fun hm=>hnm ⟨rfl,hm⟩),qFh (a:=a+(quoL (qCg v p)).length) (by rw [h58]; decide),if_pos h58,show a+(quoL (qCg v p)).length+1=a+K by omega,r2,r1,hP];dsimp only;rw [setKey_twice,setKey_own hn1 (by omega)];rfl
    unfold rowR;rw [hitem];dsimp only;rw [hAft.skip];have hpart:=part_app v (p:=p) (m:=e1) (e:=e) (by omega) (by omega);have hlc:=lastC_close obj;have hnc:closeC obj≠44:=by cases obj <;> decide
    cases k with
    | zero =>
     have hk0:=hk0 rfl;have he:e=e1:=by cases hk; rfl
     rw [hk0] at hc ⊢;rw [show a+(K+(Q+([]:List Int).length))=a+K+Q by simp; omega] at hc ⊢;rw [hlc,if_pos hc,he]
    | succ k' =>
     obtain ⟨h44,hcm⟩:=hk1 k' rfl;rw [hcm] at g3 hc ⊢;rw [hlc,if_neg (by rw [h44]; exact fun h=>hnc h.symm),if_pos h44];have hnext:∃n2,v[e1]?=some n2:=by
      cases hx:v[e1]? with
      | none =>
       exfalso;have:=List.getElem?_eq_none_iff.1 hx;omega
      | some n2=>exact ⟨n2,rfl⟩
     have g3':=g3.2;have hsk:qAz t (a+K+Q+1)=a+K+Q+1:=by
      unfold qD1 at hk;cases ho2:oneS v d obj e1 with
      | none=>rw [ho2] at hk; cases hk
      | some e2 =>
       have hT2:qBf v (oneS v d obj) (qAt v d) obj (k'+1) e1 true=keyL v obj e1++(qAt v d e1++qBf v (oneS v d obj) (qAt v d) obj k' e2 false):=by
        show qF6 true++(keyL v obj e1++(qAt v d e1++qBf v (oneS v d obj) (qAt v d) obj k' ((oneS v d obj e1).getD 0) false))=_;rw [ho2];rfl
       rw [hT2,Has.append] at g3';cases obj with
       | true =>
        have h34:bAt t ((a+K+Q+1:Nat):Int)=34:=g3'.1.1;exact qFh (by rw [h34]; decide)
       | false =>
        have g4:=g3'.2;rw [Has.append] at g4;have hA2:After (bAt t ((a+K+Q+1+0+(qAt v d e1).length:Nat):Int)):=by
         have g5:=g4.2;cases k' with
         | zero =>
          have:(qBf v (oneS v d false) (qAt v d) false (0+1) e1 true).length=(qAt v d e1).length:=by
           rw [hT2];show ([]++(qAt v d e1++[])).length=_;simp
          simp only [List.length_cons] at hc;rw [this,show a+(K+(Q+((qAt v d e1).length+1)))=a+K+Q+1+0+(qAt v d e1).length by omega] at hc;exact .inr (.inr (.inl hc))
         | succ k''=>exact .inr (.inl g5.1)
        exact (hd false e1 e2 ho2 t (a+K+Q+1+0) g4.1 hA2).2
     rw [hsk];have hfirst:(bif obj then qCg v p else ⟨#[]⟩:BA)=(bif obj then qCg v p else ⟨#[]⟩):=rfl;have hnames:qD1 v (oneS v d obj) obj (k'+1) e1 (names++[bif obj then qCg v p else ⟨#[]⟩])=some e:=by
      cases obj with
      | true=>exact hk
      | false =>
       have indep:∀(k p:Nat) (n1 n2:List BA),qD1 v (oneS v d false) false k p n1=qD1 v (oneS v d false) false k p n2:=by
        intro k;induction k with
        | zero=>intro p n1 n2; rfl
        | succ k ih =>
         intro p n1 n2;unfold qD1;cases oneS v d false p with
         | none=>rfl
         | some e =>
          dsimp only;rw [if_neg (by simp),if_neg (by simp)];exact ih _ _ _
       rw [indep _ _ _ (names++[qCg v p])];exact hk
     have ih:=kids_says hv hd k' e1 e (names++[bif obj then qCg v p else ⟨#[]⟩]) t (a+K+Q+1) m (k0+1) (acc++part v p e1) false hnames g3' (by
      rw [List.length_cons] at hc;rw [sum_nest];exact hc) (sub_less hm (Nat.le_trans (Nat.le_add_right _ _) g3'.le) (lt_nest a K Q))
     rw [ih,hpart,List.length_cons,List.append_assoc];congr 1
     ·omega
     ·rw [show k0+1+(k'+1)=k0+(k'+1+1) by omega]
theorem reads_all {v:List Eng.Node} (hv:OkL v):∀d:Nat,ReadsAt v d
 | 0=>fun obj p e ho t a hh hA=>by
  obtain ⟨n,hn1,hn2,hn3,hn4,hn5,hn6,_⟩:=oneS_ok hv ho;unfold oneS at ho;rw [hn1] at ho;dsimp only at ho;split at ho
  ·rename_i hc;cases ho;have e0:qAt v 0 p=scalL n:=by
    show scalL (v.getD p _)=_;rw [hn4]
   rw [e0] at hh hA ⊢;obtain ⟨r1,r2,r3,r4⟩:=scal_says (hv.2 n hn2).text hn6 hc.2 hh hA;refine ⟨?_,r4⟩;unfold valR;rw [if_neg (fun h=>h.elim r2 r3),r1,part_one hn1]
  ·cases ho
 | d+1=>fun obj p e ho t a hh hA=>by
  obtain ⟨n,hn1,hn2,hn3,hn4,hn5,hn6,_⟩:=oneS_ok hv ho;unfold oneS at ho;rw [hn1] at ho;dsimp only at ho;rw [if_pos hn5] at ho;by_cases hk6:n.kind<6
  ·have e0:qAt v (d+1) p=scalL n:=by
    unfold qAt;rw [hn4,if_pos hk6]
   rw [e0] at hh hA ⊢;obtain ⟨r1,r2,r3,r4⟩:=scal_says (hv.2 n hn2).text hn6 hk6 hh hA;have hkid:n.kids=0:=by
    rcases pB_inv (hv.2 n hn2).text hn6 with h | h | h | h <;> omega
   rw [hkid] at ho;cases ho;refine ⟨?_,r4⟩;unfold valR;rw [if_neg (fun h=>h.elim r2 r3),r1,part_one hn1]
  ·rcases pB_inv (hv.2 n hn2).text hn6 with h | h | h | ⟨h67,hk0,hw,hi,ht⟩
   ·omega
   ·omega
   ·omega
   ·have e0:qAt v (d+1) p=(if n.kind=7 then 123 else 91)::(qBf v (oneS v d (decide (n.kind=7))) (qAt v d) (decide (n.kind=7)) n.kids.toNat (p+1) true++[if n.kind=7 then 125 else 93]):=by
     unfold qAt;rw [hn4,if_neg hk6]
    rw [e0] at hh hA ⊢;generalize hob:decide (n.kind=7)=ob at *
    have hop:(if n.kind=7 then 123 else 91:Int)=if ob=true then 123 else 91:=by rw [←hob]; simp
    have hcl:(if n.kind=7 then 125 else 93:Int)=closeC ob:=by unfold closeC; rw [←hob]; simp
    have hkc:n.kind=qB7 ob:=by
     unfold qB7;rw [←hob];rcases h67 with h | h <;> rw [h] <;> rfl
    rw [hop,hcl] at hh hA ⊢;obtain ⟨g1,g2⟩:=hh;rw [Has.append] at g2;obtain ⟨g3,g4⟩:=g2;have hclose:=g4.1;have hbr:bAt t (a:Int)=91∨bAt t (a:Int)=123:=by rw [g1]; cases ob <;> simp
    have hobj:decide (bAt t (a:Int)=123)=ob:=by rw [g1]; cases ob <;> rfl
    refine ⟨?_,qFh (by omega)⟩;unfold valR;rw [if_pos hbr,hobj];unfold boxR;have hnode:∀m:Nat,n.kids=(m:Int)→nd0 (qB7 ob) ⟨#[]⟩ false 0 (m:Int)=⟨n.kind,⟨#[]⟩,n.text,n.whole,n.int,n.kids⟩:=fun m hm=>by
     rw [←hkc,hm,hw,hi,ht];rfl
    cases hkn:n.kids.toNat with
    | zero =>
     rw [hkn] at ho hclose;cases ho;have e1:qBf v (oneS v d ob) (qAt v d) ob 0 (p+1) true=[]:=rfl;rw [e1] at hclose ⊢;have hclose:bAt t ((a+1:Nat):Int)=closeC ob:=hclose;have hs1:qAz t (a+1)=a+1:=qFh (by rw [hclose]; cases ob <;> decide)
     rw [hs1,lastC_close,if_pos hclose,part_one hn1];show Rd.ok (a+1+1) _=Rd.ok (a+2) _;congr 1
     show [nd0 _ _ _ _ ((0:Nat):Int)]=_;rw [hnode 0 (by omega)];rfl
    | succ k =>
     rw [hkn] at ho hclose g3;have hlen:=g3.le;have hs1:qAz t (a+1)=a+1:=by
      unfold qD1 at ho;cases ho2:oneS v d ob (p+1) with
      | none=>rw [ho2] at ho; cases ho
      | some e2 =>
       have hT2:qBf v (oneS v d ob) (qAt v d) ob (k+1) (p+1) true=keyL v ob (p+1)++(qAt v d (p+1)++qBf v (oneS v d ob) (qAt v d) ob k e2 false):=by
        show qF6 true++(keyL v ob (p+1)++(qAt v d (p+1)++qBf v (oneS v d ob) (qAt v d) ob k ((oneS v d ob (p+1)).getD 0) false))=_;rw [ho2];rfl
       rw [hT2,Has.append] at g3;cases ob with
       | true =>
        have h34:bAt t ((a+1:Nat):Int)=34:=g3.1.1;exact qFh (by rw [h34]; decide)
       | false =>
        have g5:=g3.2;rw [Has.append] at g5;have hA2:After (bAt t ((a+1+0+(qAt v d (p+1)).length:Nat):Int)):=by
         cases k with
         | zero =>
          have:(qBf v (oneS v d false) (qAt v d) false (0+1) (p+1) true).length=(qAt v d (p+1)).length:=by
           rw [hT2];show ([]++(qAt v d (p+1)++[])).length=_;simp
          rw [this] at hclose;rw [show a+1+0+(qAt v d (p+1)).length=a+1+(qAt v d (p+1)).length by omega,hclose];exact .inr (.inr (.inl rfl))
         | succ k''=>exact .inr (.inl g5.2.1)
        exact (reads_all hv d false (p+1) e2 ho2 t (a+1+0) g5.1 hA2).2
     have hnl:¬bAt t ((a+1:Nat):Int)=lastC ob:=by
      unfold qD1 at ho;cases ho2:oneS v d ob (p+1) with
      | none=>rw [ho2] at ho; cases ho
      | some e2 =>
       have hT2:qBf v (oneS v d ob) (qAt v d) ob (k+1) (p+1) true=keyL v ob (p+1)++(qAt v d (p+1)++qBf v (oneS v d ob) (qAt v d) ob k e2 false):=by
        show qF6 true++(keyL v ob (p+1)++(qAt v d (p+1)++qBf v (oneS v d ob) (qAt v d) ob k ((oneS v d ob (p+1)).getD 0) false))=_;rw [ho2];rfl
       have g6:=g3;rw [hT2,Has.append] at g6;cases ob with
       | true =>
        have h34:bAt t ((a+1:Nat):Int)=34:=g6.1.1;rw [h34];decide
       | false =>
        have g5:=g6.2;rw [Has.append] at g5;have hA2:After (bAt t ((a+1+0+(qAt v d (p+1)).length:Nat):Int)):=by
         cases k with
         | zero =>
          have:(qBf v (oneS v d false) (qAt v d) false (0+1) (p+1) true).length=(qAt v d (p+1)).length:=by
           rw [hT2];show ([]++(qAt v d (p+1)++[])).length=_;simp
          rw [this] at hclose;rw [show a+1+0+(qAt v d (p+1)).length=a+1+(qAt v d (p+1)).length by omega,hclose];exact .inr (.inr (.inl rfl))
         | succ k''=>exact .inr (.inl g5.2.1)
        have hr:=(reads_all hv d false (p+1) e2 ho2 t (a+1+0) g5.1 hA2).1;intro h93;have h93:bAt t ((a+1+0:Nat):Int)=93:=h93;have:∀d,valR t d (a+1+0)=.bad 31 (a+1+0):=fun d=>by
         have hs:qCx t (a+1+0)=.bad 31 (a+1+0):=by
          unfold qCx;rw [h93];rfl
         cases d with
         | zero=>unfold valR; rw [h93,if_neg (by decide),hs]
         | succ d=>unfold valR; rw [h93,if_neg (by decide),hs]
        rw [this] at hr;cases hr
     rw [hs1,if_neg hnl];have ih:=kids_says hv (reads_all hv d) k (p+1) e [] t (a+1) (t.size+1) 0 [] true ho g3 hclose (by omega);rw [ih];dsimp only;have hke:=qGc (fun a e=>qDf v d ob a e) (k+1) (p+1) _ e (by omega) ho;rw [part_cons hn1 (by omega),List.nil_append];congr 1
     ·simp only [List.length_cons,List.length_append,List.length_nil];omega
     ·show nd0 _ _ _ _ ((0+(k+1):Nat):Int)::_=_;rw [hnode (0+(k+1)) (by omega)];rfl
theorem print_back {v:List Eng.Node} (hv:OkL v) (hs:oneS v 32 false 0=some v.length) {t:BA} (ht:qAh t=qAt v 32 0) (hsz:t.size≤262144):parseR t=(v,0,0):=by
 have hall:=has_all t;rw [ht] at hall;have hlen:(qAt v 32 0).length=t.size:=by rw [←ht,qAp]
 obtain ⟨h1,h2⟩:=reads_all hv 32 false 0 v.length hs t 0 hall (.inl (qBt (by rw [hlen]; omega)));obtain ⟨n,hn1,hn2,hn3,hn4,hn5,hn6,_⟩:=oneS_ok hv hs;have hkey:n.key=⟨#[]⟩:=by
  unfold okB at hn5;simp only [Bool.and_eq_true,Bool.or_eq_true,decide_eq_true_eq,Bool.false_eq_true,false_or] at hn5;exact hn5.2
 have hpart:part v 0 v.length=v:=by unfold part; simp
 have hkk:qBo ⟨#[]⟩ v=v:=by
  have h0:=setKey_own hn1 (e:=v.length) (by omega);rw [hpart] at h0;have:qCg v 0=⟨#[]⟩:=by unfold qCg; rw [hn4,hkey]
  rw [this] at h0;exact h0
 rw [hpart,hkk,hlen,Nat.zero_add] at h1;unfold parseR;rw [if_neg (by omega)];unfold readR;rw [h2,h1];dsimp only;have hsk:qAz t t.size=t.size:=by
  have:=qA7 t t.size (Nat.le_refl _);have:=qBp t t.size;omega
 rw [hsk,if_neg (by omega)];rfl
end Go.Proofs.YtnifdcmeffnpaaaDoor
