/-
  Values in other spellings, with blanks: they are read as the same values. No program.
-/
import Derived.Test.YtdcoiccdbgcpaaaDoorPBack
namespace Go.Proofs.YtdcoiccdbgcpaaaDoor
open Go.Eng
set_option linter.unusedVariables false
set_option linter.unusedSimpArgs false
theorem escL_app (x y:List Int):escL (x++y)=escL x++escL y:=by unfold escL; rw [List.flatMap_append]
theorem escB_high {c:Int} (h:32≤c) (h1:c≠34) (h2:c≠92):escB c=[c]:=by
 unfold escB;rw [if_neg (by omega),if_neg (by omega),if_neg (by omega),if_neg (by omega),if_neg (by omega),if_neg (by omega),if_neg (by omega)]
theorem escL_high:∀ {l:List Int},(∀x∈l,128≤x)→(escL l).length=l.length
 | [],_=>rfl
 | c::l,h=>by
  show (escB c++escL l).length=_;have:=h c List.mem_cons_self;rw [escB_high (by omega) (by omega) (by omega),List.length_append,escL_high fun x hx=>h x (List.mem_cons_of_mem _ hx)];simp only [List.length_cons,List.length_nil];omega
theorem escL_utf {u:Int} (h:Code u):(escL (utfL u)).length≤6∧((u=34∨u=92∨u=47∨u=8∨u=12∨u=10∨u=13∨u=9)→(escL (utfL u)).length≤2):=by
 unfold Code at h;by_cases h1:u<128
 ·rw [utfL_one h1];have e:escL [u]=escB u:=by show escB u++[]=_; rw [List.append_nil]
  rw [e];refine ⟨(escB_len u).2,fun hu=>?_⟩;rcases hu with rfl | rfl | rfl | rfl | rfl | rfl | rfl | rfl <;> decide
 ·have hl:=utfL_len u;rw [escL_high (by
   intro x hx;unfold utfL at hx;rw [if_neg h1] at hx;repeat' split at hx
   all_goals
    simp only [List.mem_cons,List.not_mem_nil,or_false] at hx;omega)]
  exact ⟨by omega,fun hu=>by omega⟩
theorem saidS_cases {c:Int} (h:0≤qGh c):qGh c=34∨qGh c=92∨qGh c=47∨qGh c=8∨qGh c=12∨qGh c=10∨qGh c=13∨qGh c=9:=by
 unfold qGh at h ⊢;repeat' split
 all_goals omega
theorem escR_short {t:BA} {a b:Nat} {u:Int} (h:escR t a=.ok b u):(escL (utfL u)).length≤b - a:=by
 have hok:=qDx h;have hl:=escL_utf hok.2.2;unfold escR at h;split at h
 ·cases h
 ·split at h
  ·split at h
   ·cases h
   ·rename_i b' u' hf;have h4:=fourR_ok hf;split at h
    ·cases h;omega
    ·unfold qG1 at h;repeat' split at h
     all_goals first | (cases h; done) | skip
     rename_i hw;have h6:=fourR_ok hw;cases h;omega
  ·split at h
   ·cases h
   ·cases h;have:=hl.2 (saidS_cases (by omega));omega
theorem bytesL_seq_high {t:BA} {a:Nat} (ha:a<t.size) (h8:128≤by8 t a) (hk:seqK t a=0):∀x∈qAk (t.extract a (a+seqW t a)),128≤x:=by
 intro x hx;have hw:=qC1 ha h8 hk;obtain ⟨i,hi,rfl⟩:=List.getElem_of_mem hx;rw [qAw,ByteArray.size_extract] at hi;have h1:=qD9 (s:=t.extract a (a+seqW t a)) (i:=i) (by rw [ByteArray.size_extract]; omega);rw [List.getElem?_eq_getElem (by rw [qAw,ByteArray.size_extract]; omega),snJ] at h1;rw [h1,qDh t a _ (i:Int) (by omega) (by omega)];have h2:=seq_high ha h8 hk i (by omega);have h3:=qCu (t:=t) (i:=a+i) (by omega);rw [show (a:Int)+(i:Int)=((a+i:Nat):Int) by omega];omega
theorem qEa {t:BA}:∀ {n a b:Nat} {acc l:List Int},quoR t n a acc=.ok b l→(escL l).length+1≤(escL acc).length+(b - a)
 | 0,a,b,acc,l,h=>by cases h
 | n+1,a,b,acc,l,h=>by
  unfold quoR at h;split at h
  ·cases h
  ·rename_i h0;have ha:=qAi (t:=t) (a:=a) (by omega);split at h
   ·cases h;omega
   ·split at h
    ·split at h
     ·cases h
     ·rename_i b' u he;have h1:=qDx he;have h2:=escR_short he;have hr:b'≤b:=by
       have:=qEa h;by_cases hb:b'≤b
       ·exact hb
       ·exfalso;rw [show b - b'=0 by omega] at this;have hle:(escL (acc++utfL u)).length≤(escL l).length:=quoR_grow h;omega
      have:=qEa h;rw [escL_app,List.length_append] at this;omega
    ·split at h
     ·have hr:a+1≤b:=by
       have:=qEa h;by_cases hb:a+1≤b
       ·exact hb
       ·exfalso;rw [show b - (a+1)=0 by omega] at this;have hle:=quoR_grow h;omega
      have:=qEa h;rw [escL_app,List.length_append,show escL [bAt t (a:Int)]=escB (bAt t (a:Int)) by show escB _++[]=_; rw [List.append_nil],escB_high (by omega) (by omega) (by omega)] at this;simp only [List.length_cons,List.length_nil] at this;omega
     ·split at h
      ·rename_i hk;have h8:128≤by8 t a:=by have:=qCu ha; omega
       have hw:=qC1 ha h8 hk;have hr:a+seqW t a≤b:=by
        have:=qEa h;by_cases hb:a+seqW t a≤b
        ·exact hb
        ·exfalso;rw [show b - (a+seqW t a)=0 by omega] at this;have hle:=quoR_grow h;omega
       have:=qEa h;rw [escL_app,List.length_append,escL_high (bytesL_seq_high ha h8 hk),qAw,ByteArray.size_extract] at this;omega
      ·cases h
where
 quoR_grow {t:BA}:∀ {n a b:Nat} {acc l:List Int},quoR t n a acc=.ok b l→(escL acc).length≤(escL l).length
 | 0,a,b,acc,l,h=>by cases h
 | n+1,a,b,acc,l,h=>by
  unfold quoR at h;split at h
  ·cases h
  ·split at h
   ·cases h;exact Nat.le_refl _
   ·split at h
    ·split at h
     ·cases h
     ·have:=quoR_grow h;rw [escL_app,List.length_append] at this;omega
    ·split at h
     ·have:=quoR_grow h;rw [escL_app,List.length_append] at this;omega
     ·split at h
      ·have:=quoR_grow h;rw [escL_app,List.length_append] at this;omega
      ·cases h
def pC (n:Eng.Node):Bool :=
 (decide (n.kind=4) && decide (n.kids=0) && qDl n.text && (n.whole == (qCk n.text).2) && decide (n.int=(qCk n.text).1)) ||
 (decide (n.kind=5) && decide (n.kids=0) && !n.whole && decide (n.int=0) && Lib.validD n.text.data.toList) ||
 ((decide (n.kind=1) || decide (n.kind=2) || decide (n.kind=3)) && decide (n.kids=0) && !n.whole && decide (n.int=0) && decide (n.text=⟨#[]⟩)) ||
 ((decide (n.kind=6) || decide (n.kind=7)) && decide (0≤n.kids) && !n.whole && decide (n.int=0) && decide (n.text=⟨#[]⟩))
theorem pB_C {n:Eng.Node} (hn:n.text.size≤3000000):pB n=pC n:=by
 rw [Bool.eq_iff_iff];unfold pC;simp only [Bool.or_eq_true,Bool.and_eq_true,decide_eq_true_eq,beq_iff_eq,Bool.not_eq_true'];constructor
 ·intro h;rcases pB_inv hn h with ⟨a,b,c,d,e⟩ | ⟨a,b,c,d,e⟩ | ⟨a,b,c,d,e⟩ | ⟨a,b,c,d,e⟩
  ·exact .inl (.inl (.inl ⟨⟨⟨⟨a,b⟩,c⟩,d⟩,e⟩))
  ·exact .inl (.inl (.inr ⟨⟨⟨⟨a,b⟩,c⟩,d⟩,e⟩))
  ·exact .inl (.inr ⟨⟨⟨⟨by omega,b⟩,c⟩,d⟩,e⟩)
  ·exact .inr ⟨⟨⟨⟨a,b⟩,c⟩,d⟩,e⟩
 ·rintro (((h | h) | h) | h)
  ·exact pB_num hn h.1.1.1.1 h.1.1.1.2 h.1.1.2 h.1.2 h.2
  ·exact pB_str hn h.1.1.1.1 h.1.1.1.2 h.1.1.2 h.1.2 h.2
  ·exact pB_bare (by omega) h.1.1.1.2 h.1.1.2 h.1.2 h.2
  ·exact pB_box h.1.1.1.1 h.1.1.1.2 h.1.1.2 h.1.2 h.2
def okC (obj:Bool) (n:Eng.Node):Bool:=pC n && Lib.validD n.key.data.toList && (obj || decide (n.key=(⟨#[]⟩:BA)))
def kidsC (v:List Eng.Node) (one:Nat→Option Nat) (obj:Bool):Nat→Nat→List BA→Option Nat
 | 0,a,_=>some a
 | k+1,a,names=>match one a with
  | none=>none
  | some e=>if obj=true∧keyAt v a∈names then none else kidsC v one obj k e (names++[keyAt v a])
def oneC (v:List Eng.Node):Nat→Bool→Nat→Option Nat
 | 0,obj,a=>match v[a]? with
  | none=>none
  | some n=>if okC obj n=true∧n.kind<6 then some (a+1) else none
 | d+1,obj,a=>match v[a]? with
  | none=>none
  | some n=>if okC obj n=true then kidsC v (oneC v d (decide (n.kind=7))) (decide (n.kind=7)) n.kids.toNat (a+1) [] else none
theorem kidsS_C {v:List Eng.Node} {one one':Nat→Option Nat} {obj:Bool} (h:∀a,one a=one' a):∀(k a:Nat) (names:List BA),kidsS v one obj k a names=kidsC v one' obj k a names
 | 0,a,names=>rfl
 | k+1,a,names=>by
  unfold kidsS kidsC;rw [h a];cases one' a with
  | none=>rfl
  | some e =>
   dsimp only;rw [kidsS_C h k e]
theorem oneS_C {v:List Eng.Node} (hv:OkL v):∀(d:Nat) (obj:Bool) (a:Nat),oneS v d obj a=oneC v d obj a
 | 0,obj,a=>by
  unfold oneS oneC;cases hn:v[a]? with
  | none=>rfl
  | some n =>
   dsimp only;have:okB obj n=okC obj n:=by unfold okB okC; rw [pB_C (hv.2 n (List.mem_of_getElem? hn)).text]
   rw [this]
 | d+1,obj,a=>by
  unfold oneS oneC;cases hn:v[a]? with
  | none=>rfl
  | some n =>
   dsimp only;have:okB obj n=okC obj n:=by unfold okB okC; rw [pB_C (hv.2 n (List.mem_of_getElem? hn)).text]
   rw [this,kidsS_C (fun a=>oneS_C hv d _ a)]
def prKidsC (v:List Eng.Node) (one:Nat→Option Nat) (pr:Nat→List Int) (obj:Bool):Nat→Nat→Bool→List Int
 | 0,_,_=>[]
 | k+1,a,first=>commaL first++(keyL v obj a++(pr a++prKidsC v one pr obj k ((one a).getD 0) false))
def prC (v:List Eng.Node):Nat→Nat→List Int
 | 0,a=>scalL (v.getD a (ET.dft .node))
 | d+1,a =>
  if (v.getD a (ET.dft .node)).kind<6 then scalL (v.getD a (ET.dft .node))
  else (if (v.getD a (ET.dft .node)).kind=7 then 123 else 91)::(prKidsC v (oneC v d (decide ((v.getD a (ET.dft .node)).kind=7))) (prC v d) (decide ((v.getD a (ET.dft .node)).kind=7)) (v.getD a (ET.dft .node)).kids.toNat (a+1) true++[if (v.getD a (ET.dft .node)).kind=7 then 125 else 93])
theorem prKids_C {v:List Eng.Node} {one one':Nat→Option Nat} {pr pr':Nat→List Int} {obj:Bool} (h:∀a,one a=one' a) (hp:∀a,pr a=pr' a):∀(k a:Nat) (first:Bool),prKids v one pr obj k a first=prKidsC v one' pr' obj k a first
 | 0,a,first=>rfl
 | k+1,a,first=>by
  unfold prKids prKidsC;rw [h a,hp a,prKids_C h hp k]
theorem prOne_C {v:List Eng.Node} (hv:OkL v):∀(d a:Nat),qE0 v d a=prC v d a
 | 0,a=>rfl
 | d+1,a=>by
  unfold qE0 prC;rw [prKids_C (fun a=>oneS_C hv d _ a) (fun a=>prOne_C hv d a)]
theorem p_Print {v:List Eng.Node} (hv:OkL v):zak_s v=some (if oneS v 32 false 0=some v.length then (if 262144<(qE0 v 32 0).length then ((⟨#[]⟩:BA),10) else (qAr (qE0 v 32 0),0)) else (⟨#[]⟩,31)):=by
 have hlen:=hv.1;unfold zak_s;rw [prog_Shaped hv,obS];by_cases hsh:oneS v 32 false 0=some v.length
 ·rw [deT hsh,Bool.not_true,cnF,if_pos hsh];have hsp:zbj_s (⟨false,[]⟩:qHd) v 0=some (⟨true,[]++qE0 v 32 0⟩,(v.length:Int)):=evt_eq (N:=33) fun n hn=>by
   have:=sp_all hv 32 false 0 v.length n hsh (by omega) false [] (by show 0+_≤_; omega);rwa [show ((0:Nat):Int)=0 from rfl] at this
  rw [hsp,obS,List.nil_append];unfold zbp_s;rw [obS];dsimp only;by_cases hbig:262144<(qE0 v 32 0).length
  ·rw [deT (show (262144:Int)<((qE0 v 32 0).length:Int) by omega),cnT,if_pos hbig]
  ·rw [deF (show ¬(262144:Int)<((qE0 v 32 0).length:Int) by omega),cnF,if_neg hbig];have hne:=prOne_some hv hsh;have hpos:0<(qE0 v 32 0).length:=List.length_pos_iff.2 hne;have:zbq_s ⟨true,qE0 v 32 0⟩=some (⟨true,[]⟩,qAr (qE0 v 32 0)):=by
    unfold zbq_s;refine (qAa hpos _).trans ?_;exact (qAa ⟨rfl,hpos,prOne_range v 32 0⟩ _).trans rfl
   rw [this,obS]
 ·rw [deF hsh,Bool.not_false,cnT,if_neg hsh]
structure Agree (t u:BA) (N:Nat):Prop where
 lt:N≤t.size
 lu:N≤u.size
 same:∀i:Nat,i<N→bAt t (i:Int)=bAt u (i:Int)
def FTold (t:BA) (N:Nat) (c:Int) (b:Nat):Prop:=(c=31→b<N)∧(c≠31→N=t.size)
theorem FTold.lt {t:BA} {N b:Nat} (h:FTold t N 31 b):b<N:=h.1 rfl
def OKto (u:BA) (N b:Nat):Prop:=b<N∨(b=N∧Stop (bAt u (b:Int)))
section
variable {t u:BA} {N:Nat}
theorem OKto.le {b:Nat} (h:OKto u N b):b≤N:=by unfold OKto at h; omega
theorem OKto.down {b c:Nat} (h:OKto u N b) (hc:c≤b):OKto u N c:=by
 rcases h with h | ⟨h1,h2⟩
 ·exact .inl (by omega)
 ·rcases Nat.lt_or_ge c b with h3 | h3
  ·exact .inl (by omega)
  ·obtain rfl:c=b:=by omega
   exact .inr ⟨h1,h2⟩
theorem stop_dig {c:Int} {i:Int} {u:BA} (h:Stop (bAt u i)):digS u i=false:=by
 unfold Stop at h;unfold digS;rw [←Bool.not_eq_true,Bool.and_eq_true,decide_eq_true_eq,decide_eq_true_eq];exact h.1
theorem Agree.by8 (ag:Agree t u N) {i:Nat} (h:i<N):by8 t i=by8 u i:=by
 have h1:=ag.lt;have h2:=ag.lu;have:=ag.same i h;rw [qCu (by omega),qCu (by omega)] at this;omega
theorem Agree.ext (ag:Agree t u N) {a b:Nat} (h:b≤N):t.extract a b=u.extract a b:=by
 have h1:=ag.lt;have h2:=ag.lu;have e:qAk (t.extract a b)=qAk (u.extract a b):=by
  refine List.ext_getElem ?_ fun i g1 g2=>?_
  ·rw [qAw,qAw,ByteArray.size_extract,ByteArray.size_extract];omega
  ·rw [qAw,ByteArray.size_extract] at g1 g2;have q1:=qD9 (s:=t.extract a b) (i:=i) (by rw [ByteArray.size_extract]; exact g1);rw [List.getElem?_eq_getElem (by rw [qAw,ByteArray.size_extract]; exact g1),snJ] at q1;have q2:=qD9 (s:=u.extract a b) (i:=i) (by rw [ByteArray.size_extract]; exact g2);rw [List.getElem?_eq_getElem (by rw [qAw,ByteArray.size_extract]; exact g2),snJ] at q2;rw [q1,q2,qDh t a b (i:Int) (by omega) (by omega),qDh u a b (i:Int) (by omega) (by omega),show (a:Int)+(i:Int)=((a+i:Nat):Int) by omega];exact ag.same _ (by omega)
 have:=congrArg qAr e;rwa [bytesI_of,bytesI_of] at this
theorem Agree.dig (ag:Agree t u N) {i:Nat} (h:i<N):digS t (i:Int)=digS u (i:Int):=by
 unfold digS;rw [ag.same i h]
theorem Agree.many (ag:Agree t u N):∀(n a:Nat),N - a≤n→OKto u N (qDn t a)→qDn u a=qDn t a
 | 0,a,h1,h2=>by
  have:=qDd t a;have hl:=h2.le;have e:qDn t a=a:=by omega
  rw [e] at h2 ⊢;rcases h2 with h2 | h2
  ·omega
  ·exact qDa (stop_dig (c:=0) h2.2)
 | n+1,a,h1,h2=>by
  have hge:=qDd t a;have hl:=h2.le;rcases Nat.lt_or_ge a N with ha | ha
  ·by_cases hd:digS t (a:Int)=true
   ·rw [qCv hd] at h2 ⊢;rw [qCv ((ag.dig ha).symm.trans hd)];exact ag.many n (a+1) (by omega) h2
   ·have hd:digS t (a:Int)=false:=by simpa using hd
    rw [qDa hd,qDa ((ag.dig ha).symm.trans hd)]
  ·exact ag.many 0 a (by omega) h2
theorem Agree.skip (ag:Agree t u N):∀(n a:Nat),N - a≤n→qAm t a<N→qAm u a=qAm t a
 | 0,a,h1,h2=>by have:=qAy t a; omega
 | n+1,a,h1,h2=>by
  have hge:=qAy t a;have hs:=ag.same a (by omega);by_cases hd:qBf (bAt t a)=true
  ·rw [qEz hd] at h2 ⊢;rw [qEz (by rw [←hs]; exact hd)];exact ag.skip n (a+1) (by omega) h2
  ·have hd:qBf (bAt t a)=false:=by simpa using hd
   rw [qDc hd,qDc (by rw [←hs]; exact hd)]
def Likes {α:Type} (t u:BA) (N a:Nat) (f g:Rd α):Prop:=(∀b x,f=.ok b x→OKto u N b→g=.ok b x)∧(∀c b,f=.bad c b→FTold t N c b→a<N∧g=.bad c b)
def LikesE {α:Type} (t:BA) (N a:Nat) (f g:Rd α):Prop:=(∀b x,f=.ok b x→b≤N→g=.ok b x)∧(∀c b,f=.bad c b→FTold t N c b→a<N∧g=.bad c b)
theorem qGr (ag:Agree t u N) (a:Nat):Likes t u N a (digR t a) (digR u a):=by
 have hm:=ag.many (N - a) a (Nat.le_refl _);constructor
 ·intro b x h hb;unfold digR at h ⊢;split at h
  ·cases h
  ·rename_i h1;cases h;rw [hm hb,if_neg h1]
 ·intro c b h hT;unfold digR at h ⊢;split at h
  ·rename_i h1;cases h;have:=hT.lt;rw [hm (by rw [h1]; exact .inl this),if_pos h1];exact ⟨this,rfl⟩
  ·cases h
theorem litR_like (ag:Agree t u N):∀(w:List Int) (a:Nat),(∀c∈w,0≤c)→(∀b x,litR t w a=.ok b x→b≤N→litR u w a=.ok b x)∧(∀c b,litR t w a=.bad c b→FTold t N c b→a<N∧litR u w a=.bad c b)
 | [],a,_=>⟨fun b x h _=>h,fun c b h=>by cases h⟩
 | c::w,a,hw=>by
  obtain ⟨i1,i2⟩:=litR_like ag w (a+1) (fun c hc=>hw c (List.mem_cons_of_mem _ hc));constructor
  ·intro b x h hb;have hadv:=(litR_adv hw h).1;rw [List.length_cons] at hadv;unfold litR at h ⊢;rw [←ag.same a (by omega)];split at h
   ·rename_i h1;rw [if_pos h1];exact i1 b x h hb
   ·cases h
  ·intro c' b h hT;unfold litR at h ⊢;split at h
   ·rename_i h1;have h2:=i2 c' b h hT;rw [←ag.same a (by omega),if_pos h1];exact ⟨by omega,h2.2⟩
   ·rename_i h1;cases h;have:=hT.lt;rw [←ag.same a this,if_neg h1];exact ⟨this,rfl⟩
theorem qGs {half:Bool} {f:Nat}:∀ {m i a b:Nat} {v x:Int},qBt t half f m i a v=.ok b x→b=a+m
 | 0,i,a,b,v,x,h=>by cases h; rfl
 | m+1,i,a,b,v,x,h=>by
  unfold qBt at h;split at h
  ·cases h
  ·split at h
   ·cases h
   ·have:=qGs h;omega
theorem qCy (ag:Agree t u N) (half:Bool) (f:Nat):∀(m i a:Nat) (v:Int),(∀b x,qBt t half f m i a v=.ok b x→b≤N→qBt u half f m i a v=.ok b x)∧(∀c b,qBt t half f m i a v=.bad c b→FTold t N c b→a<N∧qBt u half f m i a v=.bad c b)
 | 0,i,a,v=>⟨fun b x h _=>h,fun c b h=>by cases h⟩
 | m+1,i,a,v=>by
  have hlt:=ag.lt;constructor
  ·intro b x h hb;have he:=qGs h;unfold qBt at h ⊢;rw [←ag.same a (by omega)];split at h
   ·cases h
   ·rename_i h1;rw [if_neg h1];split at h
    ·cases h
    ·rename_i h2;rw [if_neg h2];exact (qCy ag half f m (i+1) (a+1) _).1 b x h hb
  ·intro c b h hT;unfold qBt at h ⊢;split at h
   ·cases h;have:=hT.lt;omega
   ·rename_i h1;have hal:=qAi (t:=t) (a:=a) (by omega);split at h
    ·rename_i h2;cases h;have hN:=hT.2 (by decide);rw [←ag.same a (by omega),if_neg h1,if_pos h2];exact ⟨by omega,rfl⟩
    ·rename_i h2;have h3:=(qCy ag half f m (i+1) (a+1) _).2 c b h hT;rw [←ag.same a (by omega),if_neg h1,if_neg h2];exact ⟨by omega,h3.2⟩
theorem pairR_like (ag:Agree t u N) (f a:Nat) (v:Int):LikesE t N a (qG1 t f a v) (qG1 u f a v):=by
 have hlt:=ag.lt;constructor
 ·intro b x h hb;unfold qG1 at h ⊢;split at h
  ·cases h
  ·rename_i h1;split at h
   ·cases h
   ·rename_i h2;split at h
    ·cases h
    ·rename_i h3;split at h
     ·cases h
     ·rename_i h4;split at h
      ·cases h
      ·rename_i b1 w h5;have he:=qGs h5;cases h;rw [←ag.same a (by omega),←ag.same (a+1) (by omega),if_neg h1,if_neg h2,if_neg h3,if_neg h4,(qCy ag true f 4 0 (a+2) 0).1 _ _ h5 hb]
 ·intro c b h hT;unfold qG1 at h ⊢;split at h
  ·cases h;have:=hT.lt;omega
  ·rename_i h1;have hal:=qAi (t:=t) (a:=a) (by omega);split at h
   ·rename_i h2;cases h;have hN:=hT.2 (by decide);rw [←ag.same a (by omega),if_neg h1,if_pos h2];exact ⟨by omega,rfl⟩
   ·rename_i h2;split at h
    ·cases h;have:=hT.lt;omega
    ·rename_i h3;have hal2:=qAi (t:=t) (a:=a+1) (by omega);split at h
     ·rename_i h4;cases h;have hN:=hT.2 (by decide);rw [←ag.same a (by omega),←ag.same (a+1) (by omega),if_neg h1,if_neg h2,if_neg h3,if_pos h4];exact ⟨by omega,rfl⟩
     ·rename_i h4;split at h
      ·rename_i h5;cases h;have h6:=(qCy ag true f 4 0 (a+2) 0).2 _ _ h5 hT;rw [←ag.same a (by omega),←ag.same (a+1) (by omega),if_neg h1,if_neg h2,if_neg h3,if_neg h4,h6.2];exact ⟨by omega,rfl⟩
      ·cases h
theorem escR_like (ag:Agree t u N) (a:Nat):LikesE t N a (escR t a) (escR u a):=by
 have hlt:=ag.lt;constructor
 ·intro b x h hb;have hok:=qDx h;unfold escR at h ⊢;split at h
  ·cases h
  ·rename_i h1;split at h
   ·rename_i h2;split at h
    ·cases h
    ·rename_i b1 v h3;have he:=qGs h3;split at h
     ·rename_i h4;cases h;rw [←ag.same (a+1) (by omega),if_neg h1,if_pos h2,(qCy ag false a 4 0 (a+2) 0).1 _ _ h3 hb];dsimp only;rw [if_pos h4]
     ·rename_i h4;have hp:=(pairR_like ag a b1 v).1 b x h hb;have hbb:b1≤b:=by
       unfold qG1 at h;repeat' split at h
       all_goals first | (cases h; done) | skip
       rename_i h5;have:=qGs h5;cases h;omega
      rw [←ag.same (a+1) (by omega),if_neg h1,if_pos h2,(qCy ag false a 4 0 (a+2) 0).1 _ _ h3 (by omega)];dsimp only;rw [if_neg h4];exact hp
   ·rename_i h2;split at h
    ·cases h
    ·rename_i h3;cases h;rw [←ag.same (a+1) (by omega),if_neg h1,if_neg h2,if_neg h3]
 ·intro c b h hT;unfold escR at h ⊢;split at h
  ·cases h;have:=hT.lt;omega
  ·rename_i h1;have hal:=qAi (t:=t) (a:=a+1) (by omega);split at h
   ·rename_i h2;split at h
    ·rename_i h3;cases h;have h4:=(qCy ag false a 4 0 (a+2) 0).2 _ _ h3 hT;rw [←ag.same (a+1) (by omega),if_neg h1,if_pos h2,h4.2];exact ⟨by omega,rfl⟩
    ·rename_i b1 v h3;have he:=qGs h3;split at h
     ·cases h
     ·rename_i h4;have hp:=(pairR_like ag a b1 v).2 c b h hT;rw [←ag.same (a+1) (by omega),if_neg h1,if_pos h2,(qCy ag false a 4 0 (a+2) 0).1 _ _ h3 (by omega)];dsimp only;rw [if_neg h4];exact ⟨by omega,hp.2⟩
   ·rename_i h2;split at h
    ·rename_i h3;cases h;have hN:=hT.2 (by decide);rw [←ag.same (a+1) (by omega),if_neg h1,if_neg h2,if_pos h3];exact ⟨by omega,rfl⟩
    ·cases h
theorem contN_bad {n n':Nat} {b b':Nat→Nat} (hn:n≤n') (hb:∀k,k<n→b' k=b k):∀ {m i lo hi:Nat},qEk n b m i lo hi=32→qEk n' b' m i lo hi=32
 | 0,i,lo,hi,h=>by cases h
 | m+1,i,lo,hi,h=>by
  unfold qEk at h ⊢;split at h
  ·cases h
  ·rename_i h1;rw [if_neg (by omega),hb i (by omega)];split at h
   ·rename_i h2;rw [if_pos h2]
   ·rename_i h2;rw [if_neg h2];exact contN_bad hn hb h
theorem seqK_bad (ag:Agree t u t.size) {a:Nat} (ha:a<t.size) (h:seqK t a=32):seqK u a=32:=by
 have hu:=ag.lu;unfold seqK at h ⊢;rw [←ag.by8 ha];split at h
 ·rename_i h1;rw [if_pos h1]
 ·rename_i h1;rw [if_neg h1];exact contN_bad (by omega) (fun k hk=>(ag.by8 (by omega)).symm) h
theorem qFc {t:BA}:∀ {n a b:Nat} {acc l:List Int},quoR t n a acc=.ok b l→a<b
| 0,a,b,acc,l,h=>by cases h
| n+1,a,b,acc,l,h=>by
 unfold quoR at h;split at h
 ·cases h
 ·rename_i h0;have ha:=qAi (t:=t) (a:=a) (by omega);split at h
  ·cases h;omega
  ·split at h
   ·split at h
    ·cases h
    ·rename_i he;have h1:=qDx he;have h2:=qFc h;omega
   ·split at h
    ·have h2:=qFc h;omega
    ·split at h
     ·rename_i hk;have hw:=qC1 ha (by have:=qCu ha; omega) hk;have h2:=qFc h;omega
     ·cases h
theorem Agree.refl (h:N≤t.size):Agree t t N:=⟨h,h,fun i hi=>rfl⟩
theorem quoR_start (hN:N≤t.size):∀(n a:Nat) (acc:List Int) (c:Int) (b:Nat),t.size - a<n→quoR t n a acc=.bad c b→FTold t N c b→a<N
 | 0,a,acc,c,b,h1,_,_=>by omega
 | n+1,a,acc,c,b,hn,h,hT=>by
  unfold quoR at h;split at h
  ·cases h;exact hT.lt
  ·rename_i h1;have hal:=qAi (t:=t) (a:=a) (by omega);split at h
   ·cases h
   ·split at h
    ·split at h
     ·rename_i h4;cases h;exact ((escR_like (Agree.refl hN) a).2 _ _ h4 hT).1
     ·rename_i h4;have h5:=qDx h4;have:=quoR_start hN n _ _ _ _ (by omega) h hT;omega
    ·split at h
     ·have:=quoR_start hN n _ _ _ _ (by omega) h hT;omega
     ·split at h
      ·rename_i hk;have hw:=qC1 hal (by have:=qCu hal; omega) hk;have:=quoR_start hN n _ _ _ _ (by omega) h hT;omega
      ·rename_i hk;cases h;rcases qG3 t a with h0 | h0 | h0
       ·exact (hk h0).elim
       ·rw [h0,if_pos rfl] at hT;have:=hT.lt;omega
       ·rw [h0] at hT;have:=hT.2 (by decide);omega
theorem qCl (ag:Agree t u N):∀(n n' a:Nat) (acc:List Int),t.size - a<n→u.size - a<n'→LikesE t N a (quoR t n a acc) (quoR u n' a acc)
 | 0,n',a,acc,h1,_=>by omega
 | n+1,0,a,acc,_,h2=>by omega
 | n+1,n'+1,a,acc,hn,hn'=>by
  have hlt:=ag.lt;constructor
  ·intro b x h hb;have hlu':=ag.lu;have hadv:a<b:=by
    clear hn hn';unfold quoR at h;split at h
    ·cases h
    ·rename_i h0;have ha:=qAi (t:=t) (a:=a) (by omega);split at h
     ·cases h; omega
     ·split at h
      ·split at h
       ·cases h
       ·rename_i he;have:=qDx he;have:=qFc h;omega
      ·split at h
       ·have:=qFc h; omega
       ·split at h
        ·rename_i hk;have hw:=qC1 ha (by have:=qCu ha; omega) hk;have:=qFc h;omega
        ·cases h
   unfold quoR at h ⊢;rw [←ag.same a (by omega)];split at h
   ·cases h
   ·rename_i h1;have hal:=qAi (t:=t) (a:=a) (by omega);rw [if_neg h1];split at h
    ·rename_i h2;rw [if_pos h2];exact h
    ·rename_i h2;rw [if_neg h2];split at h
     ·rename_i h3;rw [if_pos h3];split at h
      ·cases h
      ·rename_i b1 v h4;have h5:=qDx h4;have h6:=qFc h;rw [(escR_like ag a).1 _ _ h4 (by omega)];exact (qCl ag n n' b1 _ (by omega) (by omega)).1 b x h hb
     ·rename_i h3;rw [if_neg h3];split at h
      ·rename_i h4;rw [if_pos h4];exact (qCl ag n n' (a+1) _ (by omega) (by omega)).1 b x h hb
      ·rename_i h4;rw [if_neg h4];split at h
       ·rename_i hk;have h8:128≤by8 t a:=by have:=qCu hal; omega
        have hw:=qC1 hal h8 hk;have h6:=qFc h;have hlu:=ag.lu;obtain ⟨k1,k2⟩:=seqK_ext (s:=u) (b:=a) hal h8 hk (fun k hk=>(ag.by8 (by omega)).symm) (by omega);rw [if_pos k1,k2,←ag.ext (by omega)];exact (qCl ag n n' _ _ (by omega) (by omega)).1 b x h hb
       ·cases h
  ·intro c b h hT;have hstart:=quoR_start hlt (n+1) a acc c b hn h hT;have hlu':=ag.lu;unfold quoR at h ⊢;split at h
   ·rename_i h1;cases h;have:=hT.lt;rw [←ag.same a this,if_pos h1];exact ⟨this,rfl⟩
   ·rename_i h1;have hal:=qAi (t:=t) (a:=a) (by omega);split at h
    ·cases h
    ·rename_i h2;split at h
     ·rename_i h3;split at h
      ·rename_i h4;cases h;have h5:=(escR_like ag a).2 _ _ h4 hT;rw [←ag.same a h5.1,if_neg h1,if_neg h2,if_pos h3,h5.2];exact ⟨h5.1,rfl⟩
      ·rename_i b1 v h4;have h5:=qDx h4;have h6:=(qCl ag n n' b1 _ (by omega) (by omega)).2 c b h hT;rw [←ag.same a (by omega),if_neg h1,if_neg h2,if_pos h3,(escR_like ag a).1 _ _ h4 (by omega)];exact ⟨by omega,h6.2⟩
     ·rename_i h3;split at h
      ·rename_i h4;have h6:=(qCl ag n n' (a+1) _ (by omega) (by omega)).2 c b h hT;rw [←ag.same a (by omega),if_neg h1,if_neg h2,if_neg h3,if_pos h4];exact ⟨by omega,h6.2⟩
      ·rename_i h4;have h8:128≤by8 t a:=by have:=qCu hal; omega
       split at h
       ·rename_i hk;have hw:=qC1 hal h8 hk;have hlu:=ag.lu;have h6:=(qCl ag n n' (a+seqW t a) _ (by omega) (by omega)).2 c b h hT;obtain ⟨k1,k2⟩:=seqK_ext (s:=u) (b:=a) hal h8 hk (fun k hk=>(ag.by8 (by omega)).symm) (by omega);rw [←ag.same a (by omega),if_neg h1,if_neg h2,if_neg h3,if_neg h4,if_pos k1,k2,←ag.ext (by omega)];exact ⟨by omega,h6.2⟩
       ·rename_i hk;cases h;rcases qG3 t a with h0 | h0 | h0
        ·exact (hk h0).elim
        ·rw [h0,if_pos rfl] at hT;have:=hT.lt;omega
        ·rw [h0,if_neg (show ¬(32:Int)=31 by decide)] at hT ⊢;have hN:=hT.2 (by decide);subst hN;have hu:=seqK_bad ag hal h0;rw [←ag.same a hal,if_neg h1,if_neg h2,if_neg h3,if_neg h4,hu,if_neg (show ¬(32:Int)=0 by decide),if_neg (show ¬(32:Int)=31 by decide)];exact ⟨hal,rfl⟩
theorem qFe (ag:Agree t u N) (a:Nat):Likes t u N a (qGj t a) (qGj u a):=by
 constructor
 ·intro b x h hb;have hbN:=hb.le;unfold qGj at h ⊢;split at h
  ·rename_i h1;cases h;rw [←ag.same a (by omega),if_pos h1]
  ·rename_i h1;have hab:a<b:=by
    unfold digR at h;have:=qDd t a;split at h
    ·cases h
    ·cases h; omega
   rw [←ag.same a (by omega),if_neg h1];exact (qGr ag a).1 b x h hb
 ·intro c b h hT;unfold qGj at h ⊢;split at h
  ·cases h
  ·rename_i h1;have:=(qGr ag a).2 c b h hT;rw [←ag.same a this.1,if_neg h1];exact this
theorem dotR_like (ag:Agree t u N) (a:Nat):Likes t u N a (dotR t a) (dotR u a):=by
 constructor
 ·intro b x h hb;have hbN:=hb.le;unfold dotR at h ⊢;split at h
  ·rename_i h1;have hab:a+1≤b:=by
    unfold digR at h;have:=qDd t (a+1);split at h
    ·cases h
    ·cases h; exact this
   rw [←ag.same a (by omega),if_pos h1];exact (qGr ag (a+1)).1 b x h hb
  ·rename_i h1;cases h;rcases hb with hb | hb
   ·rw [←ag.same a hb,if_neg h1]
   ·rw [if_neg hb.2.2.1]
 ·intro c b h hT;unfold dotR at h ⊢;split at h
  ·rename_i h1;have:=(qGr ag (a+1)).2 c b h hT;rw [←ag.same a (by omega),if_pos h1];exact ⟨by omega,this.2⟩
  ·cases h
theorem powR_like (ag:Agree t u N) (a:Nat):Likes t u N a (powR t a) (powR u a):=by
 constructor
 ·intro b x h hb;have hbN:=hb.le;unfold powR at h ⊢;split at h
  ·rename_i h1;have hab:a+1<b:=by
    have dg:∀p,digR t p=.ok b x→p<b:=fun p h=>by
     unfold digR at h;have:=qDd t p;split at h
     ·cases h
     ·cases h; omega
    have:=dg _ h;split at this <;> omega
   rw [←ag.same a (by omega),if_pos h1,←ag.same (a+1) (by omega)];exact (qGr ag _).1 b x h hb
  ·rename_i h1;cases h;rcases hb with hb | hb
   ·rw [←ag.same a hb,if_neg h1]
   ·rw [if_neg (fun h=>h.elim hb.2.2.2.1 hb.2.2.2.2)]
 ·intro c b h hT;unfold powR at h ⊢;split at h
  ·rename_i h1;have:=(qGr ag _).2 c b h hT;have hp:a+1<N:=by
    have h2:=this.1;split at h2 <;> omega
   rw [←ag.same a (by omega),if_pos h1,←ag.same (a+1) hp];exact ⟨by omega,this.2⟩
  ·cases h
theorem numR_like (ag:Agree t u N) {a:Nat} (ha:a<t.size):Likes t u N a (numR t a) (numR u a):=by
 have hs:a≤qDq t a∧qDq t a≤t.size:=by unfold qDq; split <;> omega
 have hsg:a<N→qDq u a=qDq t a:=fun h=>by unfold qDq; rw [ag.same a h]
 constructor
 ·intro b x h hb;have hbN:=hb.le;unfold numR at h ⊢;split at h
  ·cases h
  ·rename_i b1 x1 h1;have z1:=qFp hs.2 h1;split at h
   ·cases h
   ·rename_i b2 x2 h2;have z2:=dotR_adv z1.2 h2;have z3:=powR_adv z2.2 h;rw [hsg (by omega),(qFe ag _).1 _ _ h1 (hb.down (by omega))];dsimp only;rw [(dotR_like ag _).1 _ _ h2 (hb.down (by omega))];exact (powR_like ag _).1 b x h hb
 ·intro c b h hT;unfold numR at h ⊢;split at h
  ·rename_i h1;cases h;have h2:=(qFe ag _).2 _ _ h1 hT;rw [hsg (by omega),h2.2];exact ⟨by omega,rfl⟩
  ·rename_i b1 x1 h1;have z1:=qFp hs.2 h1;split at h
   ·rename_i h2;cases h;have h3:=(dotR_like ag _).2 _ _ h2 hT;rw [hsg (by omega),(qFe ag _).1 _ _ h1 (.inl h3.1)];dsimp only;rw [h3.2];exact ⟨by omega,rfl⟩
   ·rename_i b2 x2 h2;have z2:=dotR_adv z1.2 h2;have h3:=(powR_like ag _).2 _ _ h hT;rw [hsg (by omega),(qFe ag _).1 _ _ h1 (.inl (by omega))];dsimp only;rw [(dotR_like ag _).1 _ _ h2 (.inl h3.1)];exact ⟨by omega,h3.2⟩
theorem scalR_like (ag:Agree t u N) (a:Nat):Likes t u N a (qCa t a) (qCa u a):=by
 have hlt:=ag.lt;have lit:∀(w:List Int) (n:Eng.Node),w≠[]→(∀c∈w,0≤c) →
   (∀b x,(match litR t w a with | .bad c b=>Rd.bad c b | .ok b _=>Rd.ok b [n])=.ok b x→b≤N→(match litR u w a with | .bad c b=>Rd.bad c b | .ok b _=>Rd.ok b [n])=.ok b x∧a<N) ∧
   (∀c b,(match litR t w a with | .bad c b=>Rd.bad c b | .ok b _=>Rd.ok b [n])=.bad c b→FTold t N c b→(match litR u w a with | .bad c b=>Rd.bad c b | .ok b _=>Rd.ok b [n])=.bad c b∧a<N):=fun w n hw0 hw=>by
  constructor
  ·intro b x h hb;split at h
   ·cases h
   ·rename_i h1;have h2:=(litR_adv hw h1).1;cases h;have hw1:=List.length_pos_iff.2 hw0;rw [(litR_like ag w a hw).1 _ _ h1 (by omega)];exact ⟨rfl,by omega⟩
  ·intro c b h hT;split at h
   ·rename_i h1;cases h;have:=(litR_like ag w a hw).2 _ _ h1 hT;rw [this.2];exact ⟨rfl,this.1⟩
   ·cases h
 constructor
 ·intro b x h hb;have hbN:=hb.le;unfold qCa at h ⊢;split at h
  ·rename_i h1;split at h
   ·cases h
   ·rename_i h2;have h3:=qFc h2;cases h;have hlu:=ag.lu;rw [←ag.same a (by omega),if_pos h1,(qCl ag (t.size+1) (u.size+1) (a+1) [] (by omega) (by omega)).1 _ _ h2 (by omega)]
  ·rename_i h1;split at h
   ·rename_i hd;have hal:=qAi (t:=t) (a:=a) (by omega);split at h
    ·cases h
    ·rename_i h2;have h3:=numR_adv hal h2;cases h;rw [←ag.same a (by omega),if_neg h1,if_pos hd,(numR_like ag hal).1 _ _ h2 hb];dsimp only;rw [ag.ext (by omega)]
   ·rename_i hd;split at h
    ·rename_i h2;have:=(lit _ _ (by simp) (by decide)).1 b x h hbN;rw [←ag.same a this.2,if_neg h1,if_neg hd,if_pos h2];exact this.1
    ·rename_i h2;split at h
     ·rename_i h3;have:=(lit _ _ (by simp) (by decide)).1 b x h hbN;rw [←ag.same a this.2,if_neg h1,if_neg hd,if_neg h2,if_pos h3];exact this.1
     ·rename_i h3;split at h
      ·rename_i h4;have:=(lit _ _ (by simp) (by decide)).1 b x h hbN;rw [←ag.same a this.2,if_neg h1,if_neg hd,if_neg h2,if_neg h3,if_pos h4];exact this.1
      ·cases h
 ·intro c b h hT;unfold qCa at h ⊢;split at h
  ·rename_i h1;have hal:=qAi (t:=t) (a:=a) (by omega);split at h
   ·rename_i h2;cases h;have h3:=(qCl ag (t.size+1) (u.size+1) (a+1) [] (by omega) (by omega)).2 _ _ h2 hT;rw [←ag.same a (by omega),if_pos h1,h3.2];exact ⟨by omega,rfl⟩
   ·cases h
  ·rename_i h1;split at h
   ·rename_i hd;have hal:=qAi (t:=t) (a:=a) (by omega);split at h
    ·rename_i h2;cases h;have h3:=(numR_like ag hal).2 _ _ h2 hT;rw [←ag.same a h3.1,if_neg h1,if_pos hd,h3.2];exact ⟨h3.1,rfl⟩
    ·cases h
   ·rename_i hd;split at h
    ·rename_i h2;have:=(lit _ _ (by simp) (by decide)).2 c b h hT;rw [←ag.same a this.2,if_neg h1,if_neg hd,if_pos h2];exact ⟨this.2,this.1⟩
    ·rename_i h2;split at h
     ·rename_i h3;have:=(lit _ _ (by simp) (by decide)).2 c b h hT;rw [←ag.same a this.2,if_neg h1,if_neg hd,if_neg h2,if_pos h3];exact ⟨this.2,this.1⟩
     ·rename_i h3;split at h
      ·rename_i h4;have:=(lit _ _ (by simp) (by decide)).2 c b h hT;rw [←ag.same a this.2,if_neg h1,if_neg hd,if_neg h2,if_neg h3,if_pos h4];exact ⟨this.2,this.1⟩
      ·rename_i h4;cases h;have:=hT.lt;rw [←ag.same a this,if_neg h1,if_neg hd,if_neg h2,if_neg h3,if_neg h4];exact ⟨this,rfl⟩
theorem itemR_like (ag:Agree t u N) {vt vu:Nat→Rd (List Eng.Node)} (hv:Adv t vt) (hl:∀a,a≤t.size→Likes t u N a (vt a) (vu a)) (obj:Bool) (names:List BA) {a:Nat} (ha:a≤t.size):Likes t u N a (qCb t vt obj names a) (qCb u vu obj names a):=by
 have hlt:=ag.lt;have hlu:=ag.lu;cases obj with
 | false =>
  constructor
  ·intro b x h hb;have hbN:=hb.le;unfold qCb at h ⊢;rw [if_neg (by decide)] at h ⊢;split at h
   ·cases h
   ·rename_i h1;cases h;rw [(hl a ha).1 _ _ h1 hb]
  ·intro c b h hT;unfold qCb at h ⊢;rw [if_neg (by decide)] at h ⊢;split at h
   ·rename_i h1;cases h;have:=(hl a ha).2 _ _ h1 hT;rw [this.2];exact ⟨this.1,rfl⟩
   ·cases h
 | true =>
  constructor
  ·intro b x h hb;have hbN:=hb.le;unfold qCb at h ⊢;rw [if_pos rfl] at h ⊢;split at h
   ·rename_i h1;have hal:=qAi (t:=t) (a:=a) (by omega);split at h
    ·cases h
    ·rename_i b1 l1 h2;have h3:=qDu h2 (by simp);have k2:=qAo t b1 h3.2.1;have k1:=qAy t b1;split at h
     ·cases h
     ·rename_i hnm;split at h
      ·rename_i h4;have hsl:=qAi (t:=t) (a:=qAm t b1) (by omega);have k3:=qAy t (qAm t b1+1);have k4:=qAo t (qAm t b1+1) (by omega);split at h
       ·cases h
       ·rename_i h5;have h6:=hv _ _ _ k4 h5;cases h;rw [←ag.same a (by omega),if_pos h1,(qCl ag (t.size+1) (u.size+1) (a+1) [] (by omega) (by omega)).1 _ _ h2 (by omega)];dsimp only;rw [if_neg hnm,ag.skip _ b1 (Nat.le_refl _) (by omega),←ag.same (qAm t b1) (by omega),if_pos h4,ag.skip _ (qAm t b1+1) (Nat.le_refl _) (by omega),(hl _ k4).1 _ _ h5 hb]
      ·cases h
   ·cases h
  ·intro c b h hT;unfold qCb at h ⊢;rw [if_pos rfl] at h ⊢;split at h
   ·rename_i h1;have hal:=qAi (t:=t) (a:=a) (by omega);have hq:=qCl ag (t.size+1) (u.size+1) (a+1) [] (by omega) (by omega);split at h
    ·rename_i h2;cases h;have h3:=hq.2 _ _ h2 hT;rw [←ag.same a (by omega),if_pos h1,h3.2];exact ⟨by omega,rfl⟩
    ·rename_i b1 l1 h2;have h3:=qDu h2 (by simp);have k2:=qAo t b1 h3.2.1;have k1:=qAy t b1;split at h
     ·rename_i hnm;cases h;have hN:=hT.2 (by decide);rw [←ag.same a (by omega),if_pos h1,hq.1 _ _ h2 (by omega)];dsimp only;rw [if_pos hnm];exact ⟨by omega,rfl⟩
     ·rename_i hnm;split at h
      ·rename_i h4;have hsl:=qAi (t:=t) (a:=qAm t b1) (by omega);have k3:=qAy t (qAm t b1+1);have k4:=qAo t (qAm t b1+1) (by omega);split at h
       ·rename_i h5;cases h;have h6:=(hl _ k4).2 _ _ h5 hT;rw [←ag.same a (by omega),if_pos h1,hq.1 _ _ h2 (by omega)];dsimp only;rw [if_neg hnm,ag.skip _ b1 (Nat.le_refl _) (by omega),←ag.same (qAm t b1) (by omega),if_pos h4,ag.skip _ (qAm t b1+1) (Nat.le_refl _) (by omega),h6.2];exact ⟨by omega,rfl⟩
       ·cases h
      ·rename_i h4;cases h;have h5:=hT.lt;rw [←ag.same a (by omega),if_pos h1,hq.1 _ _ h2 (by omega)];dsimp only;rw [if_neg hnm,ag.skip _ b1 (Nat.le_refl _) (by omega),←ag.same (qAm t b1) (by omega),if_neg h4];exact ⟨by omega,rfl⟩
   ·rename_i h1;cases h;have:=hT.lt;rw [←ag.same a this,if_neg h1];exact ⟨this,rfl⟩
theorem rowR_start (ag:Agree t u N) {vt vu:Nat→Rd (List Eng.Node)} (hv:Adv t vt) (hl:∀a,a≤t.size→Likes t u N a (vt a) (vu a)) (obj:Bool):∀(m a k:Nat) (acc:List Eng.Node) (names:List BA) (c:Int) (b:Nat),a≤t.size→t.size - a<m→rowR t vt obj m a k acc names=.bad c b→FTold t N c b→a<N
 | 0,a,k,acc,names,c,b,_,h1,_,_=>by omega
 | m+1,a,k,acc,names,c,b,ha,hm,h,hT=>by
  unfold rowR at h;split at h
  ·rename_i h1;cases h;exact ((itemR_like ag hv hl obj names ha).2 _ _ h1 hT).1
  ·rename_i b1 y h1;have h2:=qEv hv ha h1;have k1:=qAy t b1;have k2:=qAo t b1 h2.2.1;split at h
   ·cases h
   ·split at h
    ·have hsl:=qAi (t:=t) (a:=qAm t b1) (by omega);have k3:=qAy t (qAm t b1+1);have k4:=qAo t (qAm t b1+1) (by omega);have:=rowR_start ag hv hl obj m _ _ _ _ _ _ k4 (by omega) h hT;omega
    ·cases h;have:=hT.lt;omega
theorem rowR_like (ag:Agree t u N) {vt vu:Nat→Rd (List Eng.Node)} (hv:Adv t vt) (hl:∀a,a≤t.size→Likes t u N a (vt a) (vu a)) (obj:Bool):∀(m m' a k:Nat) (acc:List Eng.Node) (names:List BA),a≤t.size→t.size - a<m→u.size - a<m'→Likes t u N a (rowR t vt obj m a k acc names) (rowR u vu obj m' a k acc names)
 | 0,m',a,k,acc,names,_,h1,_=>by omega
 | m+1,0,a,k,acc,names,_,_,h2=>by omega
 | m+1,m'+1,a,k,acc,names,ha,hm,hm'=>by
  have hlt:=ag.lt;have hlu:=ag.lu;have hit:=itemR_like ag hv hl obj names ha;constructor
  ·intro b x h hb;have hbN:=hb.le;unfold rowR at h ⊢;split at h
   ·cases h
   ·rename_i b1 y h1;have h2:=qEv hv ha h1;have k1:=qAy t b1;have k2:=qAo t b1 h2.2.1;split at h
    ·rename_i h3;cases h;rw [hit.1 _ _ h1 (.inl (by omega))];dsimp only;rw [ag.skip _ b1 (Nat.le_refl _) (by omega),←ag.same (qAm t b1) (by omega),if_pos h3]
    ·rename_i h3;split at h
     ·rename_i h4;have hsl:=qAi (t:=t) (a:=qAm t b1) (by omega);have k3:=qAy t (qAm t b1+1);have k4:=qAo t (qAm t b1+1) (by omega);have h5:=rowR_adv hv k4 h;rw [hit.1 _ _ h1 (.inl (by omega))];dsimp only;rw [ag.skip _ b1 (Nat.le_refl _) (by omega),←ag.same (qAm t b1) (by omega),if_neg h3,if_pos h4,ag.skip _ (qAm t b1+1) (Nat.le_refl _) (by omega)];exact (rowR_like ag hv hl obj m m' _ _ _ _ k4 (by omega) (by omega)).1 b x h hb
     ·cases h
  ·intro c b h hT;have hstart:=rowR_start ag hv hl obj (m+1) a k acc names c b ha hm h hT;unfold rowR at h ⊢;split at h
   ·rename_i h1;cases h;have:=hit.2 _ _ h1 hT;rw [this.2];exact ⟨this.1,rfl⟩
   ·rename_i b1 y h1;have h2:=qEv hv ha h1;have k1:=qAy t b1;have k2:=qAo t b1 h2.2.1;split at h
    ·cases h
    ·rename_i h3;split at h
     ·rename_i h4;have hsl:=qAi (t:=t) (a:=qAm t b1) (by omega);have k3:=qAy t (qAm t b1+1);have k4:=qAo t (qAm t b1+1) (by omega);have h5:=(rowR_like ag hv hl obj m m' _ (k+1) (acc++y.2) (names++[y.1]) k4 (by omega) (by omega)).2 c b h hT;rw [hit.1 _ _ h1 (.inl (by omega))];dsimp only;rw [ag.skip _ b1 (Nat.le_refl _) (by omega),←ag.same (qAm t b1) (by omega),if_neg h3,if_pos h4,ag.skip _ (qAm t b1+1) (Nat.le_refl _) (by omega)];exact ⟨by omega,h5.2⟩
     ·rename_i h4;cases h;have h5:=hT.lt;rw [hit.1 _ _ h1 (.inl (by omega))];dsimp only;rw [ag.skip _ b1 (Nat.le_refl _) (by omega),←ag.same (qAm t b1) (by omega),if_neg h3,if_neg h4];exact ⟨by omega,rfl⟩
theorem qG0 (ag:Agree t u N):∀d a,a≤t.size→Likes t u N a (valR t d a) (valR u d a)
 | 0,a,ha=>by
  have hsc:=scalR_like ag a;have hlt:=ag.lt;constructor
  ·intro b x h hb;have hbN:=hb.le;unfold valR at h ⊢;split at h
   ·cases h
   ·rename_i h1;have h2:=scalR_adv t a b x ha h;rw [←ag.same a (by omega),if_neg h1];exact hsc.1 b x h hb
  ·intro c b h hT;unfold valR at h ⊢;split at h
   ·rename_i h1;cases h;have hN:=hT.2 (by decide);have hal:=qAi (t:=t) (a:=a) (by omega);rw [←ag.same a (by omega),if_pos h1];exact ⟨by omega,rfl⟩
   ·rename_i h1;have:=hsc.2 c b h hT;rw [←ag.same a this.1,if_neg h1];exact this
 | d+1,a,ha=>by
  have hsc:=scalR_like ag a;have hlt:=ag.lt;have hlu:=ag.lu;constructor
  ·intro b x h hb;have hbN:=hb.le;unfold valR at h ⊢;split at h
   ·rename_i h1;have hal:=qAi (t:=t) (a:=a) (by omega);have k1:=qAy t (a+1);have k2:=qAo t (a+1) (by omega);unfold boxR at h;split at h
    ·rename_i h2;cases h;rw [←ag.same a (by omega),if_pos h1];unfold boxR;rw [ag.skip _ (a+1) (Nat.le_refl _) (by omega),←ag.same (qAm t (a+1)) (by omega),if_pos h2]
    ·rename_i h2;split at h
     ·cases h
     ·rename_i h3;have h4:=rowR_adv (qBx t d) k2 h3;have h5:=(rowR_like ag (qBx t d) (fun a ha=>qG0 ag d a ha) (decide (bAt t (a:Int)=123)) (t.size+1) (u.size+1) _ 0 [] [] k2 (by omega) (by omega)).1 _ _ h3;cases h;rw [←ag.same a (by omega),if_pos h1];unfold boxR;rw [ag.skip _ (a+1) (Nat.le_refl _) (by omega),←ag.same (qAm t (a+1)) (by omega),if_neg h2,h5 hb]
   ·rename_i h1;have h2:=scalR_adv t a b x ha h;rw [←ag.same a (by omega),if_neg h1];exact hsc.1 b x h hb
  ·intro c b h hT;unfold valR at h ⊢;split at h
   ·rename_i h1;have hal:=qAi (t:=t) (a:=a) (by omega);have k1:=qAy t (a+1);have k2:=qAo t (a+1) (by omega);unfold boxR at h;split at h
    ·cases h
    ·rename_i h2;split at h
     ·rename_i h3;cases h;have h5:=(rowR_like ag (qBx t d) (fun a ha=>qG0 ag d a ha) (decide (bAt t (a:Int)=123)) (t.size+1) (u.size+1) _ 0 [] [] k2 (by omega) (by omega)).2 _ _ h3 hT;rw [←ag.same a (by omega),if_pos h1];unfold boxR;rw [ag.skip _ (a+1) (Nat.le_refl _) (by omega),←ag.same (qAm t (a+1)) (by omega),if_neg h2,h5.2];exact ⟨by omega,rfl⟩
     ·cases h
   ·rename_i h1;have:=hsc.2 c b h hT;rw [←ag.same a this.1,if_neg h1];exact this
theorem readR_like (ag:Agree t u N) {c:Int} {b:Nat} (h:qCx t=.bad c b) (hT:FTold t N c b):qCx u=.bad c b:=by
 have hlt:=ag.lt;have hlu:=ag.lu;have k1:=qAo t 0 (by omega);unfold qCx at h ⊢;split at h
 ·rename_i h1;cases h;have h2:=(qG0 ag 32 _ k1).2 _ _ h1 hT;rw [ag.skip _ 0 (Nat.le_refl _) h2.1,h2.2]
 ·rename_i b1 l1 h1;have h2:=qBx t 32 _ _ _ k1 h1;have k2:=qAy t b1;split at h
  ·rename_i h3;cases h;have h4:=hT.lt;rw [ag.skip _ 0 (Nat.le_refl _) (by omega),(qG0 ag 32 _ k1).1 _ _ h1 (.inl (by omega))];dsimp only;rw [ag.skip _ b1 (Nat.le_refl _) h4,if_pos (by omega)]
  ·cases h
end
end Go.Proofs.YtdcoiccdbgcpaaaDoor
namespace Go.Proofs.YtdcoiccdbgcpaaaDoor
open Go.Eng
set_option linter.unusedVariables false
set_option linter.unusedSimpArgs false
set_option maxRecDepth 100000 in
theorem lead_all:∀c:Fin 256,(Lib.firstT c.val=2→194≤c.val∧c.val<224)∧(Lib.firstT c.val=19→c.val=224)∧(Lib.firstT c.val=3→225≤c.val∧c.val<240∧c.val≠237)∧(Lib.firstT c.val=35→c.val=237)∧(Lib.firstT c.val=52→c.val=240)∧(Lib.firstT c.val=4→241≤c.val∧c.val≤243)∧(Lib.firstT c.val=68→c.val=244):=by decide +kernel
def codeAt (s:BA) (p:Nat):Int :=
 if seqW s p=2 then ((by8 s p:Int) - 192)*64+((by8 s (p+1):Int) - 128)
 else if seqW s p=3 then ((by8 s p:Int) - 224)*4096+((by8 s (p+1):Int) - 128)*64+((by8 s (p+2):Int) - 128)
 else ((by8 s p:Int) - 240)*262144+((by8 s (p+1):Int) - 128)*4096+((by8 s (p+2):Int) - 128)*64+((by8 s (p+3):Int) - 128)
def cpAt (s:BA) (p:Nat):Int:=if by8 s p<128 then (by8 s p:Int) else codeAt s p
def cpW (s:BA) (p:Nat):Nat:=if by8 s p<128 then 1 else seqW s p
structure CpOK (s:BA) (p:Nat):Prop where
 code:Code (cpAt s p)
 utf:utfL (cpAt s p)=((qAk s).drop p).take (cpW s p)
 len:(utfL (cpAt s p)).length=cpW s p
 pos:1≤cpW s p
 le:p+cpW s p≤s.size
 next:Lib.validD (s.data.toList.drop (p+cpW s p))=true
 low:by8 s p<128→cpAt s p=by8 s p∧cpW s p=1
 high:128≤by8 s p→128≤cpAt s p∧seqK s p=0∧cpW s p=seqW s p∧cpAt s p=codeAt s p
structure BlOK (bl:Nat→List Int):Prop where
 is:∀i,∀c∈bl i,qBf c=true
 len:∀i,(bl i).length≤2
theorem val_close {t:BA} {d a b:Nat} {l:List Eng.Node} (h:valR t d a=.ok b l):bAt t (a:Int)≠93:=by
 intro h93;have hs:qCa t a=.bad 31 a:=by
  unfold qCa;rw [h93];rfl
 cases d with
 | zero=>unfold valR at h; rw [h93,if_neg (by decide),hs] at h; cases h
 | succ d=>unfold valR at h; rw [h93,if_neg (by decide),hs] at h; cases h
theorem row_close {t:BA} {d m a k b:Nat} {obj:Bool} {acc:List Eng.Node} {names:List BA} {x:Nat × List Eng.Node} (h:rowR t (valR t d) obj m a k acc names=.ok b x):bAt t (a:Int)≠qDo obj:=by
 cases m with
 | zero=>cases h
 | succ m =>
  unfold rowR at h;split at h
  ·cases h
  ·rename_i b1 y h1;unfold qCb at h1;cases obj with
   | true =>
    rw [if_pos rfl] at h1;split at h1
    ·rename_i h34;rw [h34];decide
    ·cases h1
   | false =>
    rw [if_neg (by decide)] at h1;split at h1
    ·cases h1
    ·rename_i h2;exact val_close h2
theorem escL_ge:∀l:List Int,l.length≤(escL l).length
 | []=>Nat.le_refl _
 | c::l=>by
  show _≤(escB c++escL l).length;have:=(escB_len c).1;have:=escL_ge l;rw [List.length_append,List.length_cons];omega
end Go.Proofs.YtdcoiccdbgcpaaaDoor
