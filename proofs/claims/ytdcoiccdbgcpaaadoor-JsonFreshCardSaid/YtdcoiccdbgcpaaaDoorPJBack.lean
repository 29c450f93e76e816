/-
  JsonBack: the plain law. No program.
-/
import Derived.Test.YtdcoiccdbgcpaaaDoorPShaped
import Derived.Test.YtdcoiccdbgcpaaaDoorJW
import Derived.Test.YtdcoiccdbgcpaaaDoorPShapeOf
import Derived.Test.YtdcoiccdbgcpaaaDoorPLexQ
import Derived.Test.YtdcoiccdbgcpaaaDoorPFind
namespace Go.Proofs.YtdcoiccdbgcpaaaDoor
open Go.Eng
set_option linter.unusedVariables false
set_option linter.unusedSimpArgs false
def hexD (n:Int):Int:=if n<10 then 48+n else 87+n
def escB (c:Int):List Int :=
 if c=34∨c=92 then [92,c] else if c=8 then [92,98] else if c=12 then [92,102] else if c=10 then [92,110] else if c=13 then [92,114] else if c=9 then [92,116]
 else if c<32 then [92,117,48,48,hexD (c / 16),hexD (c % 16)] else [c]
def escL (l:List Int):List Int:=l.flatMap escB
def quoL (s:BA):List Int:=34::(escL (qAq s)++[34])
theorem escB_len (c:Int):1≤(escB c).length∧(escB c).length≤6:=by
 unfold escB;repeat' split
 all_goals simp
theorem escL_len:∀l:List Int,(escL l).length≤6*l.length
 | []=>Nat.le_refl _
 | c::l=>by
  have h1:=escB_len c;have h2:=escL_len l;show (escB c++escL l).length≤_;simp only [List.length_append,List.length_cons];omega
theorem qCh (s:BA):(qAq s).length=s.size:=by
 simp [qAq]
theorem bytesL_get {s:BA} {i:Nat} (h:i<s.size):(qAq s)[i]?=some (bAt s i):=by
 rw [bAt_in h];unfold qAq;have h':i<s.data.toList.length:=by rw [Array.length_toList]; exact h
 rw [List.getElem?_map,List.getElem?_eq_getElem h'];rfl
theorem bytesL_drop {s:BA} {i:Nat} (h:i<s.size):(qAq s).drop i=bAt s i::(qAq s).drop (i+1):=by
 have hl:i<(qAq s).length:=by rw [qCh]; exact h
 have:=bytesL_get h;rw [List.getElem?_eq_getElem hl,snJ] at this;rw [List.drop_eq_getElem_cons hl,this]
theorem bytesL_app (a b:BA):qAq (a++b)=qAq a++qAq b:=by
 unfold qAq;rw [ByteArray.data_append,Array.toList_append,List.map_append]
theorem bytesL_ext (s:BA) (a b:Nat):qAq (s.extract a b)=((qAq s).take b).drop a:=by
 unfold qAq;rw [ByteArray.data_extract,Array.toList_extract,List.extract_eq_drop_take',List.map_drop,List.map_take]
theorem bytesL_range (s:BA):∀x∈qAq s,0≤x∧x<256:=by
 intro x hx;simp only [qAq,List.mem_map] at hx;obtain ⟨b,_,rfl⟩:=hx;have:=b.toNat_lt;omega
theorem escB_range {c:Int} (h:0≤c∧c<256):∀x∈escB c,0≤x∧x<256:=by
 unfold escB hexD;repeat' split
 all_goals intro x hx; simp at hx; omega
theorem escL_range {l:List Int} (h:∀x∈l,0≤x∧x<256):∀x∈escL l,0≤x∧x<256:=by
 intro x hx;unfold escL at hx;rw [List.mem_flatMap] at hx;obtain ⟨c,hc,hx⟩:=hx;exact escB_range (h c hc) x hx
theorem quoL_range (s:BA):∀x∈quoL s,0≤x∧x<256:=by
 intro x hx;simp only [quoL,List.mem_cons,List.mem_append,List.not_mem_nil,or_false] at hx;rcases hx with rfl | hx | rfl
 ·omega
 ·exact escL_range (bytesL_range s) x hx
 ·omega
theorem quoL_len (s:BA):(quoL s).length≤6*s.size+2:=by
 have:=escL_len (qAq s);rw [qCh] at this;simp only [quoL,List.length_cons,List.length_append,List.length_nil];omega
def hexT:BA:=⟨#[48,49,50,51,52,53,54,55,56,57,97,98,99,100,101,102]⟩
theorem p_cc (b:qG9):zbv_s b=some ⟨true,b.buf⟩:=by
 obtain ⟨a,l⟩:=b;unfold zbv_s;cases a <;> rfl
theorem p_ws (a:Bool) (buf:List Int) (s:BA) (h:buf.length+s.size≤140737488355328):zbu_s ⟨a,buf⟩ s=some (⟨true,buf++qAq s⟩,(s.size:Int),()):=by
 unfold zbu_s;rw [p_cc,obS];exact qAa h _
theorem p_wb (a:Bool) (buf:List Int) (c:Int) (h:buf.length≤140737488355000):zbt_s ⟨a,buf⟩ c=some (⟨true,buf++[c]⟩,()):=by
 unfold zbt_s;rw [p_cc,obS];exact qAa (by simp; omega) _
def escT:BA:=⟨#[8,12,10,13,9,34,92]⟩
def escU:BA:=⟨#[98,102,110,114,116,34,92]⟩
def escS (r:Int):BA:=(⟨#[92]⟩:BA)++(escU.extract (Int.toNat r) (Int.toNat (r+1)))
def escV (c:Int):BA:=((⟨#[92,117,48,48]⟩:BA)++(hexT.extract (Int.toNat (c / 16)) (Int.toNat (((c / 16)+1) % 256))))++(hexT.extract (Int.toNat (qBe .u8 c 15)) (Int.toNat (((qBe .u8 c 15)+1) % 256)))
noncomputable def escChk (c:Int):Bool :=
 match zbx_s escT c with
 | some r=>if 0≤r then decide (r+1≤7) && decide (qAq (escS r)=escB c) else
   decide (0≤qBe .u8 c 15∧qBe .u8 c 15≤((qBe .u8 c 15)+1) % 256∧((qBe .u8 c 15)+1) % 256≤16) && decide (0≤c / 16∧c / 16≤((c / 16)+1) % 256∧((c / 16)+1) % 256≤16) && decide (qAq (escV c)=escB c)
 | none=>false
set_option maxRecDepth 100000 in
theorem escChk_all:∀c:Fin 256,c.val<32∨c.val=34∨c.val=92→escChk (c.val:Int)=true:=by decide +kernel
theorem esc_run {c:Int} (h0:0≤c∧c<256) (hc:c<32∨c=34∨c=92):∃r,zbx_s escT c=some r ∧
  ((0≤r∧r+1≤7∧qAq (escS r)=escB c)∨(r<0∧(0≤qBe .u8 c 15∧qBe .u8 c 15≤((qBe .u8 c 15)+1) % 256∧((qBe .u8 c 15)+1) % 256≤16)∧(0≤c / 16∧c / 16≤((c / 16)+1) % 256∧((c / 16)+1) % 256≤16)∧qAq (escV c)=escB c)):=by
 have h:=escChk_all ⟨c.toNat,by omega⟩ (by simp only; omega);simp only at h;rw [Int.toNat_of_nonneg h0.1] at h;unfold escChk at h;cases hr:zbx_s escT c with
 | none=>rw [hr] at h; cases h
 | some r =>
  rw [hr] at h;dsimp only at h;refine ⟨r,rfl,?_⟩;by_cases h1:0≤r
  ·rw [if_pos h1,Bool.and_eq_true,decide_eq_true_eq,decide_eq_true_eq] at h;exact .inl ⟨h1,h⟩
  ·rw [if_neg h1,Bool.and_eq_true,Bool.and_eq_true,decide_eq_true_eq,decide_eq_true_eq,decide_eq_true_eq] at h;exact .inr ⟨by omega,h.1.1,h.1.2,h.2⟩
theorem qEd (a b:BA):(a++b).size=a.size+b.size:=by
 rw [ByteArray.size_append]
theorem escS_size {c r:Int} (h:qAq (escS r)=escB c):(escS r).size≤6:=by
 rw [←qCh,h];exact (escB_len c).2
theorem escV_size {c:Int} (h:qAq (escV c)=escB c):(escV c).size≤6:=by
 rw [←qCh,h];exact (escB_len c).2
theorem quo_step {s:BA} (hs:s.size≤3000000) {x f:Nat} (hx:x<s.size) (hf:f≤x) (buf:List Int) (hb:buf.length+6*(s.size - f)≤140737488355000) :
  qEa s (f:Int) (s.size:Int) (x:Int) true buf=if bAt s x<32∨bAt s x=34∨bAt s x=92 then some (.inl (((x+1:Nat):Int),((x+1:Nat):Int),true,buf++qAq (s.extract f x)++escB (bAt s x))) else some (.inl ((f:Int),((x+1:Nat):Int),true,buf)):=by
 have hr:=qFk s x;have hn:=bAt_nn (s:=s) (i:=(x:Int)) (by omega) (by omega);unfold qEa;rw [deT (by omega),cnT,qAa (by omega)];generalize bAt s (x:Int)=c at *
 have e1:(((decide ((32:Int)≤c)) && (!decide (c=(34:Int)))) && (!decide (c=(92:Int))))=!decide (c<32∨c=34∨c=92):=by
  rw [Bool.eq_iff_iff];simp only [Bool.and_eq_true,Bool.not_eq_true',decide_eq_true_eq,decide_eq_false_iff_not];omega
 rw [e1];by_cases h:c<32∨c=34∨c=92
 ·rw [deT h,Bool.not_true,cnF,if_pos h,qAa (by omega)];have hz:(s.extract f x).size=x - f:=by rw [ByteArray.size_extract]; omega
  rw [show Int.toNat (f:Int)=f from rfl,show Int.toNat (x:Int)=x from rfl,p_ws true buf _ (by omega),obS,qAa (by unfold qAe; omega)];obtain ⟨r,h1,h2⟩:=esc_run (c:=c) (by omega) h;rw [show (⟨#[8,12,10,13,9,34,92]⟩:BA)=escT from rfl,h1,obS];have hbl:(buf++qAq (s.extract f x)).length≤140737488354994:=by
   rw [List.length_append,qCh]; omega
  rcases h2 with ⟨h3,h4,h5⟩ | ⟨h3,h4,h5,h6⟩
  ·have hsz:=escS_size h5;rw [deT h3,cnT,qAa (by unfold qAe; omega),qAa ⟨h3,by omega,h4⟩];have hss:((⟨#[92]⟩:BA)++((⟨#[98,102,110,114,116,34,92]⟩:BA).extract (Int.toNat r) (Int.toNat (r+(1:Int)))))=escS r:=rfl;rw [hss,qAa (by rw [←qEd,hss]; omega),p_ws _ _ _ (by omega),obS,h5];exact qAa (by unfold qAe; omega) _
  ·have hsz:=escV_size h6;rw [deF (by omega),cnF,qAa (by omega),qAa (by omega)];refine (qAa h5 _).trans ?_;have hvv:(((⟨#[92,117,48,48]⟩:BA)++((⟨#[48,49,50,51,52,53,54,55,56,57,97,98,99,100,101,102]⟩:BA).extract (Int.toNat (c / 16)) (Int.toNat (((c / 16)+(1:Int)) % 256))))++((⟨#[48,49,50,51,52,53,54,55,56,57,97,98,99,100,101,102]⟩:BA).extract (Int.toNat (qBe .u8 c (15:Int))) (Int.toNat (((qBe .u8 c (15:Int))+(1:Int)) % 256))))=escV c:=rfl;rw [qAa (by rw [←hvv,qEd,qEd] at hsz; omega)];refine (qAa h4 _).trans ?_;rw [qAa (by rw [←qEd,hvv]; omega),hvv,p_ws _ _ _ (by omega),obS,h6];exact qAa (by unfold qAe; omega) _
 ·rw [deF h,Bool.not_false,cnT,if_neg h];exact qAa (by unfold qAe; omega) _
theorem take_snoc {s:BA} {x f:Nat} (hx:x<s.size) (hf:f≤x):((qAq s).take (x+1)).drop f=((qAq s).take x).drop f++[bAt s x]:=by
 rw [List.take_add_one,bytesL_get hx];show (_++[bAt s x]).drop f=_;rw [List.drop_append_of_le_length (by rw [List.length_take,qCh]; omega)]
theorem quo_loop {s:BA} (hs:s.size≤3000000):∀(j x f:Nat) (buf:List Int),x+j=s.size→f≤x→buf.length+6*(s.size - f)≤140737488355000 →
  ∃(f':Nat) (buf':List Int),f'≤s.size∧zap_p0 s (f:Int) (s.size:Int) (x:Int) true buf=some ((f':Int),true,buf') ∧
   buf'++qAq (s.extract f' s.size)=buf++(((qAq s).take x).drop f++escL ((qAq s).drop x))∧buf'.length+6*(s.size - f')≤buf.length+6*(s.size - f)
 | 0,x,f,buf,h,hf,hb=>by
  refine ⟨f,buf,by omega,?_,?_,Nat.le_refl _⟩
  ·unfold zap_p0;refine qAi ?_;unfold qEa;rw [deF (by simp only; omega),cnF]
  ·have hx:x=s.size:=by omega
   have hnil:(qAq s).drop x=[]:=List.drop_eq_nil_of_le (by rw [qCh]; omega);rw [bytesL_ext,hnil,hx];show _=buf++(_++[]);rw [List.append_nil]
 | j+1,x,f,buf,h,hf,hb=>by
  have hst:=quo_step hs (x:=x) (f:=f) (by omega) hf buf hb;have hd:=bytesL_drop (s:=s) (i:=x) (by omega);by_cases hc:bAt s x<32∨bAt s x=34∨bAt s x=92
  ·rw [if_pos hc] at hst;have hz:(s.extract f x).size=x - f:=by rw [ByteArray.size_extract]; omega
   have he:=escB_len (bAt s x);have hl:(buf++qAq (s.extract f x)++escB (bAt s x)).length=buf.length+(x - f)+(escB (bAt s x)).length:=by
    rw [List.length_append,List.length_append,qCh,hz]
   obtain ⟨f',buf',g1,g2,g3,g4⟩:=quo_loop hs j (x+1) (x+1) (buf++qAq (s.extract f x)++escB (bAt s x)) (by omega) (Nat.le_refl _) (by rw [hl]; omega);refine ⟨f',buf',g1,?_,?_,by rw [hl] at g4; omega⟩
   ·rw [←g2];unfold zap_p0;exact qAn hst
   ·rw [g3,hd,bytesL_ext];have:((qAq s).take (x+1)).drop (x+1)=[]:=List.drop_eq_nil_of_le (by rw [List.length_take]; omega);rw [this];show _=buf++(_++(escB (bAt s x)++escL ((qAq s).drop (x+1))));simp only [List.append_assoc,List.nil_append]
  ·rw [if_neg hc] at hst;obtain ⟨f',buf',g1,g2,g3,g4⟩:=quo_loop hs j (x+1) f buf (by omega) (by omega) hb;refine ⟨f',buf',g1,?_,?_,g4⟩
   ·rw [←g2];unfold zap_p0;exact qAn hst
   ·rw [g3,hd,take_snoc (by omega) hf];have:escB (bAt s x)=[bAt s x]:=by
     unfold escB;rw [if_neg (by omega),if_neg (by omega),if_neg (by omega),if_neg (by omega),if_neg (by omega),if_neg (by omega),if_neg (by omega)]
    show _=buf++(_++(escB (bAt s x)++escL ((qAq s).drop (x+1))));rw [this];simp only [List.append_assoc]
theorem p_quote (a:Bool) (buf:List Int) (s:BA) (hs:s.size≤3000000) (hb:buf.length≤140737450000000):zap_s ⟨a,buf⟩ s=some ⟨true,buf++quoL s⟩:=by
 obtain ⟨f',buf',g1,g2,g3,g4⟩:=quo_loop hs s.size 0 0 (buf++[34]) (by omega) (by omega) (by simp; omega);rw [show ((0:Nat):Int)=0 from rfl] at g2;unfold zap_s;rw [p_wb _ _ _ (by omega),obS,g2,obS];have hz:(s.extract f' s.size).size=s.size - f':=by rw [ByteArray.size_extract]; omega
 simp only [List.length_append,List.length_singleton] at g4;have h1:((s.extract f' s.size)++(⟨#[34]⟩:BA)).size=s.size - f'+1:=by rw [qEd,hz]; rfl
 rw [qAa (by omega)];simp only [Int.toNat_natCast];rw [qAa (by rw [←qEd,h1]; omega),p_ws _ _ _ (by rw [h1]; omega),obS,bytesL_app,←List.append_assoc,g3];simp only [List.take_zero,List.drop_nil,List.nil_append,List.drop_zero];congr 2
 show buf++[34]++escL (qAq s)++qAq ⟨#[34]⟩=buf++quoL s;rw [show qAq (⟨#[34]⟩:BA)=[34] from rfl];simp [quoL]
end Go.Proofs.YtdcoiccdbgcpaaaDoor
namespace Go.Proofs.YtdcoiccdbgcpaaaDoor
open Go.Eng
set_option linter.unusedVariables false
set_option linter.unusedSimpArgs false
inductive Spells (t s:BA):Nat→Nat→Nat→Nat→Prop
 | nil (a p:Nat):Spells t s a a p p
 | raw {a b p q:Nat}:p<s.size→bAt t (a:Int)=bAt s (p:Int)→32≤bAt s (p:Int)→bAt s (p:Int)<128→bAt s (p:Int)≠34→bAt s (p:Int)≠92→Spells t s (a+1) b (p+1) q→Spells t s a b p q
 | seq {a b p q:Nat}:p<s.size→128≤by8 s p→seqK s p=0→(∀k,k<seqW s p→by8 t (a+k)=by8 s (p+k))→a+seqW s p≤t.size→Spells t s (a+seqW s p) b (p+seqW s p) q→Spells t s a b p q
 | esc {a a' b p q:Nat} {u:Int}:bAt t (a:Int)=92→escR t a=.ok a' u→((qAq s).drop p).take (utfL u).length=utfL u→Spells t s a' b (p+(utfL u).length) q→Spells t s a b p q
theorem oneS_ok {v:List Eng.Node} (hv:OkL v) {d:Nat} {obj:Bool} {a e:Nat} (h:oneS v d obj a=some e):∃n,v[a]?=some n∧n∈v∧a<v.length∧v.getD a (ET.dft .node)=n∧okB obj n=true∧pB n=true∧0≤n.kids∧(0<n.kids→6≤n.kind)∧n.kind≤7 ∧
  ((d=0∧n.kind<6∧e=a+1)∨∃d',d=d'+1∧kidsS v (oneS v d' (decide (n.kind=7))) (decide (n.kind=7)) n.kids.toNat (a+1) []=some e):=by
 by_cases ha:a<v.length
 ·obtain ⟨n,hn,hmem,hget⟩:=nd_some ha;have hp:=(pB_both (hv.2 n hmem)).2.2;have key:okB obj n=true→pB n=true:=fun h=>by unfold okB at h; simp only [Bool.and_eq_true] at h; exact h.1.1
  cases d with
  | zero =>
   unfold oneS at h;rw [hn] at h;dsimp only at h;split at h
   ·rename_i hc;cases h;have hp:=hp (key hc.1);exact ⟨n,hn,hmem,ha,hget,hc.1,key hc.1,hp.1,hp.2.1,hp.2.2,.inl ⟨rfl,hc.2,rfl⟩⟩
   ·cases h
  | succ d =>
   unfold oneS at h;rw [hn] at h;dsimp only at h;split at h
   ·rename_i hc;have hp:=hp (key hc);exact ⟨n,hn,hmem,ha,hget,hc,key hc,hp.1,hp.2.1,hp.2.2,.inr ⟨d,rfl,h⟩⟩
   ·cases h
 ·have:=qE0 v d obj a e h;omega
def scalL (n:Eng.Node):List Int :=
 if n.kind=1 then [110,117,108,108] else if n.kind=2 then [102,97,108,115,101] else if n.kind=3 then [116,114,117,101] else if n.kind=4 then qAq n.text else quoL n.text
def keyL (v:List Eng.Node) (obj:Bool) (a:Nat):List Int:=if obj=true then quoL (keyAt v a)++[58] else []
def commaL (first:Bool):List Int:=if first=true then [] else [44]
noncomputable def prKids (v:List Eng.Node) (one:Nat→Option Nat) (pr:Nat→List Int) (obj:Bool):Nat→Nat→Bool→List Int
 | 0,_,_=>[]
 | k+1,a,first=>commaL first++(keyL v obj a++(pr a++prKids v one pr obj k ((one a).getD 0) false))
noncomputable def qEt (v:List Eng.Node):Nat→Nat→List Int
 | 0,a=>scalL (v.getD a (ET.dft .node))
 | d+1,a =>
  if (v.getD a (ET.dft .node)).kind<6 then scalL (v.getD a (ET.dft .node))
  else (if (v.getD a (ET.dft .node)).kind=7 then 123 else 91)::(prKids v (oneS v d (decide ((v.getD a (ET.dft .node)).kind=7))) (qEt v d) (decide ((v.getD a (ET.dft .node)).kind=7)) (v.getD a (ET.dft .node)).kids.toNat (a+1) true++[if (v.getD a (ET.dft .node)).kind=7 then 125 else 93])
theorem scalL_len {n:Eng.Node} (h:OkN n):(scalL n).length≤18000002:=by
 have h1:=quoL_len n.text;have h2:=qCh n.text;have h3:=h.text;unfold scalL;split
 ·simp
 split
 ·simp
 split
 ·simp
 split <;> omega
theorem scalL_range (n:Eng.Node):∀x∈scalL n,0≤x∧x<256:=by
 unfold scalL;split
 ·intro x hx; simp at hx; omega
 split
 ·intro x hx; simp at hx; omega
 split
 ·intro x hx; simp at hx; omega
 split
 ·exact bytesL_range _
 ·exact quoL_range _
theorem keyL_len {v:List Eng.Node} (hv:OkL v) (obj:Bool) {a:Nat} (ha:a<v.length):(keyL v obj a).length≤18000003:=by
 obtain ⟨n,hn,hmem,hget⟩:=nd_some ha;have h1:=quoL_len n.key;have h2:=(hv.2 n hmem).key;unfold keyL keyAt;rw [hget];split
 ·simp only [List.length_append,List.length_singleton]; omega
 ·simp
theorem kids_len {v:List Eng.Node} (hv:OkL v) {one:Nat→Option Nat} {pr:Nat→List Int} {obj:Bool} (hone:∀a e,one a=some e→a<e∧e≤v.length) (hpr:∀a e,one a=some e→(pr a).length+18000004≤40000000*(e - a)) :
  ∀(k a:Nat) (first:Bool) (names:List BA) (e:Nat),a≤v.length→kidsS v one obj k a names=some e→(prKids v one pr obj k a first).length≤40000000*(e - a)
 | 0,a,first,names,e,ha,h=>by simp [prKids]
 | k+1,a,first,names,e,ha,h=>by
  unfold kidsS at h;cases ho:one a with
  | none=>rw [ho] at h; cases h
  | some b =>
   rw [ho] at h;dsimp only at h;split at h
   ·cases h
   ·have hb:=hone a b ho;have hp:=hpr a b ho;have ih:=kids_len hv hone hpr k b false _ e hb.2 h;have hle:=kidsS_le hone k b _ e hb.2 h;have hkl:=keyL_len hv obj (a:=a) (by omega);have hcm:(commaL first).length≤1:=by unfold commaL; split <;> simp
    unfold prKids;rw [ho];simp only [List.length_append,Option.getD_some];omega
theorem prOne_len {v:List Eng.Node} (hv:OkL v):∀(d:Nat) (obj:Bool) (a e:Nat),oneS v d obj a=some e→(qEt v d a).length+18000004≤40000000*(e - a):=by
 intro d;induction d with
 | zero =>
  intro obj a e h;have hle:=qE0 v 0 obj a e h;obtain ⟨n,h1,h2,h3,h4,h5,h6,h7,h8,h9,h10⟩:=oneS_ok hv h;have:=scalL_len (hv.2 n h2);unfold qEt;rw [h4];omega
 | succ d ih =>
  intro obj a e h;have hle:=qE0 v (d+1) obj a e h;obtain ⟨n,h1,h2,h3,h4,h5,h6,h7,h8,h9,h10⟩:=oneS_ok hv h;have hs:=scalL_len (hv.2 n h2);unfold qEt;rw [h4];split
  ·omega
  ·rcases h10 with ⟨h,_⟩ | ⟨d',h,h11⟩
   ·cases h
   ·have:d'=d:=by omega
    subst this;have:=kids_len hv (qE0 v d' (decide (n.kind=7))) (fun a e=>ih _ a e) _ _ true _ _ (by omega) h11;have hle2:=kidsS_le (qE0 v d' (decide (n.kind=7))) _ _ _ _ (by omega) h11;simp only [List.length_cons,List.length_append,List.length_nil];omega
theorem sp_p2 {v:List Eng.Node} (hv:OkL v) {self:qG9→List Eng.Node→Int→Option (qG9 × Int)} {pr:Nat→List Int} {a e1:Nat} (ha:a<v.length) (kd:Int)
  (hs:∀(ad:Bool) (buf:List Int),buf.length+18000000≤120000000000000+18000004→buf.length+40000000*(e1 - a)≤120000000000000+18000004→self ⟨ad,buf⟩ v (a:Int)=some (⟨true,buf++pr a⟩,(e1:Int)))
  (ad:Bool) (buf:List Int) (hb:buf.length+40000000*(e1 - a)≤120000000000000) (he:a<e1) :
  zbk_p2 self (a:Int) ad v kd buf=some ((e1:Int),true,buf++(keyL v (decide (kd=7)) a++pr a)):=by
 have hlen:=hv.1;obtain ⟨n,hn,hmem,hget⟩:=nd_some ha;have hk:=(hv.2 n hmem).key;have hq:=quoL_len n.key;unfold zbk_p2 keyL keyAt;rw [hget];by_cases h7:kd=7
 ·rw [deT h7,cnT,if_pos rfl,qAa (by omega),qAa (by omega),qAa (by omega),Int.toNat_natCast,hget];rw [p_quote _ _ _ hk (by omega),obS,p_wb _ _ _ (by simp only [List.length_append]; omega),obS];rw [hs true (buf++quoL n.key++[58]) (by simp only [List.length_append,List.length_singleton]; omega) (by simp only [List.length_append,List.length_singleton]; omega),obS];simp only [List.append_assoc]
 ·rw [deF h7,cnF,if_neg (by decide),hs ad buf (by omega) (by omega),obS,List.nil_append]
theorem sp_p1 {v:List Eng.Node} (hv:OkL v) {self:qG9→List Eng.Node→Int→Option (qG9 × Int)} {one:Nat→Option Nat} {pr:Nat→List Int} (kd:Int) (hone:∀a e,one a=some e→a<e∧e≤v.length)
  (hpr:∀a e,one a=some e→(pr a).length+18000004≤40000000*(e - a))
  (hs:∀(a e:Nat),one a=some e→∀(ad:Bool) (buf:List Int),buf.length+40000000*(e - a)≤120000000000000+18000004→self ⟨ad,buf⟩ v (a:Int)=some (⟨true,buf++pr a⟩,(e:Int))) (K:Nat) (hK:(K:Int)≤9223372036854775807) :
  ∀(k i a:Nat) (names:List BA) (e:Nat) (buf:List Int),i+k=K→a≤v.length→kidsS v one (decide (kd=7)) k a names=some e→buf.length+40000000*(e - a)+1≤120000000000000 →
   zbk_p1 self (a:Int) (K:Int) (i:Int) true v kd buf=some ((e:Int),true,buf++prKids v one pr (decide (kd=7)) k a (decide (i=0)))
 | 0,i,a,names,e,buf,h,ha,hk,hb=>by
  cases hk;show _=some ((a:Int),true,buf++[]);rw [List.append_nil];unfold zbk_p1;refine qAi ?_;unfold qD9;dsimp only;rw [deF (by omega),cnF]
 | k+1,i,a,names,e,buf,h,ha,hk,hb=>by
  unfold kidsS at hk;cases ho:one a with
  | none=>rw [ho] at hk; cases hk
  | some b =>
   rw [ho] at hk;dsimp only at hk;split at hk
   ·cases hk
   ·have hle:=hone a b ho;have hle2:=kidsS_le hone k b _ e hle.2 hk;have hp:=hpr a b ho;have hkl:=keyL_len hv (decide (kd=7)) (a:=a) (by omega);have hst:qD9 self (a:Int) (K:Int) (i:Int) true v kd buf=some (.inl ((b:Int),((i+1:Nat):Int),true,buf++commaL (decide (i=0))++(keyL v (decide (kd=7)) a++pr a))):=by
     unfold qD9;rw [deT (by omega),cnT];by_cases hi:i=0
     ·rw [deF (by omega),cnF,sp_p2 hv (pr:=pr) (e1:=b) (by omega) kd (fun ad buf _ h2=>hs a b ho ad buf h2) true buf (by omega) hle.1,obS,deT hi];show gd _ _=some (Sum.inl ((b:Int),((i+1:Nat):Int),true,buf++[]++_));rw [List.append_nil];exact qAa (by unfold qAe; omega) _
     ·rw [deT (by omega),cnT,p_wb _ _ _ (by omega),obS,sp_p2 hv (pr:=pr) (e1:=b) (by omega) kd (fun ad buf _ h2=>hs a b ho ad buf h2) true (buf++[44]) (by simp only [List.length_append,List.length_singleton]; omega) hle.1,obS,deF hi];exact qAa (by unfold qAe; omega) _
    have hcm:(commaL (decide (i=0))).length≤1:=by unfold commaL; split <;> simp
    have ih:=sp_p1 hv kd hone hpr hs K hK k (i+1) b _ e (buf++commaL (decide (i=0))++(keyL v (decide (kd=7)) a++pr a)) (by omega) hle.2 hk (by simp only [List.length_append]; omega);rw [deF (show ¬(i+1=0) by omega)] at ih;unfold prKids;rw [ho,Option.getD_some];simp only [List.append_assoc] at ih ⊢;rw [←ih];unfold zbk_p1;rw [qAn hst];simp only [List.append_assoc]
theorem sp_all {v:List Eng.Node} (hv:OkL v):∀(d:Nat) (obj:Bool) (a e n:Nat),oneS v d obj a=some e→d<n→∀(ad:Bool) (buf:List Int),buf.length+40000000*(e - a)≤120000000000000+18000004 →
  zbk_n n ⟨ad,buf⟩ v (a:Int)=some (⟨true,buf++qEt v d a⟩,(e:Int)):=by
 have hlen:=hv.1;intro d;induction d with
 | zero =>
  intro obj a e n h hn ad buf hb;have hle:=qE0 v 0 obj a e h;obtain ⟨nd,h1,h2,h3,h4,h5,h6,h7,h8,h9,h10⟩:=oneS_ok hv h;rcases h10 with ⟨_,h11,rfl⟩ | ⟨d',h,_⟩
  ·cases n with
   | zero=>omega
   | succ n =>
    show zbk_t (zbk_n n) ⟨ad,buf⟩ v a=_;have htx:=(hv.2 nd h2).text;unfold zbk_t qEt scalL;rw [qAa (by omega),qAa (by omega),qAa (by unfold qAe; omega),Int.toNat_natCast,h4];by_cases k1:nd.kind=1
    ·rw [deT k1,cnT,if_pos k1,p_ws _ _ _ (by show _+4≤_; omega)]; rfl
    rw [deF k1,cnF,if_neg k1];by_cases k2:nd.kind=2
    ·rw [deT k2,cnT,if_pos k2,p_ws _ _ _ (by show _+5≤_; omega)]; rfl
    rw [deF k2,cnF,if_neg k2];by_cases k3:nd.kind=3
    ·rw [deT k3,cnT,if_pos k3,p_ws _ _ _ (by show _+4≤_; omega)]; rfl
    rw [deF k3,cnF,if_neg k3];by_cases k4:nd.kind=4
    ·rw [deT k4,cnT,if_pos k4,p_ws _ _ _ (by omega)]; rfl
    rw [deF k4,cnF,if_neg k4];by_cases k5:nd.kind=5
    ·rw [deT k5,cnT,p_quote _ _ _ htx (by omega)]; rfl
    have hc:((((decide (nd.kind<(1:Int))) || (decide ((7:Int)<nd.kind))) || (decide (nd.kids<(0:Int)))) || (((decide ((0:Int)<nd.kids)) && (!decide (nd.kind=(6:Int)))) && (!decide (nd.kind=(7:Int)))))=true:=by
     rw [deT (show nd.kind<1 by omega)]; rfl
    have:=pB_both (hv.2 nd h2);have hj:=this.1;rw [h6] at hj;unfold zao_s at hj;rw [hc,cnT] at hj;cases hj
  ·cases h
 | succ d ih =>
  intro obj a e n h hn ad buf hb;have hle:=qE0 v (d+1) obj a e h;obtain ⟨nd,h1,h2,h3,h4,h5,h6,h7,h8,h9,h10⟩:=oneS_ok hv h;rcases h10 with ⟨h,_⟩ | ⟨d',h,h11⟩
  ·cases h
  ·have:d'=d:=by omega
   subst this;cases n with
   | zero=>omega
   | succ n =>
    show zbk_t (zbk_n n) ⟨ad,buf⟩ v a=_;have htx:=(hv.2 nd h2).text;have hki:=(hv.2 nd h2).kids;unfold qAe at hki;unfold zbk_t qEt scalL;rw [qAa (by omega),qAa (by omega),qAa (by unfold qAe; omega),Int.toNat_natCast,h4];have hsc:nd.kind<6→e=a+1:=fun hk=>by
     rw [show nd.kids.toNat=0 by omega] at h11;cases h11;rfl
    by_cases k1:nd.kind=1
    ·rw [hsc (by omega),deT k1,cnT,if_pos (by omega),if_pos k1,p_ws _ _ _ (by show _+4≤_; omega)]; rfl
    rw [deF k1,cnF,if_neg k1];by_cases k2:nd.kind=2
    ·rw [hsc (by omega),deT k2,cnT,if_pos (by omega),if_pos k2,p_ws _ _ _ (by show _+5≤_; omega)]; rfl
    rw [deF k2,cnF,if_neg k2];by_cases k3:nd.kind=3
    ·rw [hsc (by omega),deT k3,cnT,if_pos (by omega),if_pos k3,p_ws _ _ _ (by show _+4≤_; omega)]; rfl
    rw [deF k3,cnF,if_neg k3];by_cases k4:nd.kind=4
    ·rw [hsc (by omega),deT k4,cnT,if_pos (by omega),if_pos k4,p_ws _ _ _ (by omega)]; rfl
    rw [deF k4,cnF,if_neg k4];by_cases k5:nd.kind=5
    ·rw [hsc (by omega),deT k5,cnT,if_pos (by omega),p_quote _ _ _ htx (by omega)]; rfl
    rw [deF k5,cnF];by_cases k6:nd.kind<6
    ·exfalso;have hc:((((decide (nd.kind<(1:Int))) || (decide ((7:Int)<nd.kind))) || (decide (nd.kids<(0:Int)))) || (((decide ((0:Int)<nd.kids)) && (!decide (nd.kind=(6:Int)))) && (!decide (nd.kind=(7:Int)))))=true:=by
      rw [deT (show nd.kind<1 by omega)]; rfl
     have:=pB_both (hv.2 nd h2);have hj:=this.1;rw [h6] at hj;unfold zao_s at hj;rw [hc,cnT] at hj;cases hj
    rw [if_neg k6];obtain ⟨kk,hkk⟩:=Int.eq_ofNat_of_zero_le h7;rw [hkk,show ((kk:Int)).toNat=kk from rfl];rw [hkk,show ((kk:Int)).toNat=kk from rfl] at h11;have hle2:=kidsS_le (qE0 v d' (decide (nd.kind=7))) _ _ _ _ (by omega) h11;have hkl:=kids_len hv (qE0 v d' (decide (nd.kind=7))) (fun a e=>prOne_len hv d' _ a e) _ _ true _ _ (by omega) h11;have hp0:∀(c0 c1:Int) (sg:BA),bAt sg 0=c0→bAt sg 1=c1→sg.size=2→zbk_p0 (zbk_n n) ((a:Int)+1) sg ad v buf nd.kind (kk:Int)=some ((e:Int),true,buf++c0::(prKids v (oneS v d' (decide (nd.kind=7))) (qEt v d') (decide (nd.kind=7)) kk (a+1) true++[c1])):=by
     intro c0 c1 sg e0 e1 hz;unfold zbk_p0;rw [qAa (by omega),e0,p_wb _ _ _ (by omega),obS];have:=sp_p1 hv nd.kind (qE0 v d' (decide (nd.kind=7))) (fun a e=>prOne_len hv d' _ a e) (self:=zbk_n n) (fun a e ho ad buf hb=>ih _ a e n ho (by omega) ad buf hb) kk (by omega) kk 0 (a+1) [] e (buf++[c0]) (by omega) (by omega) h11 (by simp only [List.length_append,List.length_singleton]; omega);rw [show ((a+1:Nat):Int)=(a:Int)+1 by omega,show ((0:Nat):Int)=0 from rfl,deT rfl] at this;dsimp only;rw [this,obS,qAa (by omega),e1,p_wb _ _ _ (by simp only [List.length_append,List.length_singleton]; omega),obS];simp only [List.append_assoc,List.cons_append,List.nil_append]
    by_cases k7:nd.kind=7
    ·rw [deT k7] at hp0 ⊢;rw [cnT,hp0 123 125 _ (by decide) (by decide) rfl,obS,if_pos k7,if_pos k7]
    ·rw [deF k7] at hp0 ⊢;rw [cnF,hp0 91 93 _ (by decide) (by decide) rfl,obS,if_neg k7,if_neg k7]
theorem prOne_some {v:List Eng.Node} (hv:OkL v) {d:Nat} {obj:Bool} {a e:Nat} (h:oneS v d obj a=some e):qEt v d a≠[]:=by
 obtain ⟨nd,h1,h2,h3,h4,h5,h6,h7,h8,h9,h10⟩:=oneS_ok hv h;have hs:nd.kind<6→scalL nd≠[]:=by
  intro hk;unfold scalL;split
  ·simp
  split
  ·simp
  split
  ·simp
  split
  ·rename_i k4;intro he;have hz:nd.text.size=0:=by rw [←qCh,he]; rfl
   have htx:nd.text=⟨#[]⟩:=eq_none.2 hz;have hj:=(pB_both (hv.2 nd h2)).1;rw [h6] at hj;unfold zao_s at hj;obtain ⟨w,hw,_⟩:=whole_eq nd.text (hv.2 nd h2).text;rw [hw,p_Valid nd.text (hv.2 nd h2).text,htx] at hj;have hro:qBr (⟨#[]⟩:BA)=false:=by decide +kernel
   rw [hro,deT k4] at hj;simp only [obS,cnT,Bool.false_and] at hj;simp at hj
  ·simp [quoL]
 cases d with
 | zero =>
  unfold qEt;rw [h4];rcases h10 with ⟨_,h11,_⟩ | ⟨d',h,_⟩
  ·exact hs h11
  ·cases h
 | succ d =>
  unfold qEt;rw [h4];split
  ·rename_i hk;exact hs hk
  ·simp
theorem prOne_range (v:List Eng.Node):∀(d a:Nat),∀x∈qEt v d a,0≤x∧x<256:=by
 intro d;induction d with
 | zero =>
  intro a;exact scalL_range _
 | succ d ih =>
  intro a;have kids:∀(one:Nat→Option Nat) (obj:Bool) (k b:Nat) (first:Bool),∀x∈prKids v one (qEt v d) obj k b first,0≤x∧x<256:=by
   intro one obj k;induction k with
   | zero=>intro b first x hx; cases hx
   | succ k ihk =>
    intro b first x hx;unfold prKids at hx;simp only [List.mem_append] at hx;rcases hx with hx | hx | hx | hx
    ·unfold commaL at hx;split at hx
     ·cases hx
     ·simp at hx; omega
    ·unfold keyL at hx;split at hx
     ·simp only [List.mem_append,List.mem_singleton] at hx;rcases hx with hx | hx
      ·exact quoL_range _ x hx
      ·omega
     ·cases hx
    ·exact ih b x hx
    ·exact ihk _ _ x hx
  unfold qEt;split
  ·exact scalL_range _
  ·intro x hx;simp only [List.mem_cons,List.mem_append,List.not_mem_nil,or_false] at hx;rcases hx with rfl | hx | rfl
   ·split <;> omega
   ·exact kids _ _ _ _ _ x hx
   ·split <;> omega
def Stop (c:Int):Prop:=¬(48≤c∧c≤57)∧c≠46∧c≠101∧c≠69
theorem pB_inv {n:Eng.Node} (hn:n.text.size≤3000000) (h:pB n=true) :
  (n.kind=4∧n.kids=0∧qBr n.text=true∧n.whole=(qDj n.text).2∧n.int=(qDj n.text).1) ∨
  (n.kind=5∧n.kids=0∧n.whole=false∧n.int=0∧Lib.validD n.text.data.toList=true) ∨
  ((n.kind=1∨n.kind=2∨n.kind=3)∧n.kids=0∧n.whole=false∧n.int=0∧n.text=⟨#[]⟩) ∨
  ((n.kind=6∨n.kind=7)∧0≤n.kids∧n.whole=false∧n.int=0∧n.text=⟨#[]⟩):=by
 have hu:qBa n.text=some (Lib.validD n.text.data.toList):=qAa (by omega) _;unfold pB zao_s at h;rw [p_Valid _ hn,(whole_is _ hn).1,hu] at h;simp only [obS] at h;cases h1:((((decide (n.kind<(1:Int))) || (decide ((7:Int)<n.kind))) || (decide (n.kids<(0:Int)))) || (((decide ((0:Int)<n.kids)) && (!decide (n.kind=(6:Int)))) && (!decide (n.kind=(7:Int))))) with
 | true=>rw [h1] at h; cases h
 | false =>
  rw [h1,cnF] at h;simp only [Bool.or_eq_false_iff,Bool.and_eq_false_iff,decide_eq_false_iff_not,Bool.not_eq_false',decide_eq_true_eq] at h1;by_cases h4:n.kind=4
  ·rw [deT h4,cnT] at h;simp only [Option.getD_some,Bool.and_eq_true,beq_iff_eq,decide_eq_true_eq] at h;exact .inl ⟨h4,by omega,h.1.1,h.1.2,h.2⟩
  ·rw [deF h4,cnF] at h;cases hw:n.whole with
   | true=>rw [hw] at h; cases h
   | false =>
    rw [hw,Bool.false_or] at h;by_cases hi:n.int=0
    ·rw [deT hi,Bool.not_true,cnF] at h;by_cases h5:n.kind=5
     ·rw [deT h5,cnT] at h;exact .inr (.inl ⟨h5,by omega,rfl,hi,h⟩)
     ·rw [deF h5,cnF] at h;have ht:n.text=⟨#[]⟩:=of_decide_eq_true h;by_cases h6:n.kind=6∨n.kind=7
      ·exact .inr (.inr (.inr ⟨h6,by omega,rfl,hi,ht⟩))
      ·exact .inr (.inr (.inl ⟨by omega,by omega,rfl,hi,ht⟩))
    ·rw [deF hi,Bool.not_false,cnT] at h;cases h
def part (v:List Eng.Node) (p e:Nat):List Eng.Node:=(v.drop p).take (e - p)
def pC (n:Eng.Node):Bool :=
 (decide (n.kind=4) && decide (n.kids=0) && qBr n.text && (n.whole == (qDj n.text).2) && decide (n.int=(qDj n.text).1)) ||
 (decide (n.kind=5) && decide (n.kids=0) && !n.whole && decide (n.int=0) && Lib.validD n.text.data.toList) ||
 ((decide (n.kind=1) || decide (n.kind=2) || decide (n.kind=3)) && decide (n.kids=0) && !n.whole && decide (n.int=0) && decide (n.text=⟨#[]⟩)) ||
 ((decide (n.kind=6) || decide (n.kind=7)) && decide (0≤n.kids) && !n.whole && decide (n.int=0) && decide (n.text=⟨#[]⟩))
theorem pB_C {n:Eng.Node} (hn:n.text.size≤3000000):pB n=pC n:=by
 rw [Bool.eq_iff_iff];unfold pC;simp only [Bool.or_eq_true,Bool.and_eq_true,decide_eq_true_eq,beq_iff_eq,Bool.not_eq_true'];constructor
 ·intro h;rcases pB_inv hn h with ⟨a,b,c,d,e⟩ | ⟨a,b,c,d,e⟩ | ⟨a,b,c,d,e⟩ | ⟨a,b,c,d,e⟩
  ·exact .inl (.inl (.inl ⟨⟨⟨⟨a,b⟩,c⟩,d⟩,e⟩))
  ·exact .inl (.inl (.inr ⟨⟨⟨⟨a,b⟩,c⟩,d⟩,e⟩))
  ·exact .inl (.inr ⟨⟨⟨⟨by omega,b⟩,c⟩,d⟩,e⟩)
  ·exact .inr ⟨⟨⟨⟨a,b⟩,c⟩,d⟩,e⟩
 ·rintro (((h | h) | h) | h)
  ·exact pB_num hn h.1.1.1.1 h.1.1.1.2 h.1.1.2 h.1.2 h.2
  ·exact pB_str hn h.1.1.1.1 h.1.1.1.2 h.1.1.2 h.1.2 h.2
  ·exact pB_bare (by omega) h.1.1.1.2 h.1.1.2 h.1.2 h.2
  ·exact pB_box h.1.1.1.1 h.1.1.1.2 h.1.1.2 h.1.2 h.2
def okC (obj:Bool) (n:Eng.Node):Bool:=pC n && Lib.validD n.key.data.toList && (obj || decide (n.key=(⟨#[]⟩:BA)))
def kidsC (v:List Eng.Node) (one:Nat→Option Nat) (obj:Bool):Nat→Nat→List BA→Option Nat
 | 0,a,_=>some a
 | k+1,a,names=>match one a with
  | none=>none
  | some e=>if obj=true∧keyAt v a∈names then none else kidsC v one obj k e (names++[keyAt v a])
def oneC (v:List Eng.Node):Nat→Bool→Nat→Option Nat
 | 0,obj,a=>match v[a]? with
  | none=>none
  | some n=>if okC obj n=true∧n.kind<6 then some (a+1) else none
 | d+1,obj,a=>match v[a]? with
  | none=>none
  | some n=>if okC obj n=true then kidsC v (oneC v d (decide (n.kind=7))) (decide (n.kind=7)) n.kids.toNat (a+1) [] else none
theorem kidsS_C {v:List Eng.Node} {one one':Nat→Option Nat} {obj:Bool} (h:∀a,one a=one' a):∀(k a:Nat) (names:List BA),kidsS v one obj k a names=kidsC v one' obj k a names
 | 0,a,names=>rfl
 | k+1,a,names=>by
  unfold kidsS kidsC;rw [h a];cases one' a with
  | none=>rfl
  | some e =>
   dsimp only;rw [kidsS_C h k e]
theorem oneS_C {v:List Eng.Node} (hv:OkL v):∀(d:Nat) (obj:Bool) (a:Nat),oneS v d obj a=oneC v d obj a
 | 0,obj,a=>by
  unfold oneS oneC;cases hn:v[a]? with
  | none=>rfl
  | some n =>
   dsimp only;have:okB obj n=okC obj n:=by unfold okB okC; rw [pB_C (hv.2 n (List.mem_of_getElem? hn)).text]
   rw [this]
 | d+1,obj,a=>by
  unfold oneS oneC;cases hn:v[a]? with
  | none=>rfl
  | some n =>
   dsimp only;have:okB obj n=okC obj n:=by unfold okB okC; rw [pB_C (hv.2 n (List.mem_of_getElem? hn)).text]
   rw [this,kidsS_C (fun a=>oneS_C hv d _ a)]
def prKidsC (v:List Eng.Node) (one:Nat→Option Nat) (pr:Nat→List Int) (obj:Bool):Nat→Nat→Bool→List Int
 | 0,_,_=>[]
 | k+1,a,first=>commaL first++(keyL v obj a++(pr a++prKidsC v one pr obj k ((one a).getD 0) false))
def prC (v:List Eng.Node):Nat→Nat→List Int
 | 0,a=>scalL (v.getD a (ET.dft .node))
 | d+1,a =>
  if (v.getD a (ET.dft .node)).kind<6 then scalL (v.getD a (ET.dft .node))
  else (if (v.getD a (ET.dft .node)).kind=7 then 123 else 91)::(prKidsC v (oneC v d (decide ((v.getD a (ET.dft .node)).kind=7))) (prC v d) (decide ((v.getD a (ET.dft .node)).kind=7)) (v.getD a (ET.dft .node)).kids.toNat (a+1) true++[if (v.getD a (ET.dft .node)).kind=7 then 125 else 93])
theorem prKids_C {v:List Eng.Node} {one one':Nat→Option Nat} {pr pr':Nat→List Int} {obj:Bool} (h:∀a,one a=one' a) (hp:∀a,pr a=pr' a):∀(k a:Nat) (first:Bool),prKids v one pr obj k a first=prKidsC v one' pr' obj k a first
 | 0,a,first=>rfl
 | k+1,a,first=>by
  unfold prKids prKidsC;rw [h a,hp a,prKids_C h hp k]
theorem prOne_C {v:List Eng.Node} (hv:OkL v):∀(d a:Nat),qEt v d a=prC v d a
 | 0,a=>rfl
 | d+1,a=>by
  unfold qEt prC;rw [prKids_C (fun a=>oneS_C hv d _ a) (fun a=>prOne_C hv d a)]
theorem p_Print {v:List Eng.Node} (hv:OkL v):zal_s v=some (if oneS v 32 false 0=some v.length then (if 262144<(qEt v 32 0).length then ((⟨#[]⟩:BA),10) else (qBk (qEt v 32 0),0)) else (⟨#[]⟩,31)):=by
 have hlen:=hv.1;unfold zal_s;rw [prog_Shaped hv,obS];by_cases hsh:oneS v 32 false 0=some v.length
 ·rw [deT hsh,Bool.not_true,cnF,if_pos hsh];have hsp:zbk_s (⟨false,[]⟩:qG9) v 0=some (⟨true,[]++qEt v 32 0⟩,(v.length:Int)):=evt_eq (N:=33) fun n hn=>by
   have:=sp_all hv 32 false 0 v.length n hsh (by omega) false [] (by show 0+_≤_; omega);rwa [show ((0:Nat):Int)=0 from rfl] at this
  rw [hsp,obS,List.nil_append];unfold zbr_s;rw [obS];dsimp only;by_cases hbig:262144<(qEt v 32 0).length
  ·rw [deT (show (262144:Int)<((qEt v 32 0).length:Int) by omega),cnT,if_pos hbig]
  ·rw [deF (show ¬(262144:Int)<((qEt v 32 0).length:Int) by omega),cnF,if_neg hbig];have hne:=prOne_some hv hsh;have hpos:0<(qEt v 32 0).length:=List.length_pos_iff.2 hne;have:zbs_s ⟨true,qEt v 32 0⟩=some (⟨true,[]⟩,qBk (qEt v 32 0)):=by
    unfold zbs_s;refine (qAa hpos _).trans ?_;exact (qAa ⟨rfl,hpos,prOne_range v 32 0⟩ _).trans rfl
   rw [this,obS]
 ·rw [deF hsh,Bool.not_false,cnT,if_neg hsh]
theorem same3_loop (v:List Eng.Node) (hv:v.length≤3000000):∀(j i:Nat),i+j=v.length→zbo_p0 (i:Int) v v=some (.inr ())
 | 0,i,h=>by
  unfold zbo_p0;refine qAi ?_;unfold qFx;rw [deF (by omega),cnF]
 | j+1,i,h=>by
  have ih:=same3_loop v hv j (i+1) (by omega);unfold zbo_p0 at ih ⊢;rw [qAn (y:=((i+1:Nat):Int)) ?_,ih];unfold qFx;rw [deT (by omega),cnT,qAa (by omega),qAa (by omega),qAa (by omega),qAa (by omega)];simp only [decide_true,beq_self_eq_true,Bool.and_self,Bool.not_true,cnF];exact qAa (by unfold qAe; omega) _
theorem same3_self (v:List Eng.Node) (hv:v.length≤3000000):zbo_s v v=some true:=by
 have:=same3_loop v hv v.length 0 (by omega);rw [show ((0:Nat):Int)=0 from rfl] at this;unfold zbo_s;rw [deT rfl,Bool.not_true,cnF,this];rfl
def qG8:List Eng.Node:=[nd0 7 ⟨#[]⟩ false 0 1,⟨6,⟨#[97]⟩,⟨#[]⟩,false,0,2⟩,nd0 4 ⟨#[49]⟩ true 1 0,nd0 5 ⟨#[195,169]⟩ false 0 0]
def aliveT:BA:=⟨#[32,123,34,97,34,58,91,49,44,34,92,117,48,48,101,57,34,93,125,32]⟩
theorem alive_read:readR aliveT=.ok 20 qG8:=by kernel_rfl
theorem alive_parse:parseR aliveT=(qG8,0,0):=by
 unfold parseR;rw [if_neg (by decide),alive_read];rfl
theorem alive_ok:OkL qG8:=⟨by decide,fun n hn=>by
 simp only [qG8,List.mem_cons,List.not_mem_nil,or_false] at hn;rcases hn with rfl | rfl | rfl | rfl <;> exact ⟨by decide,by decide,by unfold qAe; decide⟩⟩
theorem alive_shape:oneS qG8 32 false 0=some 4:=by
 rw [oneS_C alive_ok];kernel_rfl
theorem alive_text:qEt qG8 32 0=[123,34,97,34,58,91,49,44,34,195,169,34,93,125]:=by
 rw [prOne_C alive_ok];kernel_rfl
theorem alive_print:zal_s qG8=some ((⟨#[123,34,97,34,58,91,49,44,34,195,169,34,93,125]⟩:BA),0):=by
 rw [p_Print alive_ok,alive_shape,if_pos (show some 4=some qG8.length from rfl),alive_text,if_neg (by decide)];rfl
theorem alive_tree:Tree qG8 0 4:=readR_tree alive_read
theorem alive_member:zaj_s qG8 0 (⟨#[97]⟩:BA)=some 1:=by
 obtain ⟨nd,h1,h2,h3⟩:=alive_tree.node;obtain rfl:nd=nd0 7 ⟨#[]⟩ false 0 1:=by cases h1; rfl
 obtain ⟨l,hl⟩:=h3.places;have:=(member_find (by decide) h1 h2 h3 hl (⟨#[97]⟩:BA)).1;rw [show ((0:Nat):Int)=0 from rfl] at this;rw [this,if_pos (show (nd0 7 ⟨#[]⟩ false 0 1).kind=7 from rfl)];obtain ⟨b,r,rfl,g1,g2⟩:=hl;show some (memI (if (qG8.getD 1 (ET.dft .node)).key=⟨#[97]⟩ then some 1 else _))=_;rw [if_pos (show (qG8.getD 1 (ET.dft .node)).key=⟨#[97]⟩ from rfl)];rfl
theorem alive_is:zbm_s=some true:=by
 unfold zbm_s;rw [show (⟨#[32,123,34,97,34,58,91,49,44,34,92,117,48,48,101,57,34,93,125,32]⟩:BA)=aliveT from rfl,p_Parse,obS,alive_parse];dsimp only;rw [alive_print,obS];dsimp only;have hl:qG8.length=4:=rfl;refine (qAa (fun _=>by rw [hl]; decide) _).trans ((qAa (fun _=>by rw [hl]; decide) _).trans ((qAa (fun _=>by rw [hl]; decide) _).trans ((qAa (fun _=>by rw [hl]; decide) _).trans ((qAa (fun _=>by rw [hl]; decide) _).trans ((qAa (fun _=>by rw [hl]; decide) _).trans ((qAa (fun _=>by rw [hl]; decide) _).trans ((qAa (fun _=>by rw [hl]; decide) _).trans ((qAa (fun _=>by rw [hl]; decide) _).trans ?_))))))));rw [alive_member,obS,deT rfl];kernel_rfl
end Go.Proofs.YtdcoiccdbgcpaaaDoor
