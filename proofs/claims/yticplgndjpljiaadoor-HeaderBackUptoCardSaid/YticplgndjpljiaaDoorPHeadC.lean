/-
  HeaderClosed: the plain law. No program.
-/
import Derived.Test.YticplgndjpljiaaDoorPBack
import Derived.Test.YticplgndjpljiaaDoorPSpell
namespace Go.Proofs.YticplgndjpljiaaDoor
open Go.Eng
set_option linter.unusedVariables false
set_option linter.unusedSimpArgs false
theorem escL_app (x y:List Int):escL (x++y)=escL x++escL y:=by unfold escL; rw [List.flatMap_append]
theorem escB_high {c:Int} (h:32≤c) (h1:c≠34) (h2:c≠92):escB c=[c]:=by
 unfold escB;rw [if_neg (by omega),if_neg (by omega),if_neg (by omega),if_neg (by omega),if_neg (by omega),if_neg (by omega),if_neg (by omega)]
theorem escL_high:∀ {l:List Int},(∀x∈l,128≤x)→(escL l).length=l.length
 | [],_=>rfl
 | c::l,h=>by
  show (escB c++escL l).length=_;have:=h c List.mem_cons_self;rw [escB_high (by omega) (by omega) (by omega),List.length_append,escL_high fun x hx=>h x (List.mem_cons_of_mem _ hx)];simp only [List.length_cons,List.length_nil];omega
theorem escL_utf {u:Int} (h:Code u):(escL (utfL u)).length≤6∧((u=34∨u=92∨u=47∨u=8∨u=12∨u=10∨u=13∨u=9)→(escL (utfL u)).length≤2):=by
 unfold Code at h;by_cases h1:u<128
 ·rw [utfL_one h1];have e:escL [u]=escB u:=by show escB u++[]=_; rw [List.append_nil]
  rw [e];refine ⟨(escB_len u).2,fun hu=>?_⟩;rcases hu with rfl | rfl | rfl | rfl | rfl | rfl | rfl | rfl <;> decide
 ·have hl:=utfL_len u;rw [escL_high (by
   intro x hx;unfold utfL at hx;rw [if_neg h1] at hx;repeat' split at hx
   all_goals
    simp only [List.mem_cons,List.not_mem_nil,or_false] at hx;omega)]
  exact ⟨by omega,fun hu=>by omega⟩
theorem saidS_cases {c:Int} (h:0≤qF7 c):qF7 c=34∨qF7 c=92∨qF7 c=47∨qF7 c=8∨qF7 c=12∨qF7 c=10∨qF7 c=13∨qF7 c=9:=by
 unfold qF7 at h ⊢;repeat' split
 all_goals omega
theorem escR_short {t:BA} {a b:Nat} {u:Int} (h:escR t a=.ok b u):(escL (utfL u)).length≤b - a:=by
 have hok:=escR_ok h;have hl:=escL_utf hok.2.2;unfold escR at h;split at h
 ·cases h
 ·split at h
  ·split at h
   ·cases h
   ·rename_i b' u' hf;have h4:=fourR_ok hf;split at h
    ·cases h;omega
    ·unfold pairR at h;repeat' split at h
     all_goals first | (cases h; done) | skip
     rename_i hw;have h6:=fourR_ok hw;cases h;omega
  ·split at h
   ·cases h
   ·cases h;have:=hl.2 (saidS_cases (by omega));omega
theorem bytesL_seq_high {t:BA} {a:Nat} (ha:a<t.size) (h8:128≤by8 t a) (hk:seqK t a=0):∀x∈qAi (t.extract a (a+seqW t a)),128≤x:=by
 intro x hx;have hw:=qE9 ha h8 hk;obtain ⟨i,hi,rfl⟩:=List.getElem_of_mem hx;rw [qAo,ByteArray.size_extract] at hi;have h1:=qEa (s:=t.extract a (a+seqW t a)) (i:=i) (by rw [ByteArray.size_extract]; omega);rw [List.getElem?_eq_getElem (by rw [qAo,ByteArray.size_extract]; omega),snJ] at h1;rw [h1,qD5 t a _ (i:Int) (by omega) (by omega)];have h2:=seq_high ha h8 hk i (by omega);have h3:=qEo (t:=t) (i:=a+i) (by omega);rw [show (a:Int)+(i:Int)=((a+i:Nat):Int) by omega];omega
theorem qFc {t:BA}:∀ {n a b:Nat} {acc l:List Int},quoR t n a acc=.ok b l→(escL l).length+1≤(escL acc).length+(b - a)
 | 0,a,b,acc,l,h=>by cases h
 | n+1,a,b,acc,l,h=>by
  unfold quoR at h;split at h
  ·cases h
  ·rename_i h0;have ha:=qA6 (t:=t) (a:=a) (by omega);split at h
   ·cases h;omega
   ·split at h
    ·split at h
     ·cases h
     ·rename_i b' u he;have h1:=escR_ok he;have h2:=escR_short he;have hr:b'≤b:=by
       have:=qFc h;by_cases hb:b'≤b
       ·exact hb
       ·exfalso;rw [show b - b'=0 by omega] at this;have hle:(escL (acc++utfL u)).length≤(escL l).length:=quoR_grow h;omega
      have:=qFc h;rw [escL_app,List.length_append] at this;omega
    ·split at h
     ·have hr:a+1≤b:=by
       have:=qFc h;by_cases hb:a+1≤b
       ·exact hb
       ·exfalso;rw [show b - (a+1)=0 by omega] at this;have hle:=quoR_grow h;omega
      have:=qFc h;rw [escL_app,List.length_append,show escL [bAt t (a:Int)]=escB (bAt t (a:Int)) by show escB _++[]=_; rw [List.append_nil],escB_high (by omega) (by omega) (by omega)] at this;simp only [List.length_cons,List.length_nil] at this;omega
     ·split at h
      ·rename_i hk;have h8:128≤by8 t a:=by have:=qEo ha; omega
       have hw:=qE9 ha h8 hk;have hr:a+seqW t a≤b:=by
        have:=qFc h;by_cases hb:a+seqW t a≤b
        ·exact hb
        ·exfalso;rw [show b - (a+seqW t a)=0 by omega] at this;have hle:=quoR_grow h;omega
       have:=qFc h;rw [escL_app,List.length_append,escL_high (bytesL_seq_high ha h8 hk),qAo,ByteArray.size_extract] at this;omega
      ·cases h
where
 quoR_grow {t:BA}:∀ {n a b:Nat} {acc l:List Int},quoR t n a acc=.ok b l→(escL acc).length≤(escL l).length
 | 0,a,b,acc,l,h=>by cases h
 | n+1,a,b,acc,l,h=>by
  unfold quoR at h;split at h
  ·cases h
  ·split at h
   ·cases h;exact Nat.le_refl _
   ·split at h
    ·split at h
     ·cases h
     ·have:=quoR_grow h;rw [escL_app,List.length_append] at this;omega
    ·split at h
     ·have:=quoR_grow h;rw [escL_app,List.length_append] at this;omega
     ·split at h
      ·have:=quoR_grow h;rw [escL_app,List.length_append] at this;omega
      ·cases h
theorem quoL_short {t:BA} {n a b:Nat} {l:List Int} (h:quoR t n (a+1) []=.ok b l):(quoL (qA3 l)).length≤b - a:=by
 have h1:=qFc h;have h2:=qFz h (by simp);unfold quoL;rw [bytesL_of h2.2.2.1,List.length_cons,List.length_append,List.length_singleton];have:(escL ([]:List Int)).length=0:=rfl;omega
theorem scalR_short {t:BA} {a b:Nat} {l:List Eng.Node} (ha:a≤t.size) (h:qDt t a=.ok b l):∃n,l=[n]∧n.kind<6∧∀k,(qF1 (setK k n)).length≤b - a:=by
 unfold qDt at h;split at h
 ·split at h
  ·cases h
  ·rename_i h1;have:=quoL_short h1;cases h;exact ⟨_,rfl,by show (5:Int)<6; decide,fun k=>this⟩
 ·split at h
  ·split at h
   ·cases h
   ·rename_i hc _ b1 x1 h1;have hlt:=qA6 (t:=t) (a:=a) (by omega);have h2:=numR_adv hlt h1;cases h;refine ⟨_,rfl,by show (4:Int)<6; decide,fun k=>?_⟩;show (qAi (t.extract a _)).length≤_;rw [qAo,ByteArray.size_extract];omega
  ·have lit:∀(w:List Int) (b:Nat) (x:Unit),(∀c∈w,0≤c)→litR t w a=.ok b x→w.length≤b - a:=fun w b x hw hl=>by
    have:=(litR_adv hw hl).1;omega
   split at h
   ·split at h
    ·cases h
    ·rename_i h1;have:=lit _ _ _ (by decide) h1;cases h;exact ⟨_,rfl,by show (1:Int)<6; decide,fun k=>this⟩
   ·split at h
    ·split at h
     ·cases h
     ·rename_i h1;have:=lit _ _ _ (by decide) h1;cases h;exact ⟨_,rfl,by show (2:Int)<6; decide,fun k=>this⟩
    ·split at h
     ·split at h
      ·cases h
      ·rename_i h1;have:=lit _ _ _ (by decide) h1;cases h;exact ⟨_,rfl,by show (3:Int)<6; decide,fun k=>this⟩
     ·cases h
def ShortAt (t:BA) (d:Nat) (val:Nat→Rd (List Eng.Node)):Prop:=∀a b l,a≤t.size→val a=.ok b l→∀(k:BA) (obj:Bool) (pre post:List Eng.Node),KeyOK obj k→(qAp (pre++qB2 k l++post) d pre.length).length≤b - a
theorem getD_pre (pre post:List Eng.Node) (n:Eng.Node) (l:List Eng.Node) (x:Eng.Node):(pre++(n::l)++post).getD pre.length x=n:=by
 rw [List.getD_eq_getElem?_getD,at_pre];rfl
theorem leaf_short {t:BA} {a b:Nat} {l:List Eng.Node} (ha:a≤t.size) (h:qDt t a=.ok b l) (d:Nat) (k:BA) (pre post:List Eng.Node):(qAp (pre++qB2 k l++post) d pre.length).length≤b - a:=by
 obtain ⟨n,rfl,hk,hl⟩:=scalR_short ha h;have e:(pre++qB2 k [n]++post).getD pre.length (ET.dft .node)=setK k n:=getD_pre pre post (setK k n) [] _;have hk2:(setK k n).kind<6:=hk;cases d with
 | zero =>
  unfold qAp;rw [e];exact hl k
 | succ d =>
  unfold qAp;rw [e,if_pos hk2];exact hl k
theorem rowR_short {t:BA} {d:Nat} {val:Nat→Rd (List Eng.Node)} (hv:Adv t val) (hk0:∀a b l,val a=.ok b l→qB2 ⟨#[]⟩ l=l) (hS:ShapeAt t d val) (hL:ShortAt t d val) {obj:Bool}:∀ {m a k:Nat} {acc:List Eng.Node} {names:List BA} {b:Nat} {x:Nat × List Eng.Node},a≤t.size→rowR t val obj m a k acc names=.ok b x →
  ∃(j:Nat) (more:List Eng.Node),x.1=k+(j+1)∧x.2=acc++more∧∀(pre post:List Eng.Node),(qBa (pre++more++post) (oneS (pre++more++post) d obj) (qAp (pre++more++post) d) obj (j+1) pre.length true).length+1≤b - a
 | 0,a,k,acc,names,b,x,ha,h=>by cases h
 | m+1,a,k,acc,names,b,x,ha,h=>by
  have hadvAll:=rowR_adv hv ha h;unfold rowR at h;split at h
  ·cases h
  ·rename_i b1 y h1;obtain ⟨a',l,ha',hl,hy,hne,hkey,hmem⟩:=itemR_shape hv hk0 ha h1;have hadv:=itemR_adv hv ha h1;have hlen:y.2.length=l.length:=by rw [hy,qHy]
   have one:∀pre post,oneS (pre++y.2++post) d obj pre.length=some (pre.length+y.2.length)∧qA0 (pre++y.2++post) pre.length=y.1∧(qAp (pre++y.2++post) d pre.length).length≤b1 - a':=fun pre post=>by
    rw [hlen,hy];exact ⟨hS _ _ _ ha' hl _ obj pre post hkey,keyAt_pre pre post _ hne,hL _ _ _ ha' hl _ obj pre post hkey⟩
   have item:∀pre post,(keyL (pre++y.2++post) obj pre.length).length+(qAp (pre++y.2++post) d pre.length).length≤b1 - a:=by
    intro pre post;obtain ⟨o1,o2,o3⟩:=one pre post;unfold qFp at h1;cases obj with
    | false =>
     rw [if_neg (by decide)] at h1;cases hva:val a with
     | bad c b=>rw [hva] at h1; cases h1
     | ok b2 l2 =>
      rw [hva] at h1;dsimp only at h1;have hy2:y=(⟨#[]⟩,l2):=by cases h1; rfl
      have hb2:b1=b2:=by cases h1; rfl
      have h3:=hL _ _ _ ha hva ⟨#[]⟩ false pre post ⟨rfl,.inr rfl⟩;rw [hk0 _ _ _ hva] at h3;rw [hy2,hb2];show 0+_≤_;rw [Nat.zero_add];exact h3
    | true =>
     rw [if_pos rfl] at h1;split at h1
     ·rename_i h34;have hla:=qA6 (t:=t) (a:=a) (by omega);split at h1
      ·cases h1
      ·rename_i bq lq hq;have hqs:=quoL_short hq;have hqo:=qFz hq (by simp);split at h1
       ·cases h1
       ·split at h1
        ·rename_i h58;have h3:=qA6 (t:=t) (a:=qAy t bq) (by omega);have h4:=qBz t bq;have h5:=qBz t (qAy t bq+1);have h6:=qA9 t (qAy t bq+1) (by omega);split at h1
         ·cases h1
         ·rename_i b3 l3 h7;have h8:=hv _ _ _ h6 h7;have hy2:y=(qA3 lq,qB2 (qA3 lq) l3):=by cases h1; rfl
          have hb2:b1=b3:=by cases h1; rfl
          have h9:=hL _ _ _ h6 h7 (qA3 lq) true pre post ⟨(qGe hq qDo.nil).bytes,.inl rfl⟩;rw [hy2] at o2 ⊢;rw [hb2];dsimp only at o2 h9 ⊢;unfold keyL;rw [if_pos rfl,o2,List.length_append,List.length_singleton];omega
        ·cases h1
     ·cases h1
   have k1:=qBz t b1;have k2:=qA9 t b1 hadv.2.1;have unf:∀(w:List Eng.Node) (p e j:Nat),oneS w d obj p=some e→(qBa w (oneS w d obj) (qAp w d) obj (j+1) p true).length=(keyL w obj p).length+((qAp w d p).length+(qBa w (oneS w d obj) (qAp w d) obj j e false).length):=fun w p e j ho=>by
    show (qF6 true++(keyL w obj p++(qAp w d p++qBa w (oneS w d obj) (qAp w d) obj j ((oneS w d obj p).getD 0) false))).length=_;rw [ho];simp [qF6]
   split at h
   ·cases h;refine ⟨0,y.2,rfl,rfl,fun pre post=>?_⟩;have h1:=item pre post;rw [unf _ _ _ 0 (one pre post).1];show _+(_+0)+1≤_;omega
   ·split at h
    ·rename_i hcm;have h3:=qA6 (t:=t) (a:=qAy t b1) (by omega);have k3:=qBz t (qAy t b1+1);have k4:=qA9 t (qAy t b1+1) (by omega);obtain ⟨j,more,e1,e2,h4⟩:=rowR_short hv hk0 hS hL k4 h;have h4a:=rowR_adv hv k4 h;refine ⟨j+1,y.2++more,by omega,by rw [e2,List.append_assoc],fun pre post=>?_⟩;have o1:=one pre (more++post);have i1:=item pre (more++post);have h5:=h4 (pre++y.2) post;have e3:pre++(y.2++more)++post=pre++y.2++(more++post):=by simp
     have e4:pre++y.2++more++post=pre++y.2++(more++post):=by simp
     rw [e4,List.length_append] at h5;rw [e3,unf _ _ _ (j+1) o1.1];have e5:∀(w:List Eng.Node) (p:Nat),(qBa w (oneS w d obj) (qAp w d) obj (j+1) p false).length=1+(qBa w (oneS w d obj) (qAp w d) obj (j+1) p true).length:=fun w p=>by
      show (([44]:List Int)++_).length=1+(([]:List Int)++_).length;rw [List.length_append,List.nil_append];rfl
     rw [e5];omega
    ·cases h
theorem valR_short {t:BA} (hs:t.size≤600000):∀d,ShortAt t d (valR t d)
 | 0=>fun a b l ha h k obj pre post hk=>by
  unfold valR at h;split at h
  ·cases h
  ·exact leaf_short ha h 0 k pre post
 | d+1=>fun a b l ha h k obj pre post hk=>by
  unfold valR at h;split at h
  ·have hlt:=qA6 (t:=t) (a:=a) (by omega);generalize hob:decide (bAt t (a:Int)=123)=ob at h
   have k1:=qBz t (a+1);have k2:=qA9 t (a+1) (by omega);have hn6:¬qCx ob<6:=by cases ob <;> decide
   have hk7:decide (qCx ob=7)=ob:=by cases ob <;> rfl
   unfold boxR at h;split at h
   ·cases h;have e:(pre++qB2 k [nd0 (qCx ob) ⟨#[]⟩ false 0 0]++post).getD pre.length (ET.dft .node)=setK k (nd0 (qCx ob) ⟨#[]⟩ false 0 0):=getD_pre pre post _ [] _;unfold qAp;rw [e];show (if qCx ob<6 then _ else _:List Int).length≤_;rw [if_neg hn6];show (_::([]++[_])).length≤_;simp only [List.nil_append,List.length_cons,List.length_nil];omega
   ·split at h
    ·cases h
    ·rename_i b1 x h1;cases h;obtain ⟨j,more,e1,e2,h3⟩:=rowR_short (qFl t d) (fun a b l h=>valR_key h) (valR_shape hs d) (valR_short hs d) k2 h1;simp only [List.nil_append,Nat.zero_add] at e1 e2;rw [e1,e2];have h4:=h3 (pre++[setK k (nd0 (qCx ob) ⟨#[]⟩ false 0 ((j+1:Nat):Int))]) post;have e3:pre++[setK k (nd0 (qCx ob) ⟨#[]⟩ false 0 ((j+1:Nat):Int))]++more++post=pre++(setK k (nd0 (qCx ob) ⟨#[]⟩ false 0 ((j+1:Nat):Int))::more)++post:=by simp
     rw [e3,List.length_append,List.length_singleton] at h4;have e:(pre++(setK k (nd0 (qCx ob) ⟨#[]⟩ false 0 ((j+1:Nat):Int))::more)++post).getD pre.length (ET.dft .node)=setK k (nd0 (qCx ob) ⟨#[]⟩ false 0 ((j+1:Nat):Int)):=getD_pre pre post _ more _;show (qAp (pre++(setK k (nd0 (qCx ob) ⟨#[]⟩ false 0 ((j+1:Nat):Int))::more)++post) (d+1) pre.length).length≤_;unfold qAp;rw [e];show (if qCx ob<6 then _ else (if qCx ob=7 then 123 else 91)::(qBa _ (oneS _ d (decide (qCx ob=7))) _ (decide (qCx ob=7)) (Int.toNat ((j+1:Nat):Int)) _ true++[_]):List Int).length≤_;rw [if_neg hn6,hk7,Int.toNat_natCast];simp only [List.length_cons,List.length_append,List.length_nil];omega
  ·exact leaf_short ha h (d+1) k pre post
theorem readR_short {t:BA} (hs:t.size≤262144) {b:Nat} {l:List Eng.Node} (h:qGn t=.ok b l):(qAp l 32 0).length≤t.size:=by
 unfold qGn at h;have k:=qA9 t 0 (by omega);split at h
 ·cases h
 ·rename_i b1 l1 h1;have h2:=qFl t 32 _ _ _ k h1;have:=valR_short (t:=t) (by omega) 32 _ _ _ k h1 ⟨#[]⟩ false [] [] ⟨rfl,.inr rfl⟩;rw [valR_key h1,List.nil_append,List.append_nil,List.length_nil] at this;split at h
  ·cases h
  ·cases h;omega
def pC (n:Eng.Node):Bool :=
 (decide (n.kind=4) && decide (n.kids=0) && qBq n.text && (n.whole == (qEd n.text).2) && decide (n.int=(qEd n.text).1)) ||
 (decide (n.kind=5) && decide (n.kids=0) && !n.whole && decide (n.int=0) && Lib.validD n.text.data.toList) ||
 ((decide (n.kind=1) || decide (n.kind=2) || decide (n.kind=3)) && decide (n.kids=0) && !n.whole && decide (n.int=0) && decide (n.text=⟨#[]⟩)) ||
 ((decide (n.kind=6) || decide (n.kind=7)) && decide (0≤n.kids) && !n.whole && decide (n.int=0) && decide (n.text=⟨#[]⟩))
theorem pB_C {n:Eng.Node} (hn:n.text.size≤3000000):pB n=pC n:=by
 rw [Bool.eq_iff_iff];unfold pC;simp only [Bool.or_eq_true,Bool.and_eq_true,decide_eq_true_eq,beq_iff_eq,Bool.not_eq_true'];constructor
 ·intro h;rcases pB_inv hn h with ⟨a,b,c,d,e⟩ | ⟨a,b,c,d,e⟩ | ⟨a,b,c,d,e⟩ | ⟨a,b,c,d,e⟩
  ·exact .inl (.inl (.inl ⟨⟨⟨⟨a,b⟩,c⟩,d⟩,e⟩))
  ·exact .inl (.inl (.inr ⟨⟨⟨⟨a,b⟩,c⟩,d⟩,e⟩))
  ·exact .inl (.inr ⟨⟨⟨⟨by omega,b⟩,c⟩,d⟩,e⟩)
  ·exact .inr ⟨⟨⟨⟨a,b⟩,c⟩,d⟩,e⟩
 ·rintro (((h | h) | h) | h)
  ·exact pB_num hn h.1.1.1.1 h.1.1.1.2 h.1.1.2 h.1.2 h.2
  ·exact pB_str hn h.1.1.1.1 h.1.1.1.2 h.1.1.2 h.1.2 h.2
  ·exact pB_bare (by omega) h.1.1.1.2 h.1.1.2 h.1.2 h.2
  ·exact pB_box h.1.1.1.1 h.1.1.1.2 h.1.1.2 h.1.2 h.2
def okC (obj:Bool) (n:Eng.Node):Bool:=pC n && Lib.validD n.key.data.toList && (obj || decide (n.key=(⟨#[]⟩:BA)))
def kidsC (v:List Eng.Node) (one:Nat→Option Nat) (obj:Bool):Nat→Nat→List BA→Option Nat
 | 0,a,_=>some a
 | k+1,a,names=>match one a with
  | none=>none
  | some e=>if obj=true∧qA0 v a∈names then none else kidsC v one obj k e (names++[qA0 v a])
def oneC (v:List Eng.Node):Nat→Bool→Nat→Option Nat
 | 0,obj,a=>match v[a]? with
  | none=>none
  | some n=>if okC obj n=true∧n.kind<6 then some (a+1) else none
 | d+1,obj,a=>match v[a]? with
  | none=>none
  | some n=>if okC obj n=true then kidsC v (oneC v d (decide (n.kind=7))) (decide (n.kind=7)) n.kids.toNat (a+1) [] else none
theorem kidsS_C {v:List Eng.Node} {one one':Nat→Option Nat} {obj:Bool} (h:∀a,one a=one' a):∀(k a:Nat) (names:List BA),qCu v one obj k a names=kidsC v one' obj k a names
 | 0,a,names=>rfl
 | k+1,a,names=>by
  unfold qCu kidsC;rw [h a];cases one' a with
  | none=>rfl
  | some e =>
   dsimp only;rw [kidsS_C h k e]
theorem oneS_C {v:List Eng.Node} (hv:OkL v):∀(d:Nat) (obj:Bool) (a:Nat),oneS v d obj a=oneC v d obj a
 | 0,obj,a=>by
  unfold oneS oneC;cases hn:v[a]? with
  | none=>rfl
  | some n =>
   dsimp only;have:okB obj n=okC obj n:=by unfold okB okC; rw [pB_C (hv.2 n (List.mem_of_getElem? hn)).text]
   rw [this]
 | d+1,obj,a=>by
  unfold oneS oneC;cases hn:v[a]? with
  | none=>rfl
  | some n =>
   dsimp only;have:okB obj n=okC obj n:=by unfold okB okC; rw [pB_C (hv.2 n (List.mem_of_getElem? hn)).text]
   rw [this,kidsS_C (fun a=>oneS_C hv d _ a)]
def prKidsC (v:List Eng.Node) (one:Nat→Option Nat) (pr:Nat→List Int) (obj:Bool):Nat→Nat→Bool→List Int
 | 0,_,_=>[]
 | k+1,a,first=>qF6 first++(keyL v obj a++(pr a++prKidsC v one pr obj k ((one a).getD 0) false))
def prC (v:List Eng.Node):Nat→Nat→List Int
 | 0,a=>qF1 (v.getD a (ET.dft .node))
 | d+1,a =>
  if (v.getD a (ET.dft .node)).kind<6 then qF1 (v.getD a (ET.dft .node))
  else (if (v.getD a (ET.dft .node)).kind=7 then 123 else 91)::(prKidsC v (oneC v d (decide ((v.getD a (ET.dft .node)).kind=7))) (prC v d) (decide ((v.getD a (ET.dft .node)).kind=7)) (v.getD a (ET.dft .node)).kids.toNat (a+1) true++[if (v.getD a (ET.dft .node)).kind=7 then 125 else 93])
theorem prKids_C {v:List Eng.Node} {one one':Nat→Option Nat} {pr pr':Nat→List Int} {obj:Bool} (h:∀a,one a=one' a) (hp:∀a,pr a=pr' a):∀(k a:Nat) (first:Bool),qBa v one pr obj k a first=prKidsC v one' pr' obj k a first
 | 0,a,first=>rfl
 | k+1,a,first=>by
  unfold qBa prKidsC;rw [h a,hp a,prKids_C h hp k]
theorem prOne_C {v:List Eng.Node} (hv:OkL v):∀(d a:Nat),qAp v d a=prC v d a
 | 0,a=>rfl
 | d+1,a=>by
  unfold qAp prC;rw [prKids_C (fun a=>oneS_C hv d _ a) (fun a=>prOne_C hv d a)]
theorem p_Print {v:List Eng.Node} (hv:OkL v):zaq_s v=some (if oneS v 32 false 0=some v.length then (if 262144<(qAp v 32 0).length then ((⟨#[]⟩:BA),10) else (qA3 (qAp v 32 0),0)) else (⟨#[]⟩,31)):=by
 have hlen:=hv.1;unfold zaq_s;rw [prog_Shaped hv,obS];by_cases hsh:oneS v 32 false 0=some v.length
 ·rw [deT hsh,Bool.not_true,cnF,if_pos hsh];have hsp:zbp_s (⟨false,[]⟩:qIe) v 0=some (⟨true,[]++qAp v 32 0⟩,(v.length:Int)):=evt_eq (N:=33) fun n hn=>by
   have:=sp_all hv 32 false 0 v.length n hsh (by omega) false [] (by show 0+_≤_; omega);rwa [show ((0:Nat):Int)=0 from rfl] at this
  rw [hsp,obS,List.nil_append];unfold zbu_s;rw [obS];dsimp only;by_cases hbig:262144<(qAp v 32 0).length
  ·rw [deT (show (262144:Int)<((qAp v 32 0).length:Int) by omega),cnT,if_pos hbig]
  ·rw [deF (show ¬(262144:Int)<((qAp v 32 0).length:Int) by omega),cnF,if_neg hbig];have hne:=prOne_some hv hsh;have hpos:0<(qAp v 32 0).length:=List.length_pos_iff.2 hne;have:zbv_s ⟨true,qAp v 32 0⟩=some (⟨true,[]⟩,qA3 (qAp v 32 0)):=by
    unfold zbv_s;refine (qAa hpos _).trans ?_;exact (qAa ⟨rfl,hpos,prOne_range v 32 0⟩ _).trans rfl
   rw [this,obS]
 ·rw [deF hsh,Bool.not_false,cnT,if_neg hsh]
theorem upN_toNat (l:List Nat):(upN l).map Int.toNat=l:=by
 induction l with
 | nil=>rfl
 | cons a l ih=>exact congrArg (a :: ·) ih
theorem qHo {v:List Eng.Node} {a:Nat} {n:Eng.Node} (h:v[a]?=some n) (h0:n.kids=0):Tree v a (a+1):=Tree.mk h (by omega) (by
 rw [h0];exact Trees.nil _ (by have:=(List.getElem?_eq_some_iff.1 h).1; omega))
theorem header_of {t:BA} {v:List Eng.Node} {L:List Nat} {nd:Eng.Node} (hp:parseR t=(v,0,0)) (h0:v[0]?=some nd) (h7:nd.kind=7) (hpl:qCp v nd.kids.toNat 1 L v.length):zaf_s t=some (hdrV v L):=by
 rcases parseR_cases t with ⟨l,e1,hs,hr,hne,hll,hT,hz⟩ | ⟨c,b,e1,hc⟩
 ·rw [hp] at e1;cases e1;have hok:OkL v:=⟨by omega,fun n hn=>(hz n hn).okN (by omega)⟩;have h7':(v.getD 0 (ET.dft .node)).kind=7:=by rw [nd_get h0,h7]
  obtain ⟨L',hO⟩:=obj_read hs hr hok hT h7' fun d a b h=>oneS_tree hok d true a b h
  obtain ⟨nd',g1,g2,g3⟩:=hT.node;rw [h0] at g1;cases g1;have hk:=j_kids hok.1 h0 g2 g3 hpl;have hk':=hO.kids;rw [show ((0:Nat):Int)=0 from rfl] at hk;rw [hk] at hk';have e:=congrArg (List.map Int.toNat) (Option.some.inj hk');rw [upN_toNat,upN_toNat] at e;have hlen:=hO.len;rw [e];exact p_header (.obj v L' hp hs hr hO (by omega) hz)
 ·rw [hp] at e1;cases e1;exact (hc rfl).elim
theorem header_at {t:BA} {v:List Eng.Node} {L:List Nat} {nd:Eng.Node} (hs:t.size≤262144) (hr:qGn t=.ok t.size v) (h0:v[0]?=some nd) (h7:nd.kind=7) (hpl:qCp v nd.kids.toNat 1 L v.length):zaf_s t=some (hdrV v L):=by
 refine header_of ?_ h0 h7 hpl;unfold parseR;rw [if_neg (by omega),hr];rfl
def stT:BA:=⟨#[123,34,107,105,100,34,58,34,107,34,44,34,92,117,48,48,54,49,108,103,34,58,34,69,83,51,56,52,34,44,34,116,121,112,34,58,34,74,87,84,34,125]⟩
def stV:List Eng.Node:=[⟨7,⟨#[]⟩,⟨#[]⟩,false,0,3⟩,⟨5,hKid,⟨#[107]⟩,false,0,0⟩,⟨5,hAlg,⟨#[69,83,51,56,52]⟩,false,0,0⟩,⟨5,hTyp,⟨#[74,87,84]⟩,false,0,0⟩]
def stH:qIp:=⟨11,⟨#[107]⟩,⟨#[74,87,84]⟩,true⟩
theorem st_read:qGn stT=.ok stT.size stV:=by kernel_rfl
theorem st_pl:qCp stV 3 1 [1,2,3] 4:=⟨2,[2,3],rfl,qHo (a:=1) rfl rfl,3,[3],rfl,qHo (a:=2) rfl rfl,4,[],rfl,qHo (a:=3) rfl rfl,rfl,rfl⟩
theorem st_hv:hdrV stV [1,2,3]=(stH,0):=by kernel_rfl
theorem st_parse:zaf_s stT=some (stH,0):=by
 rw [header_at (v:=stV) (L:=[1,2,3]) (nd:=⟨7,⟨#[]⟩,⟨#[]⟩,false,0,3⟩) (by decide) st_read rfl rfl st_pl,st_hv]
def suT:BA:=⟨#[123,34,97,108,103,34,58,34,110,111,110,101,34,44,34,107,105,100,34,58,34,107,34,125]⟩
def suV:List Eng.Node:=[⟨7,⟨#[]⟩,⟨#[]⟩,false,0,2⟩,⟨5,hAlg,⟨#[110,111,110,101]⟩,false,0,0⟩,⟨5,hKid,⟨#[107]⟩,false,0,0⟩]
theorem su_read:qGn suT=.ok suT.size suV:=by kernel_rfl
theorem su_pl:qCp suV 2 1 [1,2] 3:=⟨2,[2],rfl,qHo (a:=1) rfl rfl,3,[],rfl,qHo (a:=2) rfl rfl,rfl,rfl⟩
theorem su_val:hdrV suV [1,2]=(noH,111):=by kernel_rfl
theorem su_parse:zaf_s suT=some (noH,111):=by
 rw [header_at (v:=suV) (L:=[1,2]) (nd:=⟨7,⟨#[]⟩,⟨#[]⟩,false,0,2⟩) (by decide) su_read rfl rfl su_pl,su_val]
def svV:List Eng.Node:=[⟨7,⟨#[]⟩,⟨#[]⟩,false,0,3⟩,⟨5,hAlg,⟨#[69,83,51,56,52]⟩,false,0,0⟩,⟨5,hKid,⟨#[107]⟩,false,0,0⟩,⟨5,hTyp,⟨#[74,87,84]⟩,false,0,0⟩]
def svT:BA:=⟨#[123,34,97,108,103,34,58,34,69,83,51,56,52,34,44,34,107,105,100,34,58,34,107,34,44,34,116,121,112,34,58,34,74,87,84,34,125]⟩
theorem sv_ok:OkL svV:=⟨by decide,fun n hn=>by
 simp only [svV,List.mem_cons,List.not_mem_nil,or_false] at hn;rcases hn with rfl | rfl | rfl | rfl <;> exact ⟨by decide,by decide,by unfold qAe; decide⟩⟩
theorem sv_shape:oneS svV 32 false 0=some 4:=by
 rw [oneS_C sv_ok];kernel_rfl
theorem sv_text:qAp svV 32 0=qAi svT:=by
 rw [prOne_C sv_ok];kernel_rfl
theorem sv_print:zaq_s svV=some (svT,0):=by
 rw [p_Print sv_ok,sv_shape,if_pos (show some 4=some svV.length from rfl),sv_text,if_neg (by decide)];rfl
theorem name_11:qC5 11=some ⟨#[69,83,51,56,52]⟩:=(qAa (by omega) _).trans (by kernel_rfl)
theorem sv_header:zag_s stH=some (svT,0):=by
 have v1:qAs stH.kid=some true:=(qAa (by decide) _).trans (by kernel_rfl);have v3:qAs stH.typ=some true:=(qAa (by decide) _).trans (by kernel_rfl);unfold zag_s;rw [show stH.alg=11 from rfl,name_11,obS,deF (by decide),cnF,v1,obS,Bool.not_true,cnF,show stH.hasTyp=true from rfl,cnT,v3,obS,Bool.not_true,cnF];refine (qAa (by simp) _).trans ((qAa (by simp) _).trans ((qAa (by simp) _).trans ((qAa (show qAe 3 by unfold qAe; omega) _).trans ((qAa (by simp) _).trans ((qAa (by simp) _).trans ((qAa (by simp) _).trans ((qAa (by simp) _).trans ?_)))))));exact (congrArg (fun o=>Option.bind o fun r4:BA × Int=>some (r4.1,r4.2)) sv_print).trans rfl
theorem getD_str {l:List BA} {i:Nat} (h:i<l.length):l.getD i (ET.dft .str)=l[i]:=by simp [List.getD,h]
theorem index_loop (v:BA) (l:List BA) (hl:l.length≤9223372036854775807):∀(j i:Nat),i+j=l.length →
  (∃k:Nat,zbt_p0 v (l.length:Int) (i:Int) l=some (.inl (k:Int))∧v∈l.drop i)∨(zbt_p0 v (l.length:Int) (i:Int) l=some (.inr ())∧¬v∈l.drop i)
 | 0,i,h=>by
  refine .inr ⟨?_,?_⟩
  ·unfold zbt_p0;refine qAj ?_;unfold qD0;rw [deF (by omega),cnF]
  ·rw [List.drop_eq_nil_of_le (by omega)];exact fun h=>by cases h
 | j+1,i,h=>by
  have hi:i<l.length:=by omega
  have hd:l.drop i=l[i]::l.drop (i+1):=List.drop_eq_getElem_cons hi;by_cases he:v=l[i]
  ·refine .inl ⟨i,?_,?_⟩
   ·unfold zbt_p0;refine qAj ?_;unfold qD0;rw [deT (by omega),cnT,qAa (by omega),qAa (by omega),Int.toNat_natCast,getD_str hi,deT he,cnT]
   ·rw [hd,he]; exact List.mem_cons_self
  ·have hst:qD0 v (l.length:Int) (i:Int) l=some (.inl ((i+1:Nat):Int)):=by
    unfold qD0;rw [deT (by omega),cnT,qAa (by omega),qAa (by omega),Int.toNat_natCast,getD_str hi,deF he,cnF];exact qAa (by unfold qAe; omega) _
   have hm:v∈l.drop i↔v∈l.drop (i+1):=by rw [hd,List.mem_cons]; simp [he]
   have ih:=index_loop v l hl j (i+1) (by omega);rw [hm];unfold zbt_p0 at ih ⊢;rw [qAu hst];exact ih
theorem contains_is (l:List BA) (hl:l.length≤9223372036854775807) (v:BA):zbs_s l v=some (decide (v∈l)):=by
 have h:=index_loop v l hl l.length 0 (by omega);rw [List.drop_zero,show ((0:Nat):Int)=0 from rfl] at h;unfold zbs_s zbt_s;rcases h with ⟨k,h,hm⟩ | ⟨h,hm⟩
 ·rw [h,obS,Sum.elim_inl,obS,deT (by omega),deT hm]
 ·rw [h,obS,Sum.elim_inr,obS,deF (by omega),deF hm]
def allowV (p:qI3) (h:qIp):Int:=if algS h.alg=⟨#[]⟩∨¬algS h.alg∈p.algs then 112 else if p.hasTyp=true∧¬(h.hasTyp=true∧h.typ=p.typ) then 113 else 0
theorem allow_is (p:qI3) (h:qIp) (ha:qAe h.alg) (hl:p.algs.length≤9223372036854775807):zae_s p h=some (allowV p h):=by
 have n1:qC5 h.alg=some (algS h.alg):=qAa (by unfold qAe at ha; omega) _;unfold zae_s allowV;rw [n1,obS,contains_is p.algs hl,obS];by_cases h1:algS h.alg=(⟨#[]⟩:BA)
 ·rw [deT h1,cnT,if_pos (.inl h1)]
 rw [deF h1,cnF];by_cases h2:algS h.alg∈p.algs
 ·rw [deT h2,Bool.not_true,cnF,if_neg (fun h=>h.elim h1 (fun g=>g h2))];cases p.hasTyp <;> cases h.hasTyp <;> by_cases h3:h.typ=p.typ <;> simp [h3]
 ·rw [deF h2,Bool.not_false,cnT,if_pos (.inr h2)]
theorem started_is:zbr_s=some true:=by
 have e1:=st_parse;have e2:=sv_header;have e3:=su_parse;have a1:=allow_is ⟨[(⟨#[110,111,110,101]⟩:BA),(⟨#[69,83,51,56,52]⟩:BA)],(⟨#[]⟩:BA),false,(⟨#[]⟩:BA),false,(⟨#[74,87,84]⟩:BA),true,(0:Int),[]⟩ stH (by unfold qAe; decide) (by decide);have a2:=allow_is ⟨[],(⟨#[]⟩:BA),false,(⟨#[]⟩:BA),false,(⟨#[]⟩:BA),false,(0:Int),[]⟩ stH (by unfold qAe; decide) (by decide);have b1:allowV ⟨[(⟨#[110,111,110,101]⟩:BA),(⟨#[69,83,51,56,52]⟩:BA)],(⟨#[]⟩:BA),false,(⟨#[]⟩:BA),false,(⟨#[74,87,84]⟩:BA),true,(0:Int),[]⟩ stH=0:=by decide +kernel
 have b2:allowV ⟨[],(⟨#[]⟩:BA),false,(⟨#[]⟩:BA),false,(⟨#[]⟩:BA),false,(0:Int),[]⟩ stH=112:=by decide +kernel
 rw [b1] at a1;rw [b2] at a2;unfold stT at e1;unfold suT at e3;unfold zbr_s;rw [e1,obS,e2,obS,e3,obS,a1,obS,a2];rfl
theorem algFrom_is (s:BA):∀j k:Nat,qDf s j k≠0→qFd (qDf s j k)=s∧k≤qDf s j k∧qDf s j k<k+j
 | 0,k,h=>(h rfl).elim
 | j+1,k,h=>by
  unfold qDf at h ⊢;by_cases hk:qFd k=s
  ·rw [if_pos hk];exact ⟨hk,Nat.le_refl _,by omega⟩
  ·rw [if_neg hk] at h ⊢;have ih:=algFrom_is s j (k+1) h;exact ⟨ih.1,by omega,by omega⟩
theorem algS_of {s:BA} (h:qE3 s≠0):algS (qE3 s:Int)=s∧qE3 s<13∧1≤qE3 s:=by
 have h1:=algFrom_is s 12 1 h;have h2:qE3 s=qDf s 12 1:=rfl;rw [←h2] at h1;refine ⟨?_,by omega,by omega⟩;unfold algS;rw [if_neg (by omega),Int.toNat_natCast];exact h1.1
end Go.Proofs.YticplgndjpljiaaDoor
