/-
  The two tables of unicode/utf8, as a row lists them.
-/
import Derived.Below
import Derived.Carry
import Derived.ProofKit
import Derived.Deep.Slices
import Derived.Deep.Fields
import Derived.ChangeSame
import Derived.SliceStrings
import Derived.SizedLaws
import Derived.Lib.LaidU8
import Derived.Shelf.Lay
import Derived.Ground.NamesProg
import Derived.Test.YtdcoiccdbgcpaaaDoorPBack
import Derived.Test.YtdcoiccdbgcpaaaDoorPFind
import Derived.Test.YtdcoiccdbgcpaaaDoorEngN
import Derived.Test.YtdcoiccdbgcpaaaDoorRows
import Derived.Test.YtdcoiccdbgcpaaaDoorEngO
import Derived.Test.YtdcoiccdbgcpaaaDoorProg
namespace Go.Proofs.YtdcoiccdbgcpaaaDoor
open Go.Eng
set_option linter.unusedVariables false
set_option linter.unusedSimpArgs false
theorem escL_app (x y:List Int):escL (x++y)=escL x++escL y:=by unfold escL; rw [List.flatMap_append]
theorem escB_high {c:Int} (h:32≤c) (h1:c≠34) (h2:c≠92):escB c=[c]:=by
 unfold escB
 rw [if_neg (by omega),if_neg (by omega),if_neg (by omega),if_neg (by omega),if_neg (by omega),if_neg (by omega),if_neg (by omega)]
theorem escL_high:∀ {l:List Int},(∀x∈l,128≤x)→(escL l).length=l.length
 | [],_=>rfl
 | c::l,h=>by
  show (escB c++escL l).length=_
  have:=h c List.mem_cons_self
  rw [escB_high (by omega) (by omega) (by omega),List.length_append,escL_high fun x hx=>h x (List.mem_cons_of_mem _ hx)]
  simp only [List.length_cons,List.length_nil]
  omega
theorem escL_utf {u:Int} (h:Code u):(escL (utfL u)).length≤6∧((u=34∨u=92∨u=47∨u=8∨u=12∨u=10∨u=13∨u=9)→(escL (utfL u)).length≤2):=by
 unfold Code at h
 by_cases h1:u<128
 ·rw [utfL_one h1]
  have e:escL [u]=escB u:=by show escB u++[]=_; rw [List.append_nil]
  rw [e]
  refine ⟨(escB_len u).2,fun hu=>?_⟩
  rcases hu with rfl | rfl | rfl | rfl | rfl | rfl | rfl | rfl <;> decide
 ·have hl:=utfL_len u
  rw [escL_high (by
   intro x hx
   unfold utfL at hx
   rw [if_neg h1] at hx
   repeat' split at hx
   all_goals
    simp only [List.mem_cons,List.not_mem_nil,or_false] at hx
    omega)]
  exact ⟨by omega,fun hu=>by omega⟩
theorem saidS_cases {c:Int} (h:0≤saidS c):saidS c=34∨saidS c=92∨saidS c=47∨saidS c=8∨saidS c=12∨saidS c=10∨saidS c=13∨saidS c=9:=by
 unfold saidS at h ⊢
 repeat' split
 all_goals omega
theorem escR_short {t:ByteArray} {a b:Nat} {u:Int} (h:escR t a=.ok b u):(escL (utfL u)).length≤b - a:=by
 have hok:=escR_ok h
 have hl:=escL_utf hok.2.2
 unfold escR at h
 split at h
 ·cases h
 ·split at h
  ·split at h
   ·cases h
   ·rename_i b' u' hf
    have h4:=fourR_ok hf
    split at h
    ·cases h
     omega
    ·unfold pairR at h
     repeat' split at h
     all_goals first | (cases h; done) | skip
     rename_i hw
     have h6:=fourR_ok hw
     cases h
     omega
  ·split at h
   ·cases h
   ·cases h
    have:=hl.2 (saidS_cases (by omega))
    omega
theorem bytesL_seq_high {t:ByteArray} {a:Nat} (ha:a<t.size) (h8:128≤by8 t a) (hk:seqK t a=0):∀x∈qAg (t.extract a (a+seqW t a)),128≤x:=by
 intro x hx
 have hw:=qDm ha h8 hk
 obtain ⟨i,hi,rfl⟩:=List.getElem_of_mem hx
 rw [qAk,ByteArray.size_extract] at hi
 have h1:=qDe (s:=t.extract a (a+seqW t a)) (i:=i) (by rw [ByteArray.size_extract]; omega)
 rw [List.getElem?_eq_getElem (by rw [qAk,ByteArray.size_extract]; omega),snJ] at h1
 rw [h1,qC9 t a _ (i:Int) (by omega) (by omega)]
 have h2:=seq_high ha h8 hk i (by omega)
 have h3:=qDg (t:=t) (i:=a+i) (by omega)
 rw [show (a:Int)+(i:Int)=((a+i:Nat):Int) by omega]
 omega
theorem qEd {t:ByteArray}:∀ {n a b:Nat} {acc l:List Int},quoR t n a acc=.ok b l→(escL l).length+1≤(escL acc).length+(b - a)
 | 0,a,b,acc,l,h=>by cases h
 | n+1,a,b,acc,l,h=>by
  unfold quoR at h
  split at h
  ·cases h
  ·rename_i h0
   have ha:=qAt (t:=t) (a:=a) (by omega)
   split at h
   ·cases h
    omega
   ·split at h
    ·split at h
     ·cases h
     ·rename_i b' u he
      have h1:=escR_ok he
      have h2:=escR_short he
      have hr:b'≤b:=by
       have:=qEd h
       by_cases hb:b'≤b
       ·exact hb
       ·exfalso
        rw [show b - b'=0 by omega] at this
        have hle:(escL (acc++utfL u)).length≤(escL l).length:=quoR_grow h
        omega
      have:=qEd h
      rw [escL_app,List.length_append] at this
      omega
    ·split at h
     ·have hr:a+1≤b:=by
       have:=qEd h
       by_cases hb:a+1≤b
       ·exact hb
       ·exfalso
        rw [show b - (a+1)=0 by omega] at this
        have hle:=quoR_grow h
        omega
      have:=qEd h
      rw [escL_app,List.length_append,show escL [bAt t (a:Int)]=escB (bAt t (a:Int)) by show escB _++[]=_; rw [List.append_nil],escB_high (by omega) (by omega) (by omega)] at this
      simp only [List.length_cons,List.length_nil] at this
      omega
     ·split at h
      ·rename_i hk
       have h8:128≤by8 t a:=by have:=qDg ha; omega
       have hw:=qDm ha h8 hk
       have hr:a+seqW t a≤b:=by
        have:=qEd h
        by_cases hb:a+seqW t a≤b
        ·exact hb
        ·exfalso
         rw [show b - (a+seqW t a)=0 by omega] at this
         have hle:=quoR_grow h
         omega
       have:=qEd h
       rw [escL_app,List.length_append,escL_high (bytesL_seq_high ha h8 hk),qAk,ByteArray.size_extract] at this
       omega
      ·cases h
where
 quoR_grow {t:ByteArray}:∀ {n a b:Nat} {acc l:List Int},quoR t n a acc=.ok b l→(escL acc).length≤(escL l).length
 | 0,a,b,acc,l,h=>by cases h
 | n+1,a,b,acc,l,h=>by
  unfold quoR at h
  split at h
  ·cases h
  ·split at h
   ·cases h
    exact Nat.le_refl _
   ·split at h
    ·split at h
     ·cases h
     ·have:=quoR_grow h
      rw [escL_app,List.length_append] at this
      omega
    ·split at h
     ·have:=quoR_grow h
      rw [escL_app,List.length_append] at this
      omega
     ·split at h
      ·have:=quoR_grow h
       rw [escL_app,List.length_append] at this
       omega
      ·cases h
theorem quoL_short {t:ByteArray} {n a b:Nat} {l:List Int} (h:quoR t n (a+1) []=.ok b l):(quoL (qAw l)).length≤b - a:=by
 have h1:=qEd h
 have h2:=qEa h (by simp)
 unfold quoL
 rw [bytesL_of h2.2.2.1,List.length_cons,List.length_append,List.length_singleton]
 have:(escL ([]:List Int)).length=0:=rfl
 omega
theorem scalR_short {t:ByteArray} {a b:Nat} {l:List Eng.Node} (ha:a≤t.size) (h:scalR t a=.ok b l):∃n,l=[n]∧n.kind<6∧∀k,(scalL (setK k n)).length≤b - a:=by
 unfold scalR at h
 split at h
 ·split at h
  ·cases h
  ·rename_i h1
   have:=quoL_short h1
   cases h
   exact ⟨_,rfl,by show (5:Int)<6; decide,fun k=>this⟩
 ·split at h
  ·split at h
   ·cases h
   ·rename_i hc _ b1 x1 h1
    have hlt:=qAt (t:=t) (a:=a) (by omega)
    have h2:=numR_adv hlt h1
    cases h
    refine ⟨_,rfl,by show (4:Int)<6; decide,fun k=>?_⟩
    show (qAg (t.extract a _)).length≤_
    rw [qAk,ByteArray.size_extract]
    omega
  ·have lit:∀(w:List Int) (b:Nat) (x:Unit),(∀c∈w,0≤c)→litR t w a=.ok b x→w.length≤b - a:=fun w b x hw hl=>by
    have:=(litR_adv hw hl).1
    omega
   split at h
   ·split at h
    ·cases h
    ·rename_i h1
     have:=lit _ _ _ (by decide) h1
     cases h
     exact ⟨_,rfl,by show (1:Int)<6; decide,fun k=>this⟩
   ·split at h
    ·split at h
     ·cases h
     ·rename_i h1
      have:=lit _ _ _ (by decide) h1
      cases h
      exact ⟨_,rfl,by show (2:Int)<6; decide,fun k=>this⟩
    ·split at h
     ·split at h
      ·cases h
      ·rename_i h1
       have:=lit _ _ _ (by decide) h1
       cases h
       exact ⟨_,rfl,by show (3:Int)<6; decide,fun k=>this⟩
     ·cases h
def ShortAt (t:ByteArray) (d:Nat) (val:Nat→Rd (List Eng.Node)):Prop:=∀a b l,a≤t.size→val a=.ok b l→∀(k:ByteArray) (obj:Bool) (pre post:List Eng.Node),KeyOK obj k→(prOne (pre++qBu k l++post) d pre.length).length≤b - a
theorem getD_pre (pre post:List Eng.Node) (n:Eng.Node) (l:List Eng.Node) (x:Eng.Node):(pre++(n::l)++post).getD pre.length x=n:=by
 rw [List.getD_eq_getElem?_getD,at_pre]
 rfl
theorem leaf_short {t:ByteArray} {a b:Nat} {l:List Eng.Node} (ha:a≤t.size) (h:scalR t a=.ok b l) (d:Nat) (k:ByteArray) (pre post:List Eng.Node):(prOne (pre++qBu k l++post) d pre.length).length≤b - a:=by
 obtain ⟨n,rfl,hk,hl⟩:=scalR_short ha h
 have e:(pre++qBu k [n]++post).getD pre.length (ET.dft .node)=setK k n:=getD_pre pre post (setK k n) [] _
 have hk2:(setK k n).kind<6:=hk
 cases d with
 | zero =>
  unfold prOne
  rw [e]
  exact hl k
 | succ d =>
  unfold prOne
  rw [e,if_pos hk2]
  exact hl k
theorem rowR_short {t:ByteArray} {d:Nat} {val:Nat→Rd (List Eng.Node)} (hv:Adv t val) (hk0:∀a b l,val a=.ok b l→qBu ⟨#[]⟩ l=l) (hS:ShapeAt t d val) (hL:ShortAt t d val) {obj:Bool}:∀ {m a k:Nat} {acc:List Eng.Node} {names:List ByteArray} {b:Nat} {x:Nat × List Eng.Node},a≤t.size→rowR t val obj m a k acc names=.ok b x →
  ∃(j:Nat) (more:List Eng.Node),x.1=k+(j+1)∧x.2=acc++more∧∀(pre post:List Eng.Node),(qA7 (pre++more++post) (oneS (pre++more++post) d obj) (prOne (pre++more++post) d) obj (j+1) pre.length true).length+1≤b - a
 | 0,a,k,acc,names,b,x,ha,h=>by cases h
 | m+1,a,k,acc,names,b,x,ha,h=>by
  have hadvAll:=rowR_adv hv ha h
  unfold rowR at h
  split at h
  ·cases h
  ·rename_i b1 y h1
   obtain ⟨a',l,ha',hl,hy,hne,hkey,hmem⟩:=itemR_shape hv hk0 ha h1
   have hadv:=itemR_adv hv ha h1
   have hlen:y.2.length=l.length:=by rw [hy,qF9]
   have one:∀pre post,oneS (pre++y.2++post) d obj pre.length=some (pre.length+y.2.length)∧keyAt (pre++y.2++post) pre.length=y.1∧(prOne (pre++y.2++post) d pre.length).length≤b1 - a':=fun pre post=>by
    rw [hlen,hy]
    exact ⟨hS _ _ _ ha' hl _ obj pre post hkey,keyAt_pre pre post _ hne,hL _ _ _ ha' hl _ obj pre post hkey⟩
   have item:∀pre post,(keyL (pre++y.2++post) obj pre.length).length+(prOne (pre++y.2++post) d pre.length).length≤b1 - a:=by
    intro pre post
    obtain ⟨o1,o2,o3⟩:=one pre post
    unfold itemR at h1
    cases obj with
    | false =>
     rw [if_neg (by decide)] at h1
     cases hva:val a with
     | bad c b=>rw [hva] at h1; cases h1
     | ok b2 l2 =>
      rw [hva] at h1
      dsimp only at h1
      have hy2:y=(⟨#[]⟩,l2):=by cases h1; rfl
      have hb2:b1=b2:=by cases h1; rfl
      have h3:=hL _ _ _ ha hva ⟨#[]⟩ false pre post ⟨rfl,.inr rfl⟩
      rw [hk0 _ _ _ hva] at h3
      rw [hy2,hb2]
      show 0+_≤_
      rw [Nat.zero_add]
      exact h3
    | true =>
     rw [if_pos rfl] at h1
     split at h1
     ·rename_i h34
      have hla:=qAt (t:=t) (a:=a) (by omega)
      split at h1
      ·cases h1
      ·rename_i bq lq hq
       have hqs:=quoL_short hq
       have hqo:=qEa hq (by simp)
       split at h1
       ·cases h1
       ·split at h1
        ·rename_i h58
         have h3:=qAt (t:=t) (a:=skipS t bq) (by omega)
         have h4:=qBr t bq
         have h5:=qBr t (skipS t bq+1)
         have h6:=qAu t (skipS t bq+1) (by omega)
         split at h1
         ·cases h1
         ·rename_i b3 l3 h7
          have h8:=hv _ _ _ h6 h7
          have hy2:y=(qAw lq,qBu (qAw lq) l3):=by cases h1; rfl
          have hb2:b1=b3:=by cases h1; rfl
          have h9:=hL _ _ _ h6 h7 (qAw lq) true pre post ⟨(qE3 hq qCz.nil).bytes,.inl rfl⟩
          rw [hy2] at o2 ⊢
          rw [hb2]
          dsimp only at o2 h9 ⊢
          unfold keyL
          rw [if_pos rfl,o2,List.length_append,List.length_singleton]
          omega
        ·cases h1
     ·cases h1
   have k1:=qBr t b1
   have k2:=qAu t b1 hadv.2.1
   have unf:∀(w:List Eng.Node) (p e j:Nat),oneS w d obj p=some e→(qA7 w (oneS w d obj) (prOne w d) obj (j+1) p true).length=(keyL w obj p).length+((prOne w d p).length+(qA7 w (oneS w d obj) (prOne w d) obj j e false).length):=fun w p e j ho=>by
    show (qFf true++(keyL w obj p++(prOne w d p++qA7 w (oneS w d obj) (prOne w d) obj j ((oneS w d obj p).getD 0) false))).length=_
    rw [ho]
    simp [qFf]
   split at h
   ·cases h
    refine ⟨0,y.2,rfl,rfl,fun pre post=>?_⟩
    have h1:=item pre post
    rw [unf _ _ _ 0 (one pre post).1]
    show _+(_+0)+1≤_
    omega
   ·split at h
    ·rename_i hcm
     have h3:=qAt (t:=t) (a:=skipS t b1) (by omega)
     have k3:=qBr t (skipS t b1+1)
     have k4:=qAu t (skipS t b1+1) (by omega)
     obtain ⟨j,more,e1,e2,h4⟩:=rowR_short hv hk0 hS hL k4 h
     have h4a:=rowR_adv hv k4 h
     refine ⟨j+1,y.2++more,by omega,by rw [e2,List.append_assoc],fun pre post=>?_⟩
     have o1:=one pre (more++post)
     have i1:=item pre (more++post)
     have h5:=h4 (pre++y.2) post
     have e3:pre++(y.2++more)++post=pre++y.2++(more++post):=by simp
     have e4:pre++y.2++more++post=pre++y.2++(more++post):=by simp
     rw [e4,List.length_append] at h5
     rw [e3,unf _ _ _ (j+1) o1.1]
     have e5:∀(w:List Eng.Node) (p:Nat),(qA7 w (oneS w d obj) (prOne w d) obj (j+1) p false).length=1+(qA7 w (oneS w d obj) (prOne w d) obj (j+1) p true).length:=fun w p=>by
      show (([44]:List Int)++_).length=1+(([]:List Int)++_).length
      rw [List.length_append,List.nil_append]
      rfl
     rw [e5]
     omega
    ·cases h
theorem valR_short {t:ByteArray} (hs:t.size≤600000):∀d,ShortAt t d (valR t d)
 | 0=>fun a b l ha h k obj pre post hk=>by
  unfold valR at h
  split at h
  ·cases h
  ·exact leaf_short ha h 0 k pre post
 | d+1=>fun a b l ha h k obj pre post hk=>by
  unfold valR at h
  split at h
  ·have hlt:=qAt (t:=t) (a:=a) (by omega)
   generalize hob:decide (bAt t (a:Int)=123)=ob at h
   have k1:=qBr t (a+1)
   have k2:=qAu t (a+1) (by omega)
   have hn6:¬kindC ob<6:=by cases ob <;> decide
   have hk7:decide (kindC ob=7)=ob:=by cases ob <;> rfl
   unfold boxR at h
   split at h
   ·cases h
    have e:(pre++qBu k [nd0 (kindC ob) ⟨#[]⟩ false 0 0]++post).getD pre.length (ET.dft .node)=setK k (nd0 (kindC ob) ⟨#[]⟩ false 0 0):=getD_pre pre post _ [] _
    unfold prOne
    rw [e]
    show (if kindC ob<6 then _ else _:List Int).length≤_
    rw [if_neg hn6]
    show (_::([]++[_])).length≤_
    simp only [List.nil_append,List.length_cons,List.length_nil]
    omega
   ·split at h
    ·cases h
    ·rename_i b1 x h1
     cases h
     obtain ⟨j,more,e1,e2,h3⟩:=rowR_short (qC6 t d) (fun a b l h=>valR_key h) (valR_shape hs d) (valR_short hs d) k2 h1
     simp only [List.nil_append,Nat.zero_add] at e1 e2
     rw [e1,e2]
     have h4:=h3 (pre++[setK k (nd0 (kindC ob) ⟨#[]⟩ false 0 ((j+1:Nat):Int))]) post
     have e3:pre++[setK k (nd0 (kindC ob) ⟨#[]⟩ false 0 ((j+1:Nat):Int))]++more++post=pre++(setK k (nd0 (kindC ob) ⟨#[]⟩ false 0 ((j+1:Nat):Int))::more)++post:=by simp
     rw [e3,List.length_append,List.length_singleton] at h4
     have e:(pre++(setK k (nd0 (kindC ob) ⟨#[]⟩ false 0 ((j+1:Nat):Int))::more)++post).getD pre.length (ET.dft .node)=setK k (nd0 (kindC ob) ⟨#[]⟩ false 0 ((j+1:Nat):Int)):=getD_pre pre post _ more _
     show (prOne (pre++(setK k (nd0 (kindC ob) ⟨#[]⟩ false 0 ((j+1:Nat):Int))::more)++post) (d+1) pre.length).length≤_
     unfold prOne
     rw [e]
     show (if kindC ob<6 then _ else (if kindC ob=7 then 123 else 91)::(qA7 _ (oneS _ d (decide (kindC ob=7))) _ (decide (kindC ob=7)) (Int.toNat ((j+1:Nat):Int)) _ true++[_]):List Int).length≤_
     rw [if_neg hn6,hk7,Int.toNat_natCast]
     simp only [List.length_cons,List.length_append,List.length_nil]
     omega
  ·exact leaf_short ha h (d+1) k pre post
theorem readR_short {t:ByteArray} (hs:t.size≤262144) {b:Nat} {l:List Eng.Node} (h:readR t=.ok b l):(prOne l 32 0).length≤t.size:=by
 unfold readR at h
 have k:=qAu t 0 (by omega)
 split at h
 ·cases h
 ·rename_i b1 l1 h1
  have h2:=qC6 t 32 _ _ _ k h1
  have:=valR_short (t:=t) (by omega) 32 _ _ _ k h1 ⟨#[]⟩ false [] [] ⟨rfl,.inr rfl⟩
  rw [valR_key h1,List.nil_append,List.append_nil,List.length_nil] at this
  split at h
  ·cases h
  ·cases h
   omega
def pC (n:Eng.Node):Bool :=
 (decide (n.kind=4) && decide (n.kids=0) && qBi n.text && (n.whole == (qDf n.text).2) && decide (n.int=(qDf n.text).1)) ||
 (decide (n.kind=5) && decide (n.kids=0) && !n.whole && decide (n.int=0) && Lib.validD n.text.data.toList) ||
 ((decide (n.kind=1) || decide (n.kind=2) || decide (n.kind=3)) && decide (n.kids=0) && !n.whole && decide (n.int=0) && decide (n.text=⟨#[]⟩)) ||
 ((decide (n.kind=6) || decide (n.kind=7)) && decide (0≤n.kids) && !n.whole && decide (n.int=0) && decide (n.text=⟨#[]⟩))
theorem pB_C {n:Eng.Node} (hn:n.text.size≤3000000):pB n=pC n:=by
 rw [Bool.eq_iff_iff]
 unfold pC
 simp only [Bool.or_eq_true,Bool.and_eq_true,decide_eq_true_eq,beq_iff_eq,Bool.not_eq_true']
 constructor
 ·intro h
  rcases pB_inv hn h with ⟨a,b,c,d,e⟩ | ⟨a,b,c,d,e⟩ | ⟨a,b,c,d,e⟩ | ⟨a,b,c,d,e⟩
  ·exact .inl (.inl (.inl ⟨⟨⟨⟨a,b⟩,c⟩,d⟩,e⟩))
  ·exact .inl (.inl (.inr ⟨⟨⟨⟨a,b⟩,c⟩,d⟩,e⟩))
  ·exact .inl (.inr ⟨⟨⟨⟨by omega,b⟩,c⟩,d⟩,e⟩)
  ·exact .inr ⟨⟨⟨⟨a,b⟩,c⟩,d⟩,e⟩
 ·rintro (((h | h) | h) | h)
  ·exact pB_num hn h.1.1.1.1 h.1.1.1.2 h.1.1.2 h.1.2 h.2
  ·exact pB_str hn h.1.1.1.1 h.1.1.1.2 h.1.1.2 h.1.2 h.2
  ·exact pB_bare (by omega) h.1.1.1.2 h.1.1.2 h.1.2 h.2
  ·exact pB_box h.1.1.1.1 h.1.1.1.2 h.1.1.2 h.1.2 h.2
def okC (obj:Bool) (n:Eng.Node):Bool:=pC n && Lib.validD n.key.data.toList && (obj || decide (n.key=(⟨#[]⟩:ByteArray)))
def kidsC (v:List Eng.Node) (one:Nat→Option Nat) (obj:Bool):Nat→Nat→List ByteArray→Option Nat
 | 0,a,_=>some a
 | k+1,a,names=>match one a with
  | none=>none
  | some e=>if obj=true∧keyAt v a∈names then none else kidsC v one obj k e (names++[keyAt v a])
def oneC (v:List Eng.Node):Nat→Bool→Nat→Option Nat
 | 0,obj,a=>match v[a]? with
  | none=>none
  | some n=>if okC obj n=true∧n.kind<6 then some (a+1) else none
 | d+1,obj,a=>match v[a]? with
  | none=>none
  | some n=>if okC obj n=true then kidsC v (oneC v d (decide (n.kind=7))) (decide (n.kind=7)) n.kids.toNat (a+1) [] else none
theorem kidsS_C {v:List Eng.Node} {one one':Nat→Option Nat} {obj:Bool} (h:∀a,one a=one' a):∀(k a:Nat) (names:List ByteArray),kidsS v one obj k a names=kidsC v one' obj k a names
 | 0,a,names=>rfl
 | k+1,a,names=>by
  unfold kidsS kidsC
  rw [h a]
  cases one' a with
  | none=>rfl
  | some e =>
   dsimp only
   rw [kidsS_C h k e]
theorem oneS_C {v:List Eng.Node} (hv:OkL v):∀(d:Nat) (obj:Bool) (a:Nat),oneS v d obj a=oneC v d obj a
 | 0,obj,a=>by
  unfold oneS oneC
  cases hn:v[a]? with
  | none=>rfl
  | some n =>
   dsimp only
   have:okB obj n=okC obj n:=by unfold okB okC; rw [pB_C (hv.2 n (List.mem_of_getElem? hn)).text]
   rw [this]
 | d+1,obj,a=>by
  unfold oneS oneC
  cases hn:v[a]? with
  | none=>rfl
  | some n =>
   dsimp only
   have:okB obj n=okC obj n:=by unfold okB okC; rw [pB_C (hv.2 n (List.mem_of_getElem? hn)).text]
   rw [this,kidsS_C (fun a=>oneS_C hv d _ a)]
def prKidsC (v:List Eng.Node) (one:Nat→Option Nat) (pr:Nat→List Int) (obj:Bool):Nat→Nat→Bool→List Int
 | 0,_,_=>[]
 | k+1,a,first=>qFf first++(keyL v obj a++(pr a++prKidsC v one pr obj k ((one a).getD 0) false))
def prC (v:List Eng.Node):Nat→Nat→List Int
 | 0,a=>scalL (v.getD a (ET.dft .node))
 | d+1,a =>
  if (v.getD a (ET.dft .node)).kind<6 then scalL (v.getD a (ET.dft .node))
  else (if (v.getD a (ET.dft .node)).kind=7 then 123 else 91)::(prKidsC v (oneC v d (decide ((v.getD a (ET.dft .node)).kind=7))) (prC v d) (decide ((v.getD a (ET.dft .node)).kind=7)) (v.getD a (ET.dft .node)).kids.toNat (a+1) true++[if (v.getD a (ET.dft .node)).kind=7 then 125 else 93])
theorem prKids_C {v:List Eng.Node} {one one':Nat→Option Nat} {pr pr':Nat→List Int} {obj:Bool} (h:∀a,one a=one' a) (hp:∀a,pr a=pr' a):∀(k a:Nat) (first:Bool),qA7 v one pr obj k a first=prKidsC v one' pr' obj k a first
 | 0,a,first=>rfl
 | k+1,a,first=>by
  unfold qA7 prKidsC
  rw [h a,hp a,prKids_C h hp k]
theorem prOne_C {v:List Eng.Node} (hv:OkL v):∀(d a:Nat),prOne v d a=prC v d a
 | 0,a=>rfl
 | d+1,a=>by
  unfold prOne prC
  rw [prKids_C (fun a=>oneS_C hv d _ a) (fun a=>prOne_C hv d a)]
theorem p_Print {v:List Eng.Node} (hv:OkL v):zak_s v=some (if oneS v 32 false 0=some v.length then (if 262144<(prOne v 32 0).length then ((⟨#[]⟩:ByteArray),10) else (qAw (prOne v 32 0),0)) else (⟨#[]⟩,31)):=by
 have hlen:=hv.1
 unfold zak_s
 rw [prog_Shaped hv,obS]
 by_cases hsh:oneS v 32 false 0=some v.length
 ·rw [deT hsh,Bool.not_true,cnF,if_pos hsh]
  have hsp:zbj_s (⟨false,[]⟩:strings_Builder) v 0=some (⟨true,[]++prOne v 32 0⟩,(v.length:Int)):=evt_eq (N:=33) fun n hn=>by
   have:=sp_all hv 32 false 0 v.length n hsh (by omega) false [] (by show 0+_≤_; omega)
   rwa [show ((0:Nat):Int)=0 from rfl] at this
  rw [hsp,obS,List.nil_append]
  unfold zbo_s
  rw [obS]
  dsimp only
  by_cases hbig:262144<(prOne v 32 0).length
  ·rw [deT (show (262144:Int)<((prOne v 32 0).length:Int) by omega),cnT,if_pos hbig]
  ·rw [deF (show ¬(262144:Int)<((prOne v 32 0).length:Int) by omega),cnF,if_neg hbig]
   have hne:=prOne_some hv hsh
   have hpos:0<(prOne v 32 0).length:=List.length_pos_iff.2 hne
   have:zbp_s ⟨true,prOne v 32 0⟩=some (⟨true,[]⟩,qAw (prOne v 32 0)):=by
    unfold zbp_s
    refine (qAa hpos _).trans ?_
    exact (qAa ⟨rfl,hpos,prOne_range v 32 0⟩ _).trans rfl
   rw [this,obS]
 ·rw [deF hsh,Bool.not_false,cnT,if_neg hsh]
end Go.Proofs.YtdcoiccdbgcpaaaDoor
namespace Go.Proofs.YtdcoiccdbgcpaaaDoor
open Go.Eng
set_option linter.unusedVariables false
set_option linter.unusedSimpArgs false
theorem by_trim:∀(m:Nat) (o:List Int),o.length=m→m≤100000→∃k,k≤m∧zbn_p1 o=some (o.take k)∧(0<k→0<o.getD (k - 1) (ET.dft .i64))
 | 0,o,h,hm=>by
  refine ⟨0,by omega,?_,fun h=>by omega⟩
  have:o=[]:=List.eq_nil_of_length_eq_zero h
  subst this
  unfold zbn_p1
  refine qAh ?_
  unfold qD7
  rw [qAa (fun h=>by simp at h),qAa (fun h=>by simp at h),qAa (fun h=>by simp at h)]
  rfl
 | m+1,o,h,hm=>by
  have hlen:Int.toNat ((o.length:Int) - 1)=m:=by omega
  by_cases hc:o.getD m (ET.dft .i64)≤0
  ·obtain ⟨k,k1,k2,k3⟩:=by_trim m (o.take m) (by rw [List.length_take]; omega) (by omega)
   refine ⟨k,by omega,?_,fun hk=>?_⟩
   ·unfold zbn_p1 at k2 ⊢
    rw [qAr (y:=o.take m) ?_,k2,List.take_take,Nat.min_eq_left k1]
    unfold qD7
    rw [qAa (fun _=>by unfold InI64; omega),qAa (fun _=>by omega),qAa (fun _=>by omega),hlen,deT (show (0:Int)<o.length by omega),deT hc,Bool.and_self,cnT,qAa (by unfold InI64; omega),qAa (by omega)]
   ·have:=k3 hk
    rw [List.getD_eq_getElem?_getD,List.getElem?_take_of_lt (by omega)] at this
    rw [List.getD_eq_getElem?_getD]
    exact this
  ·refine ⟨m+1,Nat.le_refl _,?_,fun _=>by rw [Nat.add_sub_cancel]; omega⟩
   rw [List.take_of_length_le (by omega)]
   unfold zbn_p1
   refine qAh ?_
   unfold qD7
   rw [qAa (fun _=>by unfold InI64; omega),qAa (fun _=>by omega),qAa (fun _=>by omega),hlen,deF hc,Bool.and_false,cnF]
theorem getD_mem {o:List Int} {k:Nat} (h:k<o.length):o.getD k (ET.dft .i64)∈o:=by
 rw [List.getD_eq_getElem?_getD,List.getElem?_eq_getElem h]
 exact List.getElem_mem h
theorem by_loop {v:List Eng.Node} (hv:OkL v):∀(j i:Nat) (o:List Int),i+j=v.length→o.length≤65536→(∀x∈o,InI64 x)→∃y,zbn_p0 (i:Int) v o=some y
 | 0,i,o,h,ho,hi=>by
  refine ⟨.inr (),?_⟩
  unfold zbn_p0
  refine qAh ?_
  unfold qD5
  dsimp only
  rw [deF (by omega),cnF]
 | j+1,i,o,h,ho,hi=>by
  have hlen:=hv.1
  obtain ⟨k,k1,k2,k3⟩:=by_trim o.length o rfl (by omega)
  obtain ⟨n,_,hmem,hget⟩:=nd_some (v:=v) (a:=i) (by omega)
  have hkids:=(hv.2 n hmem).kids
  have p2:∀q:List Int,q.length=k→(∀x∈q,InI64 x)→∃z,zbn_p2 (i:Int) v q=some z∧(z=.inl true∨∃q',z=.inr q'∧q'.length≤65536∧∀x∈q',InI64 x):=by
   intro q hq hx
   unfold zbn_p2
   rw [qAa (by omega),Int.toNat_natCast,qAa (by omega),qAa (by omega),hget,qAa (by simp only [List.length_singleton]; omega)]
   by_cases h6:(65536:Int)<(q++[n.kids]).length
   ·rw [deT h6,cnT]
    exact ⟨_,rfl,.inl rfl⟩
   ·rw [deF h6,cnF]
    refine ⟨_,rfl,.inr ⟨_,rfl,by omega,fun x hx'=>?_⟩⟩
    rcases List.mem_append.1 hx' with h | h
    ·exact hx x h
    ·rw [List.mem_singleton] at h
     rw [h]; exact hkids
  have hstep:∃y,qD5 (i:Int) v o=some y∧((∃z,y=.inr z)∨∃q,y=.inl (((i+1:Nat):Int),q)∧q.length≤65536∧∀x∈q,InI64 x):=by
   unfold qD5
   rw [deT (by omega),cnT,k2,obS]
   have hk8:(o.take k).length=k:=by rw [List.length_take]; omega
   have htk:∀x∈o.take k,InI64 x:=fun x hx=>hi x (List.mem_of_mem_take hx)
   have fin:∀q:List Int,q.length=k→(∀x∈q,InI64 x)→∃y,((zbn_p2 (i:Int) v q).bind fun o9=>(Sum.elim (fun (o9_0:Bool)=>some (.inr (.inl o9_0))) (fun (o9_1:(List Int))=>gd (InI64 ((i:Int)+1)) <| some (.inl (((i:Int)+1),o9_1)))) o9:Option ((Int × (List Int)) ⊕ (Bool ⊕ Unit)))=some y∧((∃z,y=.inr z)∨∃q,y=.inl (((i+1:Nat):Int),q)∧q.length≤65536∧∀x∈q,InI64 x):=by
    intro q hq hx
    obtain ⟨z,z1,z2⟩:=p2 q hq hx
    rw [z1,obS]
    rcases z2 with rfl | ⟨q',rfl,q1,q2⟩
    ·exact ⟨_,rfl,.inl ⟨_,rfl⟩⟩
    ·exact ⟨_,qAa (by unfold InI64; omega) _,.inr ⟨q',rfl,q1,q2⟩⟩
   by_cases h0:0<k
   ·rw [hk8,deT (by omega),cnT]
    have hkt:Int.toNat ((k:Int) - 1)=k - 1:=by omega
    have hgd:(o.take k).getD (k - 1) (ET.dft .i64)=o.getD (k - 1) (ET.dft .i64):=by
     rw [List.getD_eq_getElem?_getD,List.getElem?_take_of_lt (by omega),←List.getD_eq_getElem?_getD]
    have hpos:=k3 h0
    have hin:=hi _ (getD_mem (o:=o) (k:=k - 1) (by omega))
    unfold InI64 at hin
    rw [qAa (by unfold InI64; omega),qAa (by unfold InI64; omega),qAa (by omega),hkt,hgd,qAa (by omega),qAa (by unfold InI64; omega),qAa (by omega),qAa (by omega)]
    refine fin _ (by rw [List.length_set,hk8]) fun x hx=>?_
    rcases List.mem_or_eq_of_mem_set hx with h | rfl
    ·exact htk x h
    ·unfold InI64; omega
   ·rw [hk8,deF (by omega),cnF]
    exact fin _ hk8 htk
  obtain ⟨y,h1,h2⟩:=hstep
  rcases h2 with ⟨z,rfl⟩ | ⟨q,rfl,q1,q2⟩
  ·refine ⟨z,?_⟩
   unfold zbn_p0
   exact qAh h1
  ·obtain ⟨y,hy⟩:=by_loop hv j (i+1) q (by omega) q1 q2
   refine ⟨y,?_⟩
   unfold zbn_p0 at hy ⊢
   rw [qAr h1]
   exact hy
theorem beyond_total {v:List Eng.Node} (hv:OkL v):∃b,zbn_s v=some b:=by
 obtain ⟨y,hy⟩:=by_loop hv v.length 0 [] (by omega) (by simp) (fun x hx=>by cases hx)
 unfold zbn_s
 rw [show ((0:Nat):Int)=0 from rfl] at hy
 rw [hy,obS]
 cases y <;> exact ⟨_,rfl⟩
end Go.Proofs.YtdcoiccdbgcpaaaDoor
namespace Go.Proofs.YtdcoiccdbgcpaaaDoor
open Go.Eng
set_option linter.unusedVariables false
set_option linter.unusedSimpArgs false
theorem same3_loop (v:List Eng.Node) (hv:v.length≤3000000):∀(j i:Nat),i+j=v.length→zbm_p0 (i:Int) v v=some (.inr ())
 | 0,i,h=>by
  unfold zbm_p0
  refine qAh ?_
  unfold qFn
  rw [deF (by omega),cnF]
 | j+1,i,h=>by
  have ih:=same3_loop v hv j (i+1) (by omega)
  unfold zbm_p0 at ih ⊢
  rw [qAr (y:=((i+1:Nat):Int)) ?_,ih]
  unfold qFn
  rw [deT (by omega),cnT,qAa (by omega),qAa (by omega),qAa (by omega),qAa (by omega)]
  simp only [decide_true,beq_self_eq_true,Bool.and_self,Bool.not_true,cnF]
  exact qAa (by unfold InI64; omega) _
theorem same3_self (v:List Eng.Node) (hv:v.length≤3000000):zbm_s v v=some true:=by
 have:=same3_loop v hv v.length 0 (by omega)
 rw [show ((0:Nat):Int)=0 from rfl] at this
 unfold zbm_s
 rw [deT rfl,Bool.not_true,cnF,this]
 rfl
def qGe:List Eng.Node:=[nd0 7 ⟨#[]⟩ false 0 1,⟨6,⟨#[97]⟩,⟨#[]⟩,false,0,2⟩,nd0 4 ⟨#[49]⟩ true 1 0,nd0 5 ⟨#[195,169]⟩ false 0 0]
def aliveT:ByteArray:=⟨#[32,123,34,97,34,58,91,49,44,34,92,117,48,48,101,57,34,93,125,32]⟩
theorem alive_read:readR aliveT=.ok 20 qGe:=by kernel_rfl
theorem alive_parse:parseR aliveT=(qGe,0,0):=by
 unfold parseR
 rw [if_neg (by decide),alive_read]
 rfl
theorem alive_ok:OkL qGe:=⟨by decide,fun n hn=>by
 simp only [qGe,List.mem_cons,List.not_mem_nil,or_false] at hn
 rcases hn with rfl | rfl | rfl | rfl <;> exact ⟨by decide,by decide,by unfold InI64; decide⟩⟩
theorem alive_shape:oneS qGe 32 false 0=some 4:=by
 rw [oneS_C alive_ok]
 kernel_rfl
theorem alive_text:prOne qGe 32 0=[123,34,97,34,58,91,49,44,34,195,169,34,93,125]:=by
 rw [prOne_C alive_ok]
 kernel_rfl
theorem alive_print:zak_s qGe=some ((⟨#[123,34,97,34,58,91,49,44,34,195,169,34,93,125]⟩:ByteArray),0):=by
 rw [p_Print alive_ok,alive_shape,if_pos (show some 4=some qGe.length from rfl),alive_text,if_neg (by decide)]
 rfl
theorem alive_tree:Tree qGe 0 4:=readR_tree alive_read
theorem alive_member:zai_s qGe 0 (⟨#[97]⟩:ByteArray)=some 1:=by
 obtain ⟨nd,h1,h2,h3⟩:=alive_tree.node
 obtain rfl:nd=nd0 7 ⟨#[]⟩ false 0 1:=by cases h1; rfl
 obtain ⟨l,hl⟩:=h3.places
 have:=(member_find (by decide) h1 h2 h3 hl (⟨#[97]⟩:ByteArray)).1
 rw [show ((0:Nat):Int)=0 from rfl] at this
 rw [this,if_pos (show (nd0 7 ⟨#[]⟩ false 0 1).kind=7 from rfl)]
 obtain ⟨b,r,rfl,g1,g2⟩:=hl
 show some (memI (if (qGe.getD 1 (ET.dft .node)).key=⟨#[97]⟩ then some 1 else _))=_
 rw [if_pos (show (qGe.getD 1 (ET.dft .node)).key=⟨#[97]⟩ from rfl)]
 rfl
theorem alive_is:zbl_s=some true:=by
 unfold zbl_s
 rw [show (⟨#[32,123,34,97,34,58,91,49,44,34,92,117,48,48,101,57,34,93,125,32]⟩:ByteArray)=aliveT from rfl,p_Parse,obS,alive_parse]
 dsimp only
 rw [alive_print,obS]
 dsimp only
 have hl:qGe.length=4:=rfl
 refine (qAa (fun _=>by rw [hl]; decide) _).trans ((qAa (fun _=>by rw [hl]; decide) _).trans ((qAa (fun _=>by rw [hl]; decide) _).trans ((qAa (fun _=>by rw [hl]; decide) _).trans ((qAa (fun _=>by rw [hl]; decide) _).trans ((qAa (fun _=>by rw [hl]; decide) _).trans ((qAa (fun _=>by rw [hl]; decide) _).trans ((qAa (fun _=>by rw [hl]; decide) _).trans ((qAa (fun _=>by rw [hl]; decide) _).trans ?_))))))))
 rw [alive_member,obS,deT rfl]
 kernel_rfl
theorem back_p0 (t:ByteArray):zbk_p0 t=some true:=by
 unfold zbk_p0
 rw [p_Parse,obS]
 rcases parseR_cases t with ⟨l,h1,h2,h3,h4,h5,h6,h7⟩ | ⟨c,b,h1,h2⟩
 ·rw [h1]
  dsimp only
  have hok:OkL l:=⟨by omega,fun n hn=>(h7 n hn).okN (by decide)⟩
  have hsh:=readR_shape h2 h3
  have hshort:=readR_short h2 h3
  have hr:=prOne_range l 32 0
  have hb:qAg (qAw (prOne l 32 0))=prOne l 32 0:=bytesL_of hr
  have hsz:(qAw (prOne l 32 0)).size=(prOne l 32 0).length:=qE6
  rw [deT rfl,Bool.not_true,cnF,p_Print hok,hsh,if_pos rfl,if_neg (by omega),obS]
  dsimp only
  rw [p_Parse,obS,print_back hok hsh hb (by omega),deT rfl,cnT,prog_Shaped hok,obS,hsh,deT (show ((qAw (prOne l 32 0)).size:Int)≤(t.size:Int) by omega)]
  simp only [decide_true,Bool.and_self,cnT]
  rw [same3_self l (by omega)]
  rfl
 ·rw [h1]
  dsimp only
  rw [deF h2,Bool.not_false,cnT]
  have:=parseR_bad h1 h2
  rw [deT (by simp),deT this.1,deT this.2]
  rfl
theorem jsonBack_plain (v:List Eng.Node) (hv:OkL v) (t:ByteArray):zbk_s v t=some true:=by
 have hlen:=hv.1
 obtain ⟨b,hb⟩:=beyond_total hv
 unfold zbk_s
 rw [alive_is,obS,Bool.not_true,cnF,hb,obS]
 cases b with
 | true=>rfl
 | false =>
  rw [cnF,prog_Shaped hv,obS,p_Print hv,obS]
  by_cases hsh:oneS v 32 false 0=some v.length
  ·rw [deT hsh,if_pos hsh]
   by_cases hbig:262144<(prOne v 32 0).length
   ·rw [if_pos hbig]
    show (bif (((((!true) && _) || _) || _) || _) then _ else _)=_
    have e:∀(s:ByteArray),s=⟨#[]⟩→((((((!true) && (!decide ((10:Int)=(31:Int)))) || ((true && (!decide ((10:Int)=(0:Int)))) && (!decide ((10:Int)=(10:Int))))) || ((!decide ((10:Int)=(0:Int))) && (!decide (s=(⟨#[]⟩:ByteArray))))) || (decide ((262144:Int)<(s.size:Int))))=false):=fun s hs=>by subst hs; rfl
    rw [e _ rfl,cnF]
    show (bif decide ((10:Int)=0) then _ else _)=_
    rw [deF (by decide),cnF,back_p0]
    rfl
   ·rw [if_neg hbig]
    have hr:=prOne_range v 32 0
    have hb:qAg (qAw (prOne v 32 0))=prOne v 32 0:=bytesL_of hr
    have hsz:(qAw (prOne v 32 0)).size=(prOne v 32 0).length:=qE6
    generalize qAw (prOne v 32 0)=s at *
    have e:((((((!true) && (!decide ((0:Int)=(31:Int)))) || ((true && (!decide ((0:Int)=(0:Int)))) && (!decide ((0:Int)=(10:Int))))) || ((!decide ((0:Int)=(0:Int))) && (!decide (s=(⟨#[]⟩:ByteArray))))) || (decide ((262144:Int)<(s.size:Int))))=false):=by
     rw [deF (show ¬(262144:Int)<(s.size:Int) by omega)]
     rfl
    rw [e,cnF]
    show (bif decide ((0:Int)=0) then _ else _)=_
    rw [deT rfl,cnT,p_Parse,obS,print_back hv hsh hb (by omega)]
    dsimp only
    rw [deT rfl,Bool.not_true,cnF,same3_self v (by omega),obS,Bool.not_true,cnF,back_p0]
    rfl
  ·rw [deF hsh,if_neg hsh]
   have e:((((((!false) && (!decide ((31:Int)=(31:Int)))) || ((false && (!decide ((31:Int)=(0:Int)))) && (!decide ((31:Int)=(10:Int))))) || ((!decide ((31:Int)=(0:Int))) && (!decide ((⟨#[]⟩:ByteArray)=(⟨#[]⟩:ByteArray))))) || (decide ((262144:Int)<((⟨#[]⟩:ByteArray).size:Int))))=false):=rfl
   rw [e,cnF]
   show (bif decide ((31:Int)=0) then _ else _)=_
   rw [deF (by decide),cnF,back_p0]
   rfl
end Go.Proofs.YtdcoiccdbgcpaaaDoor
namespace Go.Eng
open Go.RowKit
set_option linter.unusedVariables false
theorem i64_of_wf {a:Int} (h:(Lit.int .i64 a).wf=true) : -9223372036854775808≤a∧a≤9223372036854775807:=by
 simp [Lit.wf,IntKind.min,IntKind.max,IntKind.signed,IntKind.bits] at h
 exact h
structure LowB (w w':World):Prop where
 os:w'.os=w.os
 output:w'.output=w.output
 size:w.heap.size≤w'.heap.size
 block:∀k,k<w.heap.size→w'.heap[k]?=w.heap[k]?
theorem lowB_of_stays {w w':World} (h:Stays (fun _=>False) w w'):LowB w w':=⟨h.os,h.output,h.size,fun k hk=>h.block k hk id⟩
theorem LowB.frame {W w':World} (h:LowB W w') (may:MemPlace→Prop):W.keptBut w' may:=by
 refine ⟨h.os,h.output,fun i hi=>?_⟩
 rw [h.block i hi]
 split <;> simp_all
theorem LowB.same {W w':World} (h:LowB W w') {p:MemPlace} (hp:p.block<W.heap.size):W.sameAt w' p:=by
 cases p with
 | cell b o=>exact World.cell?_of_block (w:=W) (h.block b hp)
 | map b=>exact h.block b hp
theorem LowB.trod {H:Type} {enc:TypeId × Value→H} {P:Program} {t:TypeId} (hl:laidOutB P=true) (hr:P.readableRec t=true) (hrow:t<P.types.size) {W W':World} {v:Value} {d:DataW H} {ps:List MemPlace}
  (h:DataW.Trod enc P W 0 (fun _=>true) true t v d ps) (hb:LowB W W') (hlt:∀x∈ps,x.block<W.heap.size) :
  DataW.Trod enc P W' 0 (fun b=>decide (b<W.heap.size)) true t v d ps :=
 WideElems.Trod_stays hl hr hrow h (fun x hx=>hb.same (hlt x hx)) (fun x hx=>by simpa using hlt x hx)
end Go.Eng
namespace Go.Proofs.YtdcoiccdbgcpaaaDoor
open Go.RowKit Go.ChangeShapes Go.WideShapes Go.Deep Go.Eng
set_option linter.unusedVariables false
set_option maxRecDepth 100000
theorem callV {P:Program} {f:Nat} {C:CS} (h:qAm P f C) {args:List SV} {hp hp':List SB} {v:SV} (hc:C args hp (SV × List SB) (fun v hp'=>some (v,hp'))=some (v,hp')) (ha:∀x∈args,x.lt hp.length) (hv:v.shut=true) (w:World) {ρ:Nat→Value} (hs:HpSat noX w w ρ hp) (vs:List Value) (hvs:args.map (SV.den ρ)=vs) :
  Calls P f vs.toArray w fun e w'=>e=.returned (v.den fun _=>undef)∧LowB w w':=by
 have:=h.2 args hp v hp' hc ha noX w ρ hs
 rw [hvs] at this
 exact this.mono fun e w' ⟨ρ',_,_,a,_,_,b⟩=>⟨by rw [a,SV.shut_den hv ρ' fun _=>undef],lowB_of_stays b⟩
def ViewsOK (w:World):List Value→List SB→Prop
 | [],[]=>True
 | v::vs,.view t l::hp=>qEz noX w w t v l∧ViewsOK w vs hp
 | _,_=>False
theorem viewsOK_at {w:World}:∀ {vs:List Value} {hp:List SB},ViewsOK w vs hp→∀(i:Nat) (sb:SB),hp[i]?=some sb→∃t l,sb=.view t l∧qEz noX w w t (vs.getD i undef) l
 | [],[],_,i,sb,h=>by simp at h
 | v::vs,.view t l::hp,h,i,sb,hi=>by
  cases i with
  | zero =>
   simp at hi
   exact ⟨t,l,hi.symm,h.1⟩
  | succ i =>
   obtain ⟨t',l',h1,h2⟩:=viewsOK_at h.2 i sb (by simpa using hi)
   exact ⟨t',l',h1,by simpa using h2⟩
 | [],_::_,h,_,_,_=>h.elim
 | _::_,[],h,_,_,_=>h.elim
 | _::_,.cells ..::_,h,_,_,_=>h.elim
 | _::_,.row ..::_,h,_,_,_=>h.elim
 | _::_,.part ..::_,h,_,_,_=>h.elim
 | _::_,.dead::_,h,_,_,_=>h.elim
theorem views_sat {w:World} {vs:List Value} {hp:List SB} (h:ViewsOK w vs hp) (ht:tabOK noX w):HpSat noX w w (fun i=>vs.getD i undef) hp:=by
 have key:=viewsOK_at h
 refine ⟨fun i hi=>?_,fun i sb hi=>?_,fun i sb hi=>?_,fun i j sb sb' b _ hi hj e1 _ _ _=>?_,ht⟩
 ·obtain ⟨t,l,_,a,cap,hv,_⟩:=key i hp[i] (by simp [hi])
  show isRef (vs.getD i undef)
  rw [hv]
  trivial
 ·obtain ⟨t,l,rfl,hv⟩:=key i sb hi
  exact hv
 ·obtain ⟨t,l,rfl,hv⟩:=key i sb hi
  trivial
 ·obtain ⟨t,l,rfl,hv⟩:=key i sb hi
  cases e1
section
variable {H:Type} {enc:TypeId × Value→H} {W:World} {sp:Nat→Bool} {held:Bool} {r:Reach} {b0:Nat}
theorem bulkAll_mem:∀ {l:List (DataW H)} {d:DataW H},d∈l→Rows.uptoBulk d≤Rows.uptoBulkAll l
 | x::l,d,h=>by
  simp only [Rows.uptoBulkAll]
  rcases List.mem_cons.1 h with rfl | h
  ·omega
  ·have:=bulkAll_mem h
   omega
theorem bulk_pos (d:DataW H):1≤Rows.uptoBulk d:=by
 cases d with
 | lit l=>cases l <;> simp [Rows.uptoBulk]
 | _=>all_goals simp [Rows.uptoBulk]
theorem bulkAll_len:∀(l:List (DataW H)),l.length≤Rows.uptoBulkAll l
 | []=>by simp
 | x::l=>by
  have h1:=bulk_pos x
  have h2:=bulkAll_len l
  simp only [Rows.uptoBulkAll,List.length_cons]
  omega
theorem view_mk {t:ET} {a:Addr} {len cap:Nat} {N:Nat→t.T} (hl:len≤cap) (hb:0<len→a.block<W.heap.size)
  (hc:∀i,i<len→∀j u,(t.enc (N i))[j]?=some u→W.cell? (a.add (i*t.sz+j))=some u):qEz noX W W t (.slice (some a) len cap) ((List.range len).map N):=by
 refine ⟨some a,cap,by simp,by simpa using hl,fun p u hu=>⟨a,rfl,?_⟩⟩
 have hlt:p<((List.range len).map N).length*t.sz:=by
  have:=(List.getElem?_eq_some_iff.1 hu).1
  rwa [qA9 t.enc_len] at this
 simp only [List.length_map,List.length_range] at hlt
 have hsz:=t.sz_pos
 have hi:p / t.sz<len:=(Nat.div_lt_iff_lt_mul hsz).2 hlt
 have hj:p % t.sz<t.sz:=Nat.mod_lt _ hsz
 have he:(t.enc (((List.range len).map N).getD (p / t.sz) t.dft))[p % t.sz]?=some (t.enc (N (p / t.sz)))[p % t.sz]!:=by
  have e1:((List.range len).map N).getD (p / t.sz) t.dft=N (p / t.sz):=by simp [List.getD,hi]
  rw [e1,List.getElem?_eq_getElem (by rw [t.enc_len]; exact hj),List.getElem!_eq_getElem?_getD,List.getElem?_eq_getElem (by rw [t.enc_len]; exact hj)]
  rfl
 have h1:=qFh t.enc_len t.dft ((List.range len).map N) (p / t.sz) (p % t.sz) _ (by simpa using hi) he
 have e2:p / t.sz*t.sz+p % t.sz=p:=Nat.div_add_mod' p t.sz
 rw [e2,hu] at h1
 have h2:=hc (p / t.sz) hi (p % t.sz) u (by
  have e1:((List.range len).map N).getD (p / t.sz) t.dft=N (p / t.sz):=by simp [List.getD,hi]
  rw [e1] at he
  rw [he,←Option.some.inj h1])
 rw [e2] at h2
 exact ⟨h2,.inl ⟨hb (Nat.lt_of_le_of_lt (Nat.zero_le _) hi),id⟩⟩
theorem view_nil {t:ET}:qEz noX W W t (.slice none 0 0) []:=⟨none,0,rfl,Nat.le_refl _,fun j u h=>by simp at h⟩
theorem choose_ltV {α:Type} [Inhabited α] {n:Nat} {P:Nat→α→Prop} (h:∀i,i<n→∃x,P i x):∃f:Nat→α,∀i,i<n→P i (f i):=by
 classical
 refine ⟨fun i=>if hi:i<n then (h i hi).choose else default,fun i hi=>?_⟩
 simp only [hi,dif_pos]
 exact (h i hi).choose_spec
structure NodeB (B:Nat) (n:Eng.Node):Prop where
 kind:InI64 n.kind
 key:n.key.size≤B
 text:n.text.size≤B
 int:InI64 n.int
 kids:InI64 n.kids
instance:Inhabited Eng.Node:=⟨⟨0,.empty,.empty,false,0,0⟩⟩
theorem openV_node_cells {fuel B:Nat} {l:List Value} {y:DataW H × List MemPlace} (h:DataW.trod enc Tryd.prog W 0 sp held fuel 36 l=some y) (hz:Rows.uptoBulk y.1≤B) :
  ∃x:Eng.Node,l=ET.node.enc x∧NodeB B x:=by
 obtain ⟨xs,n,_,hx,hll,hlen,hg⟩:=DataW.trod_struct Tryd.underlying36 h
 rw [show Tryd.prog.cellsOf 36=6 by kernel_rfl] at hll
 match l,hll,xs,hlen with
 | [c0,c1,c2,c3,c4,c5],_,[y0,y1,y2,y3,y4,y5],_ =>
  subst hx
  have g0:DataW.trod enc Tryd.prog W 0 sp held n 34 [c0]=some y0:=by simpa [show Tryd.prog.cellsOf 34=1 by kernel_rfl] using hg 0 _ rfl
  have g1:DataW.trod enc Tryd.prog W 0 sp held n 9 [c1]=some y1:=by simpa [show Tryd.prog.cellsOf 9=1 by kernel_rfl] using hg 1 _ rfl
  have g2:DataW.trod enc Tryd.prog W 0 sp held n 9 [c2]=some y2:=by simpa [show Tryd.prog.cellsOf 9=1 by kernel_rfl] using hg 2 _ rfl
  have g3:DataW.trod enc Tryd.prog W 0 sp held n 4 [c3]=some y3:=by simpa [show Tryd.prog.cellsOf 4=1 by kernel_rfl] using hg 3 _ rfl
  have g4:DataW.trod enc Tryd.prog W 0 sp held n 2 [c4]=some y4:=by simpa [show Tryd.prog.cellsOf 2=1 by kernel_rfl] using hg 4 _ rfl
  have g5:DataW.trod enc Tryd.prog W 0 sp held n 3 [c5]=some y5:=by simpa [show Tryd.prog.cellsOf 3=1 by kernel_rfl] using hg 5 _ rfl
  obtain ⟨a0,e0,d0,i0⟩:=DataW.trod_int Tryd.underlying34 g0
  obtain ⟨a1,e1,d1,i1⟩:=DataW.trod_string Tryd.underlying9 g1
  obtain ⟨a2,e2,d2,i2⟩:=DataW.trod_string Tryd.underlying9 g2
  obtain ⟨a3,e3,d3⟩:=DataW.trod_bool Tryd.underlying4 g3
  obtain ⟨a4,e4,d4,i4⟩:=DataW.trod_int Tryd.underlying2 g4
  obtain ⟨a5,e5,d5,i5⟩:=DataW.trod_int Tryd.underlying3 g5
  simp only [List.cons.injEq,and_true] at e0 e1 e2 e3 e4 e5
  subst e0 e1 e2 e3 e4 e5
  subst d0 d1 d2 d3 d4 d5
  simp only [List.map_cons,List.map_nil,Rows.uptoBulk,Rows.uptoBulkAll,Array.length_toList] at hz
  have q1:a1.size=a1.data.size:=rfl
  have q2:a2.size=a2.data.size:=rfl
  exact ⟨⟨a0,a1,a2,a3,a4,a5⟩,rfl,Go.Eng.i64_of_wf i0,by show a1.size≤B; omega,by show a2.size≤B; omega,Go.Eng.i64_of_wf i4,Go.Eng.i64_of_wf i5⟩
theorem openV_nodes_cells {fuel B:Nat} {c:Value} {y:DataW H × List MemPlace} (h:DataW.trod enc Tryd.prog W 0 sp held fuel 22 [c]=some y) (hz:Rows.uptoBulk y.1≤B) :
  ∃(v:Value) (xs:List Eng.Node),[c]=[v]∧qEz noX W W .node v xs∧(∀n∈xs,NodeB B n)∧xs.length≤B:=by
 have hlt:=DataW.trod_lt _ _ _ _ h
 rcases open_slice Tryd.underlying22 h with ⟨hcs,_⟩ | ⟨a,len,cap,m,fu,D,Pl,hcs,_,hl,hm,hmm,rfl,hel⟩
 ·exact ⟨_,[],hcs,view_nil,by simp,by simp⟩
 ·have hlm:len≤m:=by rw [hmm]; split <;> omega
  rw [show Tryd.prog.cellsOf 36=6 by kernel_rfl] at hel
  simp only [Rows.uptoBulk] at hz
  have each:∀i,i<len→∃x:Eng.Node,NodeB B x∧∀j u,(ET.node.enc x)[j]?=some u→W.cell? (a.add (i*6+j))=some u:=by
   intro i hi
   obtain ⟨cs',hcells,htr⟩:=hel i (by omega)
   have h1:=bulkAll_mem (H:=H) (l:=(List.range len).map D) (List.mem_map.2 ⟨i,List.mem_range.2 hi,rfl⟩)
   obtain ⟨x,rfl,hok⟩:=openV_node_cells (B:=B) htr (by show Rows.uptoBulk (D i)≤B; omega)
   obtain ⟨_,hcl,hat⟩:=World.cells?_some hcells
   refine ⟨x,hok,fun j u hj=>?_⟩
   have hj6:j<6:=by
    have:=(List.getElem?_eq_some_iff.1 hj).1
    simpa [ET.enc] using this
   have:=hat j hj6
   rw [hj,Go.Deep.add_add] at this
   exact this
  obtain ⟨N,hN⟩:=choose_ltV (α:=Eng.Node) each
  refine ⟨_,(List.range len).map N,hcs,view_mk (t:=.node) hl (fun h0=>?_) (fun i hi=>(hN i hi).2),fun s hs=>?_,?_⟩
  ·exact hlt (.cell a.block a.off) (by
    simp only [MemPlace.row,List.mem_append,List.mem_map,List.mem_range]
    exact .inl ⟨0,by rw [show Tryd.prog.cellsOf 36=6 by kernel_rfl]; omega,by simp⟩)
  ·obtain ⟨i,hi,rfl⟩:=List.mem_map.1 hs
   exact (hN i (List.mem_range.1 hi)).1
  ·have h1:=bulkAll_len (H:=H) ((List.range len).map D)
   simp only [List.length_map,List.length_range] at h1 ⊢
   omega
theorem openV_nodes {B:Nat} {v:Value} {d:DataW H} {p:List MemPlace} (hv:Value.okWide Tryd.prog W r b0 22 v) (h:DataW.Trod enc Tryd.prog W 0 sp held 22 v d p) (hz:Rows.uptoBulk d≤B) :
  ∃xs:List Eng.Node,qEz noX W W .node v xs∧(∀n∈xs,NodeB B n)∧xs.length≤B:=by
 obtain ⟨A0,n0,c0,rfl⟩:=okWide_slice Tryd.underlying22 hv
 obtain ⟨fuel,hf⟩:=h
 obtain ⟨v,xs,e,h⟩:=openV_nodes_cells hf hz
 simp only [List.cons.injEq,and_true] at e
 subst e
 exact ⟨xs,h⟩
end
end Go.Proofs.YtdcoiccdbgcpaaaDoor
namespace Go.Proofs
open Go.Shelf
shelf_lay Lays.n260 Nm 260 at Tryd as Tryd.laysSlow
end Go.Proofs
namespace Go.Proofs.YtdcoiccdbgcpaaaDoor
open Go.Eng Go.Shelf
set_option linter.unusedVariables false
theorem first_data:(Rows.laid_unicode_utf8_first:DataW Unit)=Lib.firstData:=by kernel_rfl
theorem accept_data:(Rows.laid_unicode_utf8_acceptRanges:DataW Unit)=Lib.acceptData:=by kernel_rfl
theorem utf8_tabs {W:World} (h3:Lib.VarReads Tryd.prog W "unicode/utf8.first" Rows.laid_unicode_utf8_first) (h4:Lib.VarReads Tryd.prog W "unicode/utf8.acceptRanges" Rows.laid_unicode_utf8_acceptRanges):tabOK noX W:=by
 rw [first_data] at h3
 rw [accept_data] at h4
 exact ⟨utf8Tabs_of_reads Tryd.laysSlow ⟨by kernel_rfl,by kernel_rfl,by kernel_rfl,by kernel_rfl,by kernel_rfl,by kernel_rfl,by kernel_rfl⟩ h3 h4,fun h=>h,fun h=>h⟩
end Go.Proofs.YtdcoiccdbgcpaaaDoor
