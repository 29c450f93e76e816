/-
  Texts of a claim.
-/
import Derived.Below
import Derived.Carry
import Derived.Lib.LaidU8
import Derived.Shelf.Lay
import Derived.Ground.NamesProg
import Derived.Test.YtnifdcmeffnpaaaDoorPBack
import Derived.Test.YtnifdcmeffnpaaaDoorPValid
import Derived.Test.YtnifdcmeffnpaaaDoorEngN
import Derived.Test.YtnifdcmeffnpaaaDoorEngO
import Derived.Test.YtnifdcmeffnpaaaDoorProg
import Derived.Test.YtnifdcmeffnpaaaDoorRows
namespace Go.Proofs.YtnifdcmeffnpaaaDoor
open Go.Eng
set_option linter.unusedVariables false
set_option linter.unusedSimpArgs false
theorem escL_app (x y:List Int):escL (x++y)=escL x++escL y:=by unfold escL; rw [List.flatMap_append]
theorem escB_high {c:Int} (h:32≤c) (h1:c≠34) (h2:c≠92):escB c=[c]:=by
 unfold escB;rw [if_neg (by omega),if_neg (by omega),if_neg (by omega),if_neg (by omega),if_neg (by omega),if_neg (by omega),if_neg (by omega)]
theorem escL_high:∀ {l:List Int},(∀x∈l,128≤x)→(escL l).length=l.length
 | [],_=>rfl
 | c::l,h=>by
  show (escB c++escL l).length=_;have:=h c List.mem_cons_self;rw [escB_high (by omega) (by omega) (by omega),List.length_append,escL_high fun x hx=>h x (List.mem_cons_of_mem _ hx)];simp only [List.length_cons,List.length_nil];omega
theorem escL_utf {u:Int} (h:Code u):(escL (utfL u)).length≤6∧((u=34∨u=92∨u=47∨u=8∨u=12∨u=10∨u=13∨u=9)→(escL (utfL u)).length≤2):=by
 unfold Code at h;by_cases h1:u<128
 ·rw [utfL_one h1];have e:escL [u]=escB u:=by show escB u++[]=_; rw [List.append_nil]
  rw [e];refine ⟨(escB_len u).2,fun hu=>?_⟩;rcases hu with rfl | rfl | rfl | rfl | rfl | rfl | rfl | rfl <;> decide
 ·have hl:=utfL_len u;rw [escL_high (by
   intro x hx;unfold utfL at hx;rw [if_neg h1] at hx;repeat' split at hx
   all_goals
    simp only [List.mem_cons,List.not_mem_nil,or_false] at hx;omega)]
  exact ⟨by omega,fun hu=>by omega⟩
theorem saidS_cases {c:Int} (h:0≤qEz c):qEz c=34∨qEz c=92∨qEz c=47∨qEz c=8∨qEz c=12∨qEz c=10∨qEz c=13∨qEz c=9:=by
 unfold qEz at h ⊢;repeat' split
 all_goals omega
theorem escR_short {t:BA} {a b:Nat} {u:Int} (h:escR t a=.ok b u):(escL (utfL u)).length≤b - a:=by
 have hok:=escR_ok h;have hl:=escL_utf hok.2.2;unfold escR at h;split at h
 ·cases h
 ·split at h
  ·split at h
   ·cases h
   ·rename_i b' u' hf;have h4:=fourR_ok hf;split at h
    ·cases h;omega
    ·unfold pairR at h;repeat' split at h
     all_goals first | (cases h; done) | skip
     rename_i hw;have h6:=fourR_ok hw;cases h;omega
  ·split at h
   ·cases h
   ·cases h;have:=hl.2 (saidS_cases (by omega));omega
theorem bytesL_seq_high {t:BA} {a:Nat} (ha:a<t.size) (h8:128≤by8 t a) (hk:seqK t a=0):∀x∈qAh (t.extract a (a+seqW t a)),128≤x:=by
 intro x hx;have hw:=qFd ha h8 hk;obtain ⟨i,hi,rfl⟩:=List.getElem_of_mem hx;rw [qAp,ByteArray.size_extract] at hi;have h1:=qDg (s:=t.extract a (a+seqW t a)) (i:=i) (by rw [ByteArray.size_extract]; omega);rw [List.getElem?_eq_getElem (by rw [qAp,ByteArray.size_extract]; omega),snJ] at h1;rw [h1,qDa t a _ (i:Int) (by omega) (by omega)];have h2:=seq_high ha h8 hk i (by omega);have h3:=qEy (t:=t) (i:=a+i) (by omega);rw [show (a:Int)+(i:Int)=((a+i:Nat):Int) by omega];omega
theorem qD6 {t:BA}:∀ {n a b:Nat} {acc l:List Int},quoR t n a acc=.ok b l→(escL l).length+1≤(escL acc).length+(b - a)
 | 0,a,b,acc,l,h=>by cases h
 | n+1,a,b,acc,l,h=>by
  unfold quoR at h;split at h
  ·cases h
  ·rename_i h0;have ha:=qA3 (t:=t) (a:=a) (by omega);split at h
   ·cases h;omega
   ·split at h
    ·split at h
     ·cases h
     ·rename_i b' u he;have h1:=escR_ok he;have h2:=escR_short he;have hr:b'≤b:=by
       have:=qD6 h;by_cases hb:b'≤b
       ·exact hb
       ·exfalso;rw [show b - b'=0 by omega] at this;have hle:(escL (acc++utfL u)).length≤(escL l).length:=quoR_grow h;omega
      have:=qD6 h;rw [escL_app,List.length_append] at this;omega
    ·split at h
     ·have hr:a+1≤b:=by
       have:=qD6 h;by_cases hb:a+1≤b
       ·exact hb
       ·exfalso;rw [show b - (a+1)=0 by omega] at this;have hle:=quoR_grow h;omega
      have:=qD6 h;rw [escL_app,List.length_append,show escL [bAt t (a:Int)]=escB (bAt t (a:Int)) by show escB _++[]=_; rw [List.append_nil],escB_high (by omega) (by omega) (by omega)] at this;simp only [List.length_cons,List.length_nil] at this;omega
     ·split at h
      ·rename_i hk;have h8:128≤by8 t a:=by have:=qEy ha; omega
       have hw:=qFd ha h8 hk;have hr:a+seqW t a≤b:=by
        have:=qD6 h;by_cases hb:a+seqW t a≤b
        ·exact hb
        ·exfalso;rw [show b - (a+seqW t a)=0 by omega] at this;have hle:=quoR_grow h;omega
       have:=qD6 h;rw [escL_app,List.length_append,escL_high (bytesL_seq_high ha h8 hk),qAp,ByteArray.size_extract] at this;omega
      ·cases h
where
 quoR_grow {t:BA}:∀ {n a b:Nat} {acc l:List Int},quoR t n a acc=.ok b l→(escL acc).length≤(escL l).length
 | 0,a,b,acc,l,h=>by cases h
 | n+1,a,b,acc,l,h=>by
  unfold quoR at h;split at h
  ·cases h
  ·split at h
   ·cases h;exact Nat.le_refl _
   ·split at h
    ·split at h
     ·cases h
     ·have:=quoR_grow h;rw [escL_app,List.length_append] at this;omega
    ·split at h
     ·have:=quoR_grow h;rw [escL_app,List.length_append] at this;omega
     ·split at h
      ·have:=quoR_grow h;rw [escL_app,List.length_append] at this;omega
      ·cases h
theorem quoL_short {t:BA} {n a b:Nat} {l:List Int} (h:quoR t n (a+1) []=.ok b l):(quoL (qA4 l)).length≤b - a:=by
 have h1:=qD6 h;have h2:=qEs h (by simp);unfold quoL;rw [bytesL_of h2.2.2.1,List.length_cons,List.length_append,List.length_singleton];have:(escL ([]:List Int)).length=0:=rfl;omega
theorem scalR_short {t:BA} {a b:Nat} {l:List Eng.Node} (ha:a≤t.size) (h:qCx t a=.ok b l):∃n,l=[n]∧n.kind<6∧∀k,(scalL (setK k n)).length≤b - a:=by
 unfold qCx at h;split at h
 ·split at h
  ·cases h
  ·rename_i h1;have:=quoL_short h1;cases h;exact ⟨_,rfl,by show (5:Int)<6; decide,fun k=>this⟩
 ·split at h
  ·split at h
   ·cases h
   ·rename_i hc _ b1 x1 h1;have hlt:=qA3 (t:=t) (a:=a) (by omega);have h2:=numR_adv hlt h1;cases h;refine ⟨_,rfl,by show (4:Int)<6; decide,fun k=>?_⟩;show (qAh (t.extract a _)).length≤_;rw [qAp,ByteArray.size_extract];omega
  ·have lit:∀(w:List Int) (b:Nat) (x:Unit),(∀c∈w,0≤c)→litR t w a=.ok b x→w.length≤b - a:=fun w b x hw hl=>by
    have:=(litR_adv hw hl).1;omega
   split at h
   ·split at h
    ·cases h
    ·rename_i h1;have:=lit _ _ _ (by decide) h1;cases h;exact ⟨_,rfl,by show (1:Int)<6; decide,fun k=>this⟩
   ·split at h
    ·split at h
     ·cases h
     ·rename_i h1;have:=lit _ _ _ (by decide) h1;cases h;exact ⟨_,rfl,by show (2:Int)<6; decide,fun k=>this⟩
    ·split at h
     ·split at h
      ·cases h
      ·rename_i h1;have:=lit _ _ _ (by decide) h1;cases h;exact ⟨_,rfl,by show (3:Int)<6; decide,fun k=>this⟩
     ·cases h
def ShortAt (t:BA) (d:Nat) (val:Nat→Rd (List Eng.Node)):Prop:=∀a b l,a≤t.size→val a=.ok b l→∀(k:BA) (obj:Bool) (pre post:List Eng.Node),KeyOK obj k→(qAt (pre++qBo k l++post) d pre.length).length≤b - a
theorem getD_pre (pre post:List Eng.Node) (n:Eng.Node) (l:List Eng.Node) (x:Eng.Node):(pre++(n::l)++post).getD pre.length x=n:=by
 rw [List.getD_eq_getElem?_getD,at_pre];rfl
theorem leaf_short {t:BA} {a b:Nat} {l:List Eng.Node} (ha:a≤t.size) (h:qCx t a=.ok b l) (d:Nat) (k:BA) (pre post:List Eng.Node):(qAt (pre++qBo k l++post) d pre.length).length≤b - a:=by
 obtain ⟨n,rfl,hk,hl⟩:=scalR_short ha h;have e:(pre++qBo k [n]++post).getD pre.length (ET.dft .node)=setK k n:=getD_pre pre post (setK k n) [] _;have hk2:(setK k n).kind<6:=hk;cases d with
 | zero =>
  unfold qAt;rw [e];exact hl k
 | succ d =>
  unfold qAt;rw [e,if_pos hk2];exact hl k
theorem rowR_short {t:BA} {d:Nat} {val:Nat→Rd (List Eng.Node)} (hv:Adv t val) (hk0:∀a b l,val a=.ok b l→qBo ⟨#[]⟩ l=l) (hS:ShapeAt t d val) (hL:ShortAt t d val) {obj:Bool}:∀ {m a k:Nat} {acc:List Eng.Node} {names:List BA} {b:Nat} {x:Nat × List Eng.Node},a≤t.size→rowR t val obj m a k acc names=.ok b x →
  ∃(j:Nat) (more:List Eng.Node),x.1=k+(j+1)∧x.2=acc++more∧∀(pre post:List Eng.Node),(qBf (pre++more++post) (oneS (pre++more++post) d obj) (qAt (pre++more++post) d) obj (j+1) pre.length true).length+1≤b - a
 | 0,a,k,acc,names,b,x,ha,h=>by cases h
 | m+1,a,k,acc,names,b,x,ha,h=>by
  have hadvAll:=rowR_adv hv ha h;unfold rowR at h;split at h
  ·cases h
  ·rename_i b1 y h1;obtain ⟨a',l,ha',hl,hy,hne,hkey,hmem⟩:=itemR_shape hv hk0 ha h1;have hadv:=itemR_adv hv ha h1;have hlen:y.2.length=l.length:=by rw [hy,qG6]
   have one:∀pre post,oneS (pre++y.2++post) d obj pre.length=some (pre.length+y.2.length)∧qCg (pre++y.2++post) pre.length=y.1∧(qAt (pre++y.2++post) d pre.length).length≤b1 - a':=fun pre post=>by
    rw [hlen,hy];exact ⟨hS _ _ _ ha' hl _ obj pre post hkey,keyAt_pre pre post _ hne,hL _ _ _ ha' hl _ obj pre post hkey⟩
   have item:∀pre post,(keyL (pre++y.2++post) obj pre.length).length+(qAt (pre++y.2++post) d pre.length).length≤b1 - a:=by
    intro pre post;obtain ⟨o1,o2,o3⟩:=one pre post;unfold qEl at h1;cases obj with
    | false =>
     rw [if_neg (by decide)] at h1;cases hva:val a with
     | bad c b=>rw [hva] at h1; cases h1
     | ok b2 l2 =>
      rw [hva] at h1;dsimp only at h1;have hy2:y=(⟨#[]⟩,l2):=by cases h1; rfl
      have hb2:b1=b2:=by cases h1; rfl
      have h3:=hL _ _ _ ha hva ⟨#[]⟩ false pre post ⟨rfl,.inr rfl⟩;rw [hk0 _ _ _ hva] at h3;rw [hy2,hb2];show 0+_≤_;rw [Nat.zero_add];exact h3
    | true =>
     rw [if_pos rfl] at h1;split at h1
     ·rename_i h34;have hla:=qA3 (t:=t) (a:=a) (by omega);split at h1
      ·cases h1
      ·rename_i bq lq hq;have hqs:=quoL_short hq;have hqo:=qEs hq (by simp);split at h1
       ·cases h1
       ·split at h1
        ·rename_i h58;have h3:=qA3 (t:=t) (a:=qAz t bq) (by omega);have h4:=qBp t bq;have h5:=qBp t (qAz t bq+1);have h6:=qA7 t (qAz t bq+1) (by omega);split at h1
         ·cases h1
         ·rename_i b3 l3 h7;have h8:=hv _ _ _ h6 h7;have hy2:y=(qA4 lq,qBo (qA4 lq) l3):=by cases h1; rfl
          have hb2:b1=b3:=by cases h1; rfl
          have h9:=hL _ _ _ h6 h7 (qA4 lq) true pre post ⟨(qE8 hq qCv.nil).bytes,.inl rfl⟩;rw [hy2] at o2 ⊢;rw [hb2];dsimp only at o2 h9 ⊢;unfold keyL;rw [if_pos rfl,o2,List.length_append,List.length_singleton];omega
        ·cases h1
     ·cases h1
   have k1:=qBp t b1;have k2:=qA7 t b1 hadv.2.1;have unf:∀(w:List Eng.Node) (p e j:Nat),oneS w d obj p=some e→(qBf w (oneS w d obj) (qAt w d) obj (j+1) p true).length=(keyL w obj p).length+((qAt w d p).length+(qBf w (oneS w d obj) (qAt w d) obj j e false).length):=fun w p e j ho=>by
    show (qF6 true++(keyL w obj p++(qAt w d p++qBf w (oneS w d obj) (qAt w d) obj j ((oneS w d obj p).getD 0) false))).length=_;rw [ho];simp [qF6]
   split at h
   ·cases h;refine ⟨0,y.2,rfl,rfl,fun pre post=>?_⟩;have h1:=item pre post;rw [unf _ _ _ 0 (one pre post).1];show _+(_+0)+1≤_;omega
   ·split at h
    ·rename_i hcm;have h3:=qA3 (t:=t) (a:=qAz t b1) (by omega);have k3:=qBp t (qAz t b1+1);have k4:=qA7 t (qAz t b1+1) (by omega);obtain ⟨j,more,e1,e2,h4⟩:=rowR_short hv hk0 hS hL k4 h;have h4a:=rowR_adv hv k4 h;refine ⟨j+1,y.2++more,by omega,by rw [e2,List.append_assoc],fun pre post=>?_⟩;have o1:=one pre (more++post);have i1:=item pre (more++post);have h5:=h4 (pre++y.2) post;have e3:pre++(y.2++more)++post=pre++y.2++(more++post):=by simp
     have e4:pre++y.2++more++post=pre++y.2++(more++post):=by simp
     rw [e4,List.length_append] at h5;rw [e3,unf _ _ _ (j+1) o1.1];have e5:∀(w:List Eng.Node) (p:Nat),(qBf w (oneS w d obj) (qAt w d) obj (j+1) p false).length=1+(qBf w (oneS w d obj) (qAt w d) obj (j+1) p true).length:=fun w p=>by
      show (([44]:List Int)++_).length=1+(([]:List Int)++_).length;rw [List.length_append,List.nil_append];rfl
     rw [e5];omega
    ·cases h
theorem valR_short {t:BA} (hs:t.size≤600000):∀d,ShortAt t d (valR t d)
 | 0=>fun a b l ha h k obj pre post hk=>by
  unfold valR at h;split at h
  ·cases h
  ·exact leaf_short ha h 0 k pre post
 | d+1=>fun a b l ha h k obj pre post hk=>by
  unfold valR at h;split at h
  ·have hlt:=qA3 (t:=t) (a:=a) (by omega);generalize hob:decide (bAt t (a:Int)=123)=ob at h
   have k1:=qBp t (a+1);have k2:=qA7 t (a+1) (by omega);have hn6:¬qB7 ob<6:=by cases ob <;> decide
   have hk7:decide (qB7 ob=7)=ob:=by cases ob <;> rfl
   unfold boxR at h;split at h
   ·cases h;have e:(pre++qBo k [nd0 (qB7 ob) ⟨#[]⟩ false 0 0]++post).getD pre.length (ET.dft .node)=setK k (nd0 (qB7 ob) ⟨#[]⟩ false 0 0):=getD_pre pre post _ [] _;unfold qAt;rw [e];show (if qB7 ob<6 then _ else _:List Int).length≤_;rw [if_neg hn6];show (_::([]++[_])).length≤_;simp only [List.nil_append,List.length_cons,List.length_nil];omega
   ·split at h
    ·cases h
    ·rename_i b1 x h1;cases h;obtain ⟨j,more,e1,e2,h3⟩:=rowR_short (qEc t d) (fun a b l h=>valR_key h) (valR_shape hs d) (valR_short hs d) k2 h1;simp only [List.nil_append,Nat.zero_add] at e1 e2;rw [e1,e2];have h4:=h3 (pre++[setK k (nd0 (qB7 ob) ⟨#[]⟩ false 0 ((j+1:Nat):Int))]) post;have e3:pre++[setK k (nd0 (qB7 ob) ⟨#[]⟩ false 0 ((j+1:Nat):Int))]++more++post=pre++(setK k (nd0 (qB7 ob) ⟨#[]⟩ false 0 ((j+1:Nat):Int))::more)++post:=by simp
     rw [e3,List.length_append,List.length_singleton] at h4;have e:(pre++(setK k (nd0 (qB7 ob) ⟨#[]⟩ false 0 ((j+1:Nat):Int))::more)++post).getD pre.length (ET.dft .node)=setK k (nd0 (qB7 ob) ⟨#[]⟩ false 0 ((j+1:Nat):Int)):=getD_pre pre post _ more _;show (qAt (pre++(setK k (nd0 (qB7 ob) ⟨#[]⟩ false 0 ((j+1:Nat):Int))::more)++post) (d+1) pre.length).length≤_;unfold qAt;rw [e];show (if qB7 ob<6 then _ else (if qB7 ob=7 then 123 else 91)::(qBf _ (oneS _ d (decide (qB7 ob=7))) _ (decide (qB7 ob=7)) (Int.toNat ((j+1:Nat):Int)) _ true++[_]):List Int).length≤_;rw [if_neg hn6,hk7,Int.toNat_natCast];simp only [List.length_cons,List.length_append,List.length_nil];omega
  ·exact leaf_short ha h (d+1) k pre post
theorem readR_short {t:BA} (hs:t.size≤262144) {b:Nat} {l:List Eng.Node} (h:readR t=.ok b l):(qAt l 32 0).length≤t.size:=by
 unfold readR at h;have k:=qA7 t 0 (by omega);split at h
 ·cases h
 ·rename_i b1 l1 h1;have h2:=qEc t 32 _ _ _ k h1;have:=valR_short (t:=t) (by omega) 32 _ _ _ k h1 ⟨#[]⟩ false [] [] ⟨rfl,.inr rfl⟩;rw [valR_key h1,List.nil_append,List.append_nil,List.length_nil] at this;split at h
  ·cases h
  ·cases h;omega
theorem p_Print {v:List Eng.Node} (hv:OkL v):zal_s v=some (if oneS v 32 false 0=some v.length then (if 262144<(qAt v 32 0).length then ((⟨#[]⟩:BA),10) else (qA4 (qAt v 32 0),0)) else (⟨#[]⟩,31)):=by
 have hlen:=hv.1;unfold zal_s;rw [prog_Shaped hv,obS];by_cases hsh:oneS v 32 false 0=some v.length
 ·rw [deT hsh,Bool.not_true,cnF,if_pos hsh];have hsp:zbk_s (⟨false,[]⟩:qG9) v 0=some (⟨true,[]++qAt v 32 0⟩,(v.length:Int)):=evt_eq (N:=33) fun n hn=>by
   have:=sp_all hv 32 false 0 v.length n hsh (by omega) false [] (by show 0+_≤_; omega);rwa [show ((0:Nat):Int)=0 from rfl] at this
  rw [hsp,obS,List.nil_append];unfold zcd_s;rw [obS];dsimp only;by_cases hbig:262144<(qAt v 32 0).length
  ·rw [deT (show (262144:Int)<((qAt v 32 0).length:Int) by omega),cnT,if_pos hbig]
  ·rw [deF (show ¬(262144:Int)<((qAt v 32 0).length:Int) by omega),cnF,if_neg hbig];have hne:=prOne_some hv hsh;have hpos:0<(qAt v 32 0).length:=List.length_pos_iff.2 hne;have:zce_s ⟨true,qAt v 32 0⟩=some (⟨true,[]⟩,qA4 (qAt v 32 0)):=by
    unfold zce_s;refine (qAa hpos _).trans ?_;exact (qAa ⟨rfl,hpos,prOne_range v 32 0⟩ _).trans rfl
   rw [this,obS]
 ·rw [deF hsh,Bool.not_false,cnT,if_neg hsh]
def bndC (a:Int):Int × BA :=
 if a=1 then (1,⟨#[]⟩) else if a=2 then (1,⟨#[]⟩) else if a=3 then (1,⟨#[]⟩) else
 if a=4 then (2,⟨#[]⟩) else if a=5 then (2,⟨#[]⟩) else if a=6 then (2,⟨#[]⟩) else
 if a=7 then (2,⟨#[]⟩) else if a=8 then (2,⟨#[]⟩) else if a=9 then (2,⟨#[]⟩) else
 if a=10 then (3,⟨#[80,45,50,53,54]⟩) else if a=11 then (3,⟨#[80,45,51,56,52]⟩) else
 if a=12 then (4,⟨#[69,100,50,53,53,49,57]⟩) else (0,⟨#[]⟩)
theorem bound_j (a:Int):zbo_s a=some (bndC a):=by
 by_cases h1:a=1
 ·subst h1; kernel_rfl
 by_cases h2:a=2
 ·subst h2; kernel_rfl
 by_cases h3:a=3
 ·subst h3; kernel_rfl
 by_cases h4:a=4
 ·subst h4; kernel_rfl
 by_cases h5:a=5
 ·subst h5; kernel_rfl
 by_cases h6:a=6
 ·subst h6; kernel_rfl
 by_cases h7:a=7
 ·subst h7; kernel_rfl
 by_cases h8:a=8
 ·subst h8; kernel_rfl
 by_cases h9:a=9
 ·subst h9; kernel_rfl
 by_cases h10:a=10
 ·subst h10; kernel_rfl
 by_cases h11:a=11
 ·subst h11; kernel_rfl
 by_cases h12:a=12
 ·subst h12; kernel_rfl
 unfold zbo_s zbo_p0 zbo_p1 bndC;simp only [deF h1,deF h2,deF h3,deF h4,deF h5,deF h6,deF h7,deF h8,deF h9,deF h10,deF h11,deF h12,if_neg h1,if_neg h2,if_neg h3,if_neg h4,if_neg h5,if_neg h6,if_neg h7,if_neg h8,if_neg h9,if_neg h10,if_neg h11,if_neg h12,cnF,obS,Sum.elim_inr]
abbrev kCrv:BA:=⟨#[99,114,118]⟩
abbrev kSig:BA:=⟨#[115,105,103]⟩
abbrev kVerify:BA:=⟨#[118,101,114,105,102,121]⟩
def restB (x:qHj) (a:Int):Bool:=!(((x.hasUse && (!decide (x.use=kSig))) || (x.hasAlg && (!decide (x.alg=algS a)))) || (x.hasOps && (!decide (kVerify∈x.ops))))
def crvB (x:qHj) (s:BA):Bool:=((txtC x.value (memC x.value kCrv 0)).2.1 && (txtC x.value (memC x.value kCrv 0)).2.2) && decide ((txtC x.value (memC x.value kCrv 0)).1=s)
def bindB (x:qHj) (a:Int):Bool :=
 bif ((decide ((bndC a).1=(0:Int))) || (!decide (x.kty=(bndC a).1))) then false else
 bif (!decide ((bndC a).2=(⟨#[]⟩:BA))) then crvB x (bndC a).2 && restB x a else restB x a
def bindC (x:qHj) (a:Int):Int:=bif bindB x a then 0 else 105
theorem rest_j {x:qHj} (ho:x.ops.length≤262144) {a:Int} (ha:a≤9223372036854775807):zbl_p0 a x.ops x.use x.hasUse x.alg x.hasAlg x.hasOps=some (bif restB x a then 0 else 105):=by
 unfold zbl_p0 restB;unfold qE3;rw [qAa ha,obS,contains_is _ (by omega),obS];cases (((x.hasUse && (!decide (x.use=kSig))) || (x.hasAlg && (!decide (x.alg=algS a)))) || (x.hasOps && (!decide (kVerify∈x.ops)))) <;> rfl
theorem bind_j {x:qHj} {a:Int} (hv:x.value.length≤262144) (ht:(bndC a).2=⟨#[]⟩∨∃e,Tree x.value 0 e) (ho:x.ops.length≤262144) (ha:a≤9223372036854775807):zbl_s x a=some (bindC x a):=by
 unfold zbl_s bindC bindB;rw [bound_j,obS];cases ((decide ((bndC a).1=(0:Int))) || (!decide (x.kty=(bndC a).1))) with
 | true=>rfl
 | false =>
  rw [cnF,cnF];by_cases he:(bndC a).2=⟨#[]⟩
  ·rw [deT he,Bool.not_true,cnF,cnF,rest_j ho ha];rfl
  ·rcases ht with ht | ⟨e,ht⟩
   ·exact (he ht).elim
   ·rw [deF he,Bool.not_false,cnT,cnT];have htx:=text_j (by omega) ht kCrv false;rw [show ((0:Nat):Int)=0 from rfl] at htx;rw [htx,obS];dsimp only;rw [rest_j ho ha];unfold crvB;cases ((txtC x.value (memC x.value kCrv 0)).2.1 && (txtC x.value (memC x.value kCrv 0)).2.2) with
    | false=>rfl
    | true =>
     rw [Bool.not_true,Bool.false_or,Bool.true_and];cases decide ((txtC x.value (memC x.value kCrv 0)).1=(bndC a).2) <;> rfl
def treeN (v:List Eng.Node):Nat→Nat→Nat→Option Nat
 | 0,_,_=>none
 | f+1,0,a=>if a≤v.length then some a else none
 | f+1,k+1,a=>match v[a]? with
  | none=>none
  | some n=>if 0≤n.kids then (match treeN v f n.kids.toNat (a+1) with
   | none=>none
   | some b=>treeN v f k b) else none
theorem treeN_ok {v:List Eng.Node}:∀ {f k a e:Nat},treeN v f k a=some e→Trees v k a e
 | 0,k,a,e,h=>by cases h
 | f+1,0,a,e,h=>by
  unfold treeN at h;split at h
  ·cases h;exact Trees.nil _ (by assumption)
  ·cases h
 | f+1,k+1,a,e,h=>by
  unfold treeN at h;split at h
  ·cases h
  ·rename_i n hn;split at h
   ·rename_i h0;split at h
    ·cases h
    ·rename_i b hb;exact Trees.cons n hn h0 (treeN_ok hb) (treeN_ok h)
   ·cases h
def nS (k t:BA):Eng.Node:=⟨5,k,t,false,0,0⟩
def nO (n:Int):Eng.Node:=⟨7,⟨#[]⟩,⟨#[]⟩,false,0,n⟩
def littleT:BA:=⟨#[123,34,107,101,121,115,34,58,91,123,34,107,116,121,34,58,34,111,99,116,34,44,34,107,105,100,34,58,34,97,34,125,44,123,34,107,116,121,34,58,34,69,67,34,44,34,99,114,118,34,58,34,80,45,50,53,54,34,44,34,107,105,100,34,58,34,98,34,44,34,117,115,101,34,58,34,115,105,103,34,125,44,123,34,107,116,121,34,58,34,82,83,65,34,125,93,125]⟩
def tOct:BA:=⟨#[111,99,116]⟩
def tRsa:BA:=⟨#[82,83,65]⟩
def tEc:BA:=⟨#[69,67]⟩
def tP256:BA:=⟨#[80,45,50,53,54]⟩
def littleV:List Eng.Node:=[nO 1,⟨6,kKeys,⟨#[]⟩,false,0,3⟩,nO 2,nS kKty tOct,nS kKid ⟨#[97]⟩,nO 4,nS kKty tEc,nS kCrv tP256,nS kKid ⟨#[98]⟩,nS kUse kSig,nO 1,nS kKty tRsa]
def e1T:qCi:=([nO 2,nS kKty tOct,nS kKid ⟨#[97]⟩],1,⟨#[97]⟩,true,⟨#[]⟩,false,⟨#[]⟩,false,[],false,())
def e2T:qCi:=([nO 4,nS kKty tEc,nS kCrv tP256,nS kKid ⟨#[98]⟩,nS kUse kSig],3,⟨#[98]⟩,true,kSig,true,⟨#[]⟩,false,[],false,())
def e3T:qCi:=([nO 1,nS kKty tRsa],2,⟨#[]⟩,false,⟨#[]⟩,false,⟨#[]⟩,false,[],false,())
theorem little_read:readR littleT=.ok 97 littleV:=by kernel_rfl
theorem little_key:keyC littleT=([e1T,e2T,e3T],0):=by
 have hp:parseR littleT=(littleV,0,0):=by
  unfold parseR;rw [if_neg (by decide),little_read];rfl
 have hc:parC littleV=some [e1T,e2T,e3T]:=by kernel_rfl
 unfold keyC;rw [if_neg (by decide),hp];dsimp only;rw [if_pos rfl,hc]
theorem brace_key:keyC ⟨#[123,125]⟩=([],100):=by
 have hr:readR ⟨#[123,125]⟩=.ok 2 [nO 0]:=by kernel_rfl
 have hp:parseR ⟨#[123,125]⟩=([nO 0],0,0):=by
  unfold parseR;rw [if_neg (by decide),hr];rfl
 have hc:parC [nO 0]=none:=by kernel_rfl
 unfold keyC;rw [if_neg (by decide),hp];dsimp only;rw [if_pos rfl,hc]
theorem awake_is:zbu_s=some true:=by
 have f1:finC [e1T,e2T,e3T] ⟨#[98]⟩=(untE e2T,0):=by kernel_rfl
 have f2:finC [e1T,e2T,e3T] ⟨#[99]⟩=(emptyE,103):=by kernel_rfl
 obtain ⟨p1,p2,p3⟩:=parse_j littleT;rw [little_key] at p1 p2 p3;have p4:=(parse_j ⟨#[123,125]⟩).1;rw [brace_key] at p4;have t2:Tree (untE e2T).value 0 5:=treeN_ok (f:=20) (by kernel_rfl);have b1:zbl_s (untE e2T) 10=some 0:=(bind_j (by decide) (.inr ⟨5,t2⟩) (by decide) (by decide)).trans (by kernel_rfl);have b2:zbl_s (untE e2T) 11=some 105:=(bind_j (by decide) (.inr ⟨5,t2⟩) (by decide) (by decide)).trans (by kernel_rfl);have b3:zbl_s (untE e1T) 1=some 0:=(bind_j (by decide) (.inl (by kernel_rfl)) (by decide) (by decide)).trans (by kernel_rfl);have b4:zbl_s (untE e3T) 4=some 0:=(bind_j (by decide) (.inl (by kernel_rfl)) (by decide) (by decide)).trans (by kernel_rfl);unfold zbu_s;rw [show (⟨#[123,34,107,101,121,115,34,58,91,123,34,107,116,121,34,58,34,111,99,116,34,44,34,107,105,100,34,58,34,97,34,125,44,123,34,107,116,121,34,58,34,69,67,34,44,34,99,114,118,34,58,34,80,45,50,53,54,34,44,34,107,105,100,34,58,34,98,34,44,34,117,115,101,34,58,34,115,105,103,34,125,44,123,34,107,116,121,34,58,34,82,83,65,34,125,93,125]⟩:BA)=littleT from rfl,p1,obS];dsimp only;rw [find_j p2 p3,obS,find_j p2 p3,obS,p4,obS,f1,f2];dsimp only;rw [show ((((((!decide ((0:Int)=(0:Int))) || (!decide ((0:Int)=(0:Int)))) || (!decide ((103:Int)=(103:Int)))) || (!decide ((100:Int)=(100:Int)))) || (!decide ((([e1T,e2T,e3T]:List qCi).length:Int)=(3:Int)))) || (!decide ((untE e2T).kty=(3:Int))))=false by kernel_rfl,cnF,b1,obS,deT rfl,cnT,b2,obS,deT rfl,qAa (fun _=>by decide),qAa (fun _=>by decide),cnT,qAa (by decide),qAa (by decide),qAa (by decide),qAa (by decide)]
 show ((zbl_s (untE e1T) 1).bind _)=_;rw [b3,obS,deT rfl,qAa (fun _=>by decide),qAa (fun _=>by decide),cnT,qAa (by decide),qAa (by decide),qAa (by decide),qAa (by decide)];show ((zbl_s (untE e3T) 4).bind _)=_;rw [b4];rfl
theorem keysetWritten_law (doc:BA):zbt_s doc=some true:=by
 obtain ⟨p1,p2,p3⟩:=parse_j doc;unfold zbt_s;rw [awake_is,obS,Bool.not_true,cnF,p1,obS,p_Parse,obS];by_cases hs:262144<doc.size
 ·have hk:keyC doc=([],10):=by unfold keyC; rw [if_pos hs]
  rw [deT (by omega),cnT,hk];rfl
 ·rw [deF (by omega),cnF];rcases parseR_cases doc with ⟨l,h1,h2,h3,h4,h5,h6,h7⟩ | ⟨c,b,h1,h2⟩
  ·have hok:OkL l:=⟨by omega,fun n hn=>(h7 n hn).okN (by decide)⟩;have hsh:=readR_shape h2 h3;have hshort:=readR_short h2 h3;have hr:=prOne_range l 32 0;have hb:qAh (qA4 (qAt l 32 0))=qAt l 32 0:=bytesL_of hr;have hsz:(qA4 (qAt l 32 0)).size=(qAt l 32 0).length:=bytesI_size;have hback:=print_back hok hsh hb (by omega);have hkk:keyC (qA4 (qAt l 32 0))=keyC doc:=by
    unfold keyC;rw [if_neg (by omega),if_neg hs,hback,h1]
   rw [h1];dsimp only;rw [deT rfl,Bool.not_true,cnF,p_Print hok,hsh,if_pos rfl,if_neg (by omega),obS];dsimp only;rw [deT rfl,Bool.not_true,cnF,(parse_j _).1,obS,hkk,deT rfl,cnT,same_all _ p2 p3];rfl
  ·have hk:keyC doc=([],c):=by
    unfold keyC;rw [if_neg hs,h1];dsimp only;rw [if_neg h2]
   rw [h1];dsimp only;rw [deF h2,Bool.not_false,cnT,hk];dsimp only;rw [deT rfl];rfl
end Go.Proofs.YtnifdcmeffnpaaaDoor
namespace Go.Eng
open Go.RowKit
set_option linter.unusedVariables false
theorem reach_of {x:Nat} (h:decide (x≤reachBytes)=true):x≤140737488351232:=by
 have h2:=of_decide_eq_true h;exact h2
theorem size_of_weights {H:Type} {P:Program} {T:TypeId} {s:BA} (h:∀x∈(DataW.lit (.string s.data.toList):DataW H).weights P T,x≤140737488351232):s.size≤140737488351232:=by
 have h2:=h s.data.toList.length (by simp only [DataW.weights]; exact List.mem_singleton.2 rfl);rw [Array.length_toList] at h2;exact h2
structure LowB (w w':World):Prop where
 os:w'.os=w.os
 output:w'.output=w.output
 size:w.heap.size≤w'.heap.size
 block:∀k,k<w.heap.size→w'.heap[k]?=w.heap[k]?
theorem lowB_of_stays {w w':World} (h:Stays (fun _=>False) w w'):LowB w w':=⟨h.os,h.output,h.size,fun k hk=>h.block k hk id⟩
theorem LowB.frame {W w':World} (h:LowB W w') (may:MemPlace→Prop):W.keptBut w' may:=by
 refine ⟨h.os,h.output,fun i hi=>?_⟩;rw [h.block i hi];split <;> simp_all
theorem LowB.same {W w':World} (h:LowB W w') {p:MemPlace} (hp:p.block<W.heap.size):W.sameAt w' p:=by
 cases p with
 | cell b o=>exact World.cell?_of_block (w:=W) (h.block b hp)
 | map b=>exact h.block b hp
theorem LowB.trod {H:Type} {enc:TypeId × Value→H} {P:Program} {t:TypeId} (hl:laidOutB P=true) (hr:P.readableRec t=true) (hrow:t<P.types.size) {W W':World} {v:Value} {d:DataW H} {ps:List MemPlace}
  (h:DataW.Trod enc P W 0 (fun _=>true) true t v d ps) (hb:LowB W W') (hlt:∀x∈ps,x.block<W.heap.size) :
  DataW.Trod enc P W' 0 (fun b=>decide (b<W.heap.size)) true t v d ps :=
 WideElems.Trod_stays hl hr hrow h (fun x hx=>hb.same (hlt x hx)) (fun x hx=>by simpa using hlt x hx)
theorem callS {P:Program} {f:Nat} {C:CS} (h:qAl P f C) {args:List SV} {v:SV} (hc:C args [] (SV × List SB) (fun v hp'=>some (v,hp'))=some (v,[])) (hs:args.all SV.shut=true) (hv:v.shut=true) (w:World) (ht:tabOK noX w) (vs:List Value) (hvs:args.map (SV.den fun _=>undef)=vs) :
  Calls P f vs.toArray w fun e w'=>e=.returned (v.den fun _=>undef)∧LowB w w':=by
 have:=h.2 args [] v [] hc (fun v hv=>SV.shut_lt (List.all_eq_true.1 hs v hv) _) noX w (fun _=>undef) (HpSat.nil _ _ ht _);rw [hvs] at this;exact this.mono fun e w' ⟨ρ',_,_,a,_,_,b⟩=>⟨by rw [a,SV.shut_den hv ρ' fun _=>undef],lowB_of_stays b⟩
end Go.Eng
namespace Go.Proofs
open Go.Shelf
shelf_lay Lays.n260 Nm 260 at Tryd as Tryd.laysSlow
end Go.Proofs
namespace Go.Proofs.YtnifdcmeffnpaaaDoor
open Go.Eng Go.Shelf
set_option linter.unusedVariables false
theorem first_data:(Rows.laid_unicode_utf8_first:DataW Unit)=Lib.firstData:=by kernel_rfl
theorem accept_data:(Rows.laid_unicode_utf8_acceptRanges:DataW Unit)=Lib.acceptData:=by kernel_rfl
theorem cells_strs {H:Type} {enc:TypeId × Value→H} {P:Program} {w:World} {base:Nat} {sp:Nat→Bool} {held:Bool} {fuel:Nat} {t e:TypeId} {n:Nat} {cs:List Value} {zs:List (List UInt8)} {p:List MemPlace}
  (ht:P.underlying t=some (.array n e)) (he:P.underlying e=some .string) (hce:P.cellsOf e=1) (hct:P.cellsOf t=n)
  (h:DataW.trod enc P w base sp held fuel t cs=some (.agg (zs.map fun z=>.lit (.string z)),p)):cs=zs.map fun z=>Value.string ⟨z.toArray⟩:=by
 cases fuel with
 | zero=>simp [DataW.trod] at h
 | succ fuel =>
  simp only [DataW.trod,ht,hce,hct,Nat.mul_one] at h;split at h
  ·rename_i hl;obtain ⟨xs,hm,hx⟩:=Option.map_eq_some_iff.1 h;have hxs:xs.map (·.1)=zs.map fun z=>(DataW.lit (.string z):DataW H):=by
    have:=congrArg Prod.fst hx;simpa using this
   have hxl:xs.length=n:=by simpa using Lib.mapM_length hm
   have hzl:zs.length=n:=by
    have:=congrArg List.length hxs;simp at this;omega
   apply List.ext_getElem?;intro i;by_cases hi:i<n
   ·obtain ⟨b,hb,hf⟩:=Lib.mapM_at hm i i (by simp [hi]);obtain ⟨z,hc,rfl,_⟩:=DataW.trod_string he hf;have h1:cs[i]?=some (.string z):=by
     have:=congrArg (·[0]?) hc;simpa [List.getElem?_take,List.getElem?_drop] using this
    have h2:(xs.map (·.1))[i]?=some (DataW.lit (.string z.data.toList):DataW H):=by simp [hb]
    rw [hxs] at h2;simp only [List.getElem?_map,Option.map_eq_some_iff,DataW.lit.injEq,Lit.string.injEq] at h2;obtain ⟨z',hz',rfl⟩:=h2;simp only [h1,List.getElem?_map,hz',Option.map_some]
   ·rw [List.getElem?_eq_none (by omega),List.getElem?_eq_none (by simp; omega)]
  ·cases h
def namesZ:List (List UInt8):=[[],[72,83,50,53,54],[72,83,51,56,52],[72,83,53,49,50],[82,83,50,53,54],[82,83,51,56,52],[82,83,53,49,50],[80,83,50,53,54],[80,83,51,56,52],[80,83,53,49,50],[69,83,50,53,54],[69,83,51,56,52],[69,100,68,83,65]]
theorem names_cells {W:World} (h:Lib.VarReads Tryd.prog W "signet/keyset.names" Rows.laid_signet_keyset_names):∀k,k<13→W.cell? ⟨0,k,none⟩=some (.string (algAt k)):=by
 intro k hk;obtain ⟨g,t,cs,fuel,p,hg,hty,hvar,hd⟩:=h;have hg':Tryd.prog.globalNamed "signet/keyset.names" = some 0:=by kernel_rfl
 obtain rfl:=Option.some.inj (hg'.symm.trans hg);have hty':(Tryd.prog.globals[0]?).map (·.type)=some 92:=by kernel_rfl
 obtain rfl:=Option.some.inj (hty'.symm.trans hty);have hcs:=cells_strs (n:=13) (e:=9) (zs:=namesZ) (by kernel_rfl) (by kernel_rfl) (by kernel_rfl) (by kernel_rfl) hd;rw [World.var?_cell hg hvar k,←Array.getElem?_toList,hcs];match k,hk with
 | 0,_ | 1,_ | 2,_ | 3,_ | 4,_ | 5,_ | 6,_ | 7,_ | 8,_ | 9,_ | 10,_ | 11,_ | 12,_=>rfl
theorem utf8N_tabs {W:World} (h3:Lib.VarReads Tryd.prog W "unicode/utf8.first" Rows.laid_unicode_utf8_first) (h4:Lib.VarReads Tryd.prog W "unicode/utf8.acceptRanges" Rows.laid_unicode_utf8_acceptRanges) (h5:Lib.VarReads Tryd.prog W "signet/keyset.names" Rows.laid_signet_keyset_names):tabOK noX W:=by
 rw [first_data] at h3;rw [accept_data] at h4;exact ⟨utf8Tabs_of_reads Tryd.laysSlow ⟨by kernel_rfl,by kernel_rfl,by kernel_rfl,by kernel_rfl,by kernel_rfl,by kernel_rfl,by kernel_rfl⟩ h3 h4,names_cells h5,fun h=>h,fun h=>h,fun h=>h⟩
end Go.Proofs.YtnifdcmeffnpaaaDoor
namespace Go.Proofs.YtnifdcmeffnpaaaDoor
open Go.Eng
set_option linter.unusedVariables false
set_option linter.unusedSimpArgs false
theorem keysetWritten_tabs {W:World} (h:laidMetH Tryd.prog Rows.keysetWrittenRow.laid W):tabOK noX W:=by
 have h':laidMet Tryd.prog Rows.keysetWrittenRow.laid W:=h;exact utf8N_tabs (Lib.laidMet.reads h' (List.mem_cons_of_mem _ (List.mem_cons_of_mem _ List.mem_cons_self))) (Lib.laidMet.reads h' List.mem_cons_self) (Lib.laidMet.reads h' (List.mem_cons_of_mem _ List.mem_cons_self))
theorem keysetWritten_walk (s0:BA) (W:World) (h0:s0.size≤140737488351232) (hT:tabOK noX W):Calls Tryd.prog 4 #[.string s0] W fun e w'=>e=.returned (.bool true)∧LowB W w':=by
 refine callS zbt_val (args:=[.c (.o (.val (.string s0)))]) (v:=.c (.o (.val (.bool true)))) ?_ rfl rfl W hT [.string s0] rfl;show ((zbt_s s0).bind fun r=>some ((.c (.o (.val (.bool r))),[]):SV × List SB))=_;rw [keysetWritten_law s0];rfl
end Go.Proofs.YtnifdcmeffnpaaaDoor
