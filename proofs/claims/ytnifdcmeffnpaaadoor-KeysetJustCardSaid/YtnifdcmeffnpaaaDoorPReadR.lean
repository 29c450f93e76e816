/-
  Texts of a claim.
-/
import Derived.Test.YtnifdcmeffnpaaaDoorPLexP
import Derived.Test.YtnifdcmeffnpaaaDoorPLexQ
namespace Go.Proofs.YtnifdcmeffnpaaaDoor
open Go.Eng
set_option linter.unusedVariables false
set_option linter.unusedSimpArgs false
variable (st:Int) (out:List Eng.Node) (op:List Int) (nm:List (MapC × Unit)) (key:BA) (cd bd:Int)
theorem by8_out {t:BA} {i:Nat} (h:t.size≤i):by8 t i=0:=by
 unfold by8;cases t with
 | mk d =>
  have:ByteArray.get! ⟨d⟩ i=d[i]!:=rfl;rw [this,getElem!_neg d i (by show ¬i<d.size; exact Nat.not_lt.2 h)];rfl
theorem by8_tail (t:BA) (a i:Nat) (ha:a≤t.size):by8 (t.extract a t.size) i=by8 t (a+i):=by
 have hsz:(t.extract a t.size).size=t.size - a:=by rw [ByteArray.size_extract]; omega
 by_cases h:a+i<t.size
 ·have h1:=by8_in (t:=t.extract a t.size) (i:=i) (by omega);have h2:=by8_in h;rw [bAt_tail t a i (by omega)] at h1;rw [show ((a+i:Nat):Int)=(a:Int)+(i:Int) by omega] at h2;omega
 ·rw [by8_out (by omega),by8_out (by omega)]
theorem dec_tail (t:BA) (a:Nat) (ha:a<t.size):Lib.decodeGo (t.extract a t.size)=Utf8.decode t a:=by
 have hsz:(t.extract a t.size).size=t.size - a:=by rw [ByteArray.size_extract]; omega
 unfold Lib.decodeGo;rw [if_neg (by omega),Lib.decode_at,Lib.decode_at,hsz];have h0:=by8_tail t a 0 (by omega);have h1:=by8_tail t a 1 (by omega);have h2:=by8_tail t a 2 (by omega);have h3:=by8_tail t a 3 (by omega);unfold by8 at h0 h1 h2 h3;simp only [Nat.zero_add,Nat.add_zero,Nat.sub_zero] at *
 rw [h0,h1,h2,h3]
theorem full_tail (t:BA) (a:Nat) (ha:a<t.size):fullS (t.extract a t.size)=qE0 (t.size - a) (by8 t a) (by8 t (a+1)) (by8 t (a+2)):=by
 have hsz:(t.extract a t.size).size=t.size - a:=by rw [ByteArray.size_extract]; omega
 have h0:=by8_tail t a 0 (by omega);have h1:=by8_tail t a 1 (by omega);have h2:=by8_tail t a 2 (by omega);unfold fullS;rw [hsz];unfold by8 at *
 simp only [Nat.add_zero] at *
 rw [h0,h1,h2]
theorem p_sq (t:BA) (hs:t.size≤3000000) (a:Nat) (ha:a<t.size) (h:128≤by8 t a):∃g,zba_s ⟨t,(a:Int),st,out,op,nm,key,cd,bd⟩=some g ∧
  (if seqK t a=0 then g=(⟨t,(a:Int),st,out,op,nm,key,cd,bd⟩,(seqW t a:Int),true) else g.1.code=seqK t a∧g.1.bad=(if seqK t a=31 then (t.size:Int) else (a:Int))∧g.2.2=false):=by
 obtain ⟨d1,d2⟩:=seq_dec ha h;have hc:=seqK_cases t a;unfold zba_s;dsimp only;rw [qAa (by omega),Int.toNat_natCast];unfold qA7;rw [obS,dec_tail t a ha];by_cases h0:seqK t a=0
 ·have hw:=seqW_in ha h h0;have e:=d1 h0;dsimp only;rw [e,qBt (p:=True) (by
   simp only [Bool.or_eq_true,decide_eq_true_eq,iff_true];right; omega),if_pos trivial]
  exact ⟨_,rfl,by rw [if_pos h0]⟩
 ·obtain ⟨e1,e2⟩:=d2 h0;rw [e1];show ∃g,(bif ((!decide ((65533:Int)=65533)) || decide ((1:Int)<1)) then _ else _)=_∧_
  rw [deT rfl,deF (by decide),Bool.not_true,Bool.or_false,cnF,qAa (by omega)];unfold qBk;rw [qAa (by rw [ByteArray.size_extract]; omega),obS,full_tail t a ha,e2];by_cases h1:seqK t a=31
  ·rw [deT h1,Bool.not_true,Bool.not_false,cnT];exact ⟨_,rfl,by rw [if_neg h0,if_pos h1]; exact ⟨h1.symm,rfl,rfl⟩⟩
  ·rw [deF h1,Bool.not_false,Bool.not_true,cnF];exact ⟨_,rfl,by rw [if_neg h0,if_neg h1]; exact ⟨by show (32:Int)=_; omega,rfl,rfl⟩⟩
def saysT (t:BA) (g:BA × Bool × BA × Int × Int × BA × Int × Int × (List (MapC × Unit))) (r:Rd (List Int)):Prop:=match r with
 | .bad c b=>g.2.1=false∧g.2.2.2.2.2.2.1=c∧g.2.2.2.2.2.2.2.1=(b:Int)
 | .ok b l=>g=(qBe l,true,t,(b:Int),st,key,cd,bd,nm)
theorem p_quo0 (t:BA) (hs:t.size≤3000000):∀(n a:Nat) (acc:List Int),t.size - a<n→a≤t.size→acc.length≤4*a→∃g,zaz_p0 t (a:Int) st key cd bd out op nm acc=some g∧saysT st nm key cd bd t g (quoR t n a acc)
 | 0,a,acc,h,_,_=>by omega
 | n+1,a,acc,h,ha,hacc=>by
  have hst:∀ {x},qBd t (a:Int) st key cd bd out op nm acc=some (.inr x)→zaz_p0 t (a:Int) st key cd bd out op nm acc=some x:=fun h=>qAn h
  have hnx:∀ {b:Nat} {acc':List Int},qBd t (a:Int) st key cd bd out op nm acc=some (.inl (t,(b:Int),st,key,cd,bd,nm,acc'))→zaz_p0 t (a:Int) st key cd bd out op nm acc=zaz_p0 t (b:Int) st key cd bd out op nm acc':=fun h=>qAv h
  have hb:=bAt_range t a;unfold quoR;by_cases hend:a=t.size
  ·have hb:bAt t a = -1:=qB4 (by omega);rw [if_pos (show bAt t a<32 by omega)];refine ⟨((⟨#[]⟩:BA),false,t,(a:Int),st,key,31,(a:Int),nm),hst ?_,rfl,rfl,rfl⟩;unfold qBd;rw [deT (show (a:Int)=t.size by omega),cnT];rfl
  ·have hl:a<t.size:=by omega
   have hb0:=bAt_nn (s:=t) (i:=a) (by omega) (by omega);by_cases h2:bAt t a=34
   ·rw [if_neg (show ¬bAt t a<32 by omega),if_pos h2];refine ⟨(qBe acc,true,t,((a+1:Nat):Int),st,key,cd,bd,nm),hst ?_,rfl⟩;unfold qBd;rw [deF (show ¬(a:Int)=t.size by omega),cnF,qAa (by omega),deT h2,cnT,qAa (by unfold qAj; omega)];rfl
   ·by_cases h3:bAt t a=92
    ·rw [if_neg (show ¬bAt t a<32 by omega),if_neg h2,if_pos h3];obtain ⟨g,hg,hg2⟩:=p_esc st out op nm key cd bd t hs a hl;cases h4:escR t a with
     | bad c b =>
      rw [h4] at hg2;obtain ⟨e1,e2,e3⟩:=hg2;refine ⟨((⟨#[]⟩:BA),false,g.1.text,g.1.at_,g.1.state,g.1.key,g.1.code,g.1.bad,g.1.names),hst ?_,rfl,e1,e2⟩;unfold qBd;rw [deF (show ¬(a:Int)=t.size by omega),cnF,qAa (by omega),deF h2,cnF,deT h3,cnT,hg,obS,e3];rfl
     | ok b u =>
      rw [h4] at hg2;have hg2:g=(⟨t,(b:Int),st,out,op,nm,key,cd,bd⟩,u,true):=hg2;have h5:=escR_ok h4;have h6:=utfL_len u;dsimp only;rw [hnx (b:=b) (acc':=acc++utfL u) (by
       unfold qBd;rw [deF (show ¬(a:Int)=t.size by omega),cnF,qAa (by omega),deF h2,cnF,deT h3,cnT,hg,obS,hg2];dsimp only;rw [Bool.not_true,cnF,p_rune acc (by omega) u h5.2.2];rfl)]
      exact p_quo0 t hs n b (acc++utfL u) (by omega) (by omega) (by rw [List.length_append]; omega)
    ·by_cases h1:bAt t a<32
     ·rw [if_pos h1];refine ⟨((⟨#[]⟩:BA),false,t,(a:Int),st,key,31,(a:Int),nm),hst ?_,rfl,rfl,rfl⟩;unfold qBd;rw [deF (show ¬(a:Int)=t.size by omega),cnF,qAa (by omega),deF h2,cnF,deF h3,cnF,deT h1,cnT];rfl
     ·rw [if_neg h1,if_neg h2,if_neg h3];by_cases h4:bAt t a<128
      ·rw [if_pos h4,hnx (b:=a+1) (acc':=acc++[bAt t a]) (by
        unfold qBd;rw [deF (show ¬(a:Int)=t.size by omega),cnF,qAa (by omega),deF h2,cnF,deF h3,cnF,deF h1,cnF,deT h4,cnT,qAa (by simp only [List.length_cons,List.length_nil]; omega),qAa (by unfold qAj; omega)];rfl)]
       exact p_quo0 t hs n (a+1) (acc++[bAt t a]) (by omega) (by omega) (by rw [List.length_append,List.length_singleton]; omega)
      ·rw [if_neg h4];have h8:128≤by8 t a:=by have:=by8_in hl; omega
       obtain ⟨g,hg,hg2⟩:=p_sq st out op nm key cd bd t hs a hl h8;have hkc:=seqK_cases t a;by_cases h5:seqK t a=0
       ·have hw:=seqW_in hl h8 h5;rw [if_pos h5] at hg2 ⊢;have hsz:(t.extract a (a+seqW t a)).size≤4:=by rw [ByteArray.size_extract]; omega
        rw [hnx (b:=a+seqW t a) (acc':=acc++qBx (t.extract a (a+seqW t a))) (by
         unfold qBd;rw [deF (show ¬(a:Int)=t.size by omega),cnF,qAa (by omega),deF h2,cnF,deF h3,cnF,deF h1,cnF,deF h4,cnF,hg,obS,hg2];dsimp only;rw [Bool.not_true,cnF,show (a:Int)+(seqW t a:Int)=((a+seqW t a:Nat):Int) by omega,qAa (by unfold qAj; omega),qAa (by omega),Int.toNat_natCast,Int.toNat_natCast,qAa (by omega),qAa (by unfold qAj; omega)])]
        have h9:(qBx (t.extract a (a+seqW t a))).length≤4:=by
         unfold qBx;rw [List.length_map,Array.length_toList];exact hsz
        exact p_quo0 t hs n (a+seqW t a) _ (by omega) (by omega) (by rw [List.length_append]; omega)
       ·rw [if_neg h5] at hg2 ⊢;obtain ⟨e1,e2,e3⟩:=hg2;refine ⟨((⟨#[]⟩:BA),false,g.1.text,g.1.at_,g.1.state,g.1.key,g.1.code,g.1.bad,g.1.names),hst ?_,rfl,e1,?_⟩
        ·unfold qBd;rw [deF (show ¬(a:Int)=t.size by omega),cnF,qAa (by omega),deF h2,cnF,deF h3,cnF,deF h1,cnF,deF h4,cnF,hg,obS,e3];rfl
        ·rw [e2];split <;> rfl
def saysU (t:BA) (g:json_reader × BA × Bool) (r:Rd (List Int)):Prop:=match r with
 | .bad c b=>g.1.code=c∧g.1.bad=(b:Int)∧g.2.2=false
 | .ok b l=>g=(⟨t,(b:Int),st,out,op,nm,key,cd,bd⟩,qBe l,true)
theorem p_quo (t:BA) (hs:t.size≤3000000) (a:Nat) (ha:a<t.size):∃g,zaz_s ⟨t,(a:Int),st,out,op,nm,key,cd,bd⟩=some g∧saysU st out op nm key cd bd t g (quoR t (t.size+1) (a+1) []):=by
 obtain ⟨g,h1,h2⟩:=p_quo0 st out op nm key cd bd t hs (t.size+1) (a+1) [] (by omega) (by omega) (by simp);unfold zaz_s;dsimp only;rw [qAa (by unfold qAj; omega),show (a:Int)+1=((a+1:Nat):Int) by omega,h1,obS];refine ⟨_,rfl,?_⟩;cases h:quoR t (t.size+1) (a+1) [] with
 | bad c b =>
  rw [h] at h2;exact ⟨h2.2.1,h2.2.2,h2.1⟩
 | ok b l =>
  rw [h] at h2;have h2:g=(qBe l,true,t,(b:Int),st,key,cd,bd,nm):=h2;rw [h2];rfl
def bumpN (n:Eng.Node):Eng.Node:=⟨n.kind,n.key,n.text,n.whole,n.int,n.kids+1⟩
def setK (k:BA) (n:Eng.Node):Eng.Node:=⟨n.kind,k,n.text,n.whole,n.int,n.kids⟩
def upO (op:List Int) (out:List Eng.Node):List Eng.Node:=match op.getLast? with
 | none=>out
 | some p=>out.set p.toNat (bumpN (out.getD p.toNat (ET.dft .node)))
def TopOK (op:List Int) (out:List Eng.Node):Prop:=op=[]∨∃op' p,op=op'++[((p:Nat):Int)]∧p<out.length∧qAj ((out.getD p (ET.dft .node)).kids+1)
def layO (op:List Int) (out:List Eng.Node) (key:BA) (n:Eng.Node):List Eng.Node:=upO op out++[setK key n]
theorem upO_len (op:List Int) (out:List Eng.Node):(upO op out).length=out.length:=by
 unfold upO;split <;> simp
theorem layO_len (op:List Int) (out:List Eng.Node) (key:BA) (n:Eng.Node):(layO op out key n).length=out.length+1:=by
 unfold layO;rw [List.length_append,upO_len];rfl
theorem last_snoc (op':List Int) (p:Int):(op'++[p]).getLast?=some p:=by simp
theorem snocI_toNat (op':List Int) (p:Int):Int.toNat (((op'++[p]).length:Int) - 1)=op'.length:=by
 rw [List.length_append,List.length_singleton];omega
theorem snocI_getD (op':List Int) (p d:Int):(op'++[p]).getD op'.length d=p:=by simp [List.getD_eq_getElem?_getD]
theorem p_lay (t:BA) (a:Int) (n:Eng.Node) (hop:TopOK op out) (ho:op.length≤100) (hl:out.length≤3000000):zar_s ⟨t,a,st,out,op,nm,key,cd,bd⟩ n=some ⟨t,a,st,layO op out key n,op,nm,⟨#[]⟩,cd,bd⟩:=by
 unfold zar_s;dsimp only;rcases hop with rfl | ⟨op',p,rfl,hp,hk⟩
 ·rw [deF (by simp),cnF,qAa (by simp only [List.length_cons,List.length_nil]; omega)];rfl
 ·have hlen:(op'++[(p:Int)]).length=op'.length+1:=by simp
  rw [hlen] at ho;rw [deT (by rw [hlen]; omega),cnT,snocI_toNat,snocI_getD,Int.toNat_natCast];rw [qAa (by rw [hlen]; unfold qAj; omega),qAa (by rw [hlen]; omega),qAa (by rw [hlen]; omega),qAa (by omega),qAa hp,qAa hp,qAa hk,qAa (by omega),qAa hp,qAa hp,qAa (by simp only [List.length_set,List.length_cons,List.length_nil]; omega)];unfold layO upO;rw [last_snoc];rfl
def stB (op:List Int):Int:=if op.length=0 then 6 else 5
def saysN (t:BA) (g:Bool × BA × Int × Int × BA × Int × Int × (List (MapC × Unit)) × (List Eng.Node)) (f:Nat) (r:Rd Unit):Prop:=match r with
 | .bad c b=>g.1=false∧g.2.2.2.2.2.1=c∧g.2.2.2.2.2.2.1=(b:Int)
 | .ok b _=>g=(true,t,(b:Int),stB op,⟨#[]⟩,cd,bd,nm,layO op out key (nd0 4 (t.extract f b) (wholeV (t.extract f b)).2 (wholeV (t.extract f b)).1 0))
variable (hop:TopOK op out) (ho:op.length≤100) (hl:out.length≤3000000)
include hop ho hl in
theorem p_num3 (t:BA) (hs:t.size≤3000000) {f b:Nat} (h1:f≤b) (h2:b≤t.size) (u:Unit):∃g,zaw_p3 (f:Int) t (b:Int) st key cd bd out op nm=some g∧saysN out op nm key cd bd t g f (.ok b u):=by
 unfold zaw_p3;rw [qAa (by omega),Int.toNat_natCast,Int.toNat_natCast,whole_j _ (ext_le t f b hs),obS,p_lay _ _ _ _ _ _ _ _ _ _ hop ho hl,obS,p_behind,obS];exact ⟨_,rfl,rfl⟩
include hop ho hl in
theorem p_numD (t:BA) (hs:t.size≤3000000) {f a:Nat} (h1:f≤a) (h2:a≤t.size) {F:Bool × BA × Int × Int × BA × Int × Int × (List (MapC × Unit)) × (List Eng.Node)→Option (Bool × BA × Int × Int × BA × Int × Int × (List (MapC × Unit)) × (List Eng.Node))} (hF:∀x,F x=some x) :
  ∃g,((zan_s ⟨t,(a:Int),st,out,op,nm,key,cd,bd⟩).bind fun r72 =>
   bif (!r72.2) then (
    some (false,r72.1.text,r72.1.at_,r72.1.state,r72.1.key,r72.1.code,r72.1.bad,r72.1.names,out))
   else (
    (zaw_p3 (f:Int) r72.1.text r72.1.at_ r72.1.state r72.1.key r72.1.code r72.1.bad out op r72.1.names).bind F))=some g∧saysN out op nm key cd bd t g f (digR t a):=by
 rw [p_dig st out op nm key cd bd t hs,obS];cases h:digR t a with
 | bad c b=>exact ⟨_,rfl,rfl,rfl,rfl⟩
 | ok b x =>
  have:=digR_adv h2 h;obtain ⟨g,hg,hg2⟩:=p_num3 st out op nm key cd bd hop ho hl t hs (f:=f) (b:=b) (by omega) this.2.1 x;refine ⟨g,?_,hg2⟩;show ((zaw_p3 (f:Int) t (b:Int) st key cd bd out op nm).bind F)=_;rw [hg,obS,hF]
include hop ho hl in
theorem p_num2 (t:BA) (hs:t.size≤3000000) {f a:Nat} (h1:f≤a) (h2:a≤t.size):∃g,zaw_p2 (f:Int) t (a:Int) st key cd bd out op nm=some g∧saysN out op nm key cd bd t g f (powR t a):=by
 unfold zaw_p2 powR;rw [qEr,obS];rw [qBt (p:=bAt t a=101∨bAt t a=69) (by
  simp only [Bool.or_eq_true,decide_eq_true_eq];rw [qEc (by decide),qEc (by decide)])]
 by_cases h3:bAt t a=101∨bAt t a=69
 ·have ha:=qBm (t:=t) (a:=a) (by omega);rw [if_pos h3,if_pos h3,qAa (by unfold qAj; omega),show (a:Int)+1=((a+1:Nat):Int) by omega,qEr,obS];rw [qBt (p:=bAt t (a+1:Nat)=43∨bAt t (a+1:Nat)=45) (by
   simp only [Bool.or_eq_true,decide_eq_true_eq];rw [qEc (by decide),qEc (by decide)])]
  by_cases h4:bAt t (a+1:Nat)=43∨bAt t (a+1:Nat)=45
  ·have hb:=qBm (t:=t) (a:=a+1) (by omega);rw [if_pos h4,if_pos h4,qAa (by unfold qAj; omega),show ((a+1:Nat):Int)+1=((a+2:Nat):Int) by omega];exact p_numD st out op nm key cd bd hop ho hl t hs (by omega) (by omega) (fun x=>rfl)
  ·rw [if_neg h4,if_neg h4];exact p_numD st out op nm key cd bd hop ho hl t hs (by omega) (by omega) (fun x=>rfl)
 ·rw [if_neg h3,if_neg h3];obtain ⟨g,hg,hg2⟩:=p_num3 st out op nm key cd bd hop ho hl t hs h1 h2 ();rw [hg];exact ⟨_,rfl,hg2⟩
include hop ho hl in
theorem p_num1 (t:BA) (hs:t.size≤3000000) {f a:Nat} (h1:f≤a) (h2:a≤t.size):∃g,zaw_p1 (f:Int) t (a:Int) st key cd bd out op nm=some g∧saysN out op nm key cd bd t g f (match dotR t a with
  | .bad c b=>.bad c b
  | .ok b _=>powR t b):=by
 unfold zaw_p1 dotR;rw [qEr,obS,qBt (p:=bAt t a=46) (by
  simp only [decide_eq_true_eq];rw [qEc (by decide)])]
 by_cases h3:bAt t a=46
 ·have ha:=qBm (t:=t) (a:=a) (by omega);rw [if_pos h3,if_pos h3,qAa (by unfold qAj; omega),show (a:Int)+1=((a+1:Nat):Int) by omega,p_dig st out op nm key cd bd t hs,obS];cases h:digR t (a+1) with
  | bad c b=>exact ⟨_,rfl,rfl,rfl,rfl⟩
  | ok b x =>
   have:=digR_adv (by omega) h;obtain ⟨g,hg,hg2⟩:=p_num2 st out op nm key cd bd hop ho hl t hs (f:=f) (a:=b) (by omega) this.2.1;refine ⟨g,?_,hg2⟩;show ((zaw_p2 (f:Int) t (b:Int) st key cd bd out op nm).bind _)=_;rw [hg];rfl
 ·rw [if_neg h3,if_neg h3];obtain ⟨g,hg,hg2⟩:=p_num2 st out op nm key cd bd hop ho hl t hs h1 h2;rw [hg];exact ⟨_,rfl,hg2⟩
include hop ho hl in
theorem p_num0 (t:BA) (hs:t.size≤3000000) {f a:Nat} (h1:f≤a) (h2:a≤t.size):∃g,zaw_p0 (f:Int) t (a:Int) st key cd bd out op nm=some g∧saysN out op nm key cd bd t g f (match zeroR t a with
  | .bad c b=>.bad c b
  | .ok b _=>match dotR t b with
   | .bad c b=>.bad c b
   | .ok b _=>powR t b):=by
 unfold zaw_p0 zeroR;rw [qEr,obS,qBt (p:=bAt t a=48) (by
  simp only [decide_eq_true_eq];rw [qEc (by decide)])]
 by_cases h3:bAt t a=48
 ·have ha:=qBm (t:=t) (a:=a) (by omega);rw [if_pos h3,if_pos h3,qAa (by unfold qAj; omega),show (a:Int)+1=((a+1:Nat):Int) by omega];obtain ⟨g,hg,hg2⟩:=p_num1 st out op nm key cd bd hop ho hl t hs (f:=f) (a:=a+1) (by omega) (by omega);rw [hg];exact ⟨_,rfl,hg2⟩
 ·rw [if_neg h3,if_neg h3,p_dig st out op nm key cd bd t hs,obS];cases h:digR t a with
  | bad c b=>exact ⟨_,rfl,rfl,rfl,rfl⟩
  | ok b x =>
   have:=digR_adv (by omega) h;obtain ⟨g,hg,hg2⟩:=p_num1 st out op nm key cd bd hop ho hl t hs (f:=f) (a:=b) (by omega) this.2.1;refine ⟨g,?_,hg2⟩;show ((zaw_p1 (f:Int) t (b:Int) st key cd bd out op nm).bind _)=_;rw [hg];rfl
def saysV (t:BA) (g:json_reader × Bool) (r:Rd (List Eng.Node)):Prop:=match r with
 | .bad c b=>g.1.code=c∧g.1.bad=(b:Int)∧g.2=false
 | .ok b l=>∃n,l=[n]∧g=(⟨t,(b:Int),stB op,layO op out key n,op,nm,⟨#[]⟩,cd,bd⟩,true)
include hop ho hl in
theorem p_num (t:BA) (hs:t.size≤3000000) {a:Nat} (ha:a<t.size):∃g,zaw_s ⟨t,(a:Int),st,out,op,nm,key,cd,bd⟩=some g∧saysV out op nm key cd bd t g (match numR t a with
  | .bad c b=>.bad c b
  | .ok b _=>.ok b [nd0 4 (t.extract a b) (wholeV (t.extract a b)).2 (wholeV (t.extract a b)).1 0]):=by
 have fin:∀(g:Bool × BA × Int × Int × BA × Int × Int × (List (MapC × Unit)) × (List Eng.Node)) (r:Rd Unit),saysN out op nm key cd bd t g a r→saysV out op nm key cd bd t ((⟨g.2.1,g.2.2.1,g.2.2.2.1,g.2.2.2.2.2.2.2.2,op,g.2.2.2.2.2.2.2.1,g.2.2.2.2.1,g.2.2.2.2.2.1,g.2.2.2.2.2.2.1⟩:json_reader),g.1) (match r with
  | .bad c b=>.bad c b
  | .ok b _=>.ok b [nd0 4 (t.extract a b) (wholeV (t.extract a b)).2 (wholeV (t.extract a b)).1 0]):=by
  intro g r h;cases r with
  | bad c b=>exact ⟨h.2.1,h.2.2,h.1⟩
  | ok b x =>
   have h:g=_:=h;rw [h];exact ⟨_,rfl,rfl⟩
 unfold zaw_s numR signS;rw [qEr,obS,qBt (p:=bAt t a=45) (by
  simp only [decide_eq_true_eq];rw [qEc (by decide)])]
 by_cases h3:bAt t a=45
 ·rw [if_pos h3,if_pos h3];dsimp only;rw [qAa (by unfold qAj; omega),show (a:Int)+1=((a+1:Nat):Int) by omega];obtain ⟨g,hg,hg2⟩:=p_num0 st out op nm key cd bd hop ho hl t hs (f:=a) (a:=a+1) (by omega) (by omega);rw [hg,obS];exact ⟨_,rfl,fin g _ hg2⟩
 ·rw [if_neg h3,if_neg h3];obtain ⟨g,hg,hg2⟩:=p_num0 st out op nm key cd bd hop ho hl t hs (f:=a) (a:=a) (by omega) (by omega);dsimp only;rw [hg,obS];exact ⟨_,rfl,fin g _ hg2⟩
omit hop ho hl in
theorem p_lit0 (t:BA) (hs:t.size≤3000000) (w:BA) (hw:w.size≤10) (hw0:∀i:Nat,i<w.size→0<bAt w i) (a:Nat):∀(j i:Nat),i+j=w.size→a+i≤t.size→∃e:Int,zas_p0 w (w.size:Int) (i:Int) t ((a+i:Nat):Int) st key cd bd out op nm=some (match litR t ((qBx w).drop i) (a+i) with
  | .bad c b=>.inl (false,t,e,st,key,c,(b:Int),nm)
  | .ok b _=>.inr (b:Int))
 | 0,i,h,ha=>by
  rw [List.drop_eq_nil_of_le (by simp only [qBx,List.length_map,Array.length_toList]; show w.size≤i; omega)];refine ⟨0,?_⟩;unfold zas_p0;refine qAn ?_;show qB3 w (w.size:Int) (i:Int) t ((a+i:Nat):Int) st key cd bd out op nm=_;unfold qB3;rw [deF (by omega),cnF];rfl
 | j+1,i,h,ha=>by
  have hb:=hw0 i (by omega);have e1:∀ {x},qB3 w (w.size:Int) (i:Int) t ((a+i:Nat):Int) st key cd bd out op nm=some (.inr x)→zas_p0 w (w.size:Int) (i:Int) t ((a+i:Nat):Int) st key cd bd out op nm=some x:=fun h=>qAn h
  have e2:∀ {i' a':Int},qB3 w (w.size:Int) (i:Int) t ((a+i:Nat):Int) st key cd bd out op nm=some (.inl (i',a'))→zas_p0 w (w.size:Int) (i:Int) t ((a+i:Nat):Int) st key cd bd out op nm=zas_p0 w (w.size:Int) i' t a' st key cd bd out op nm:=fun h=>qAv h
  rw [bytesL_cons (by omega)];unfold litR;have hst:qB3 w (w.size:Int) (i:Int) t ((a+i:Nat):Int) st key cd bd out op nm=some (if bAt t (a+i:Nat)=bAt w i then .inl (((i+1:Nat):Int),((a+(i+1):Nat):Int)) else .inr (.inl (false,t,((a+i:Nat):Int),st,key,31,((a+i:Nat):Int),nm))):=by
   unfold qB3;rw [deT (by omega),cnT,qAa (by omega),qEr,obS,qAa rfl];by_cases h2:bAt t (a+i:Nat)=bAt w i
   ·rw [deT ((qEc hb).2 h2),Bool.not_true,cnF,if_pos h2,qAa (by unfold qAj; omega),qAa (by unfold qAj; omega)];rfl
   ·rw [deF (fun h=>h2 ((qEc hb).1 h)),Bool.not_false,cnT,if_neg h2];rfl
  by_cases h2:bAt t (a+i:Nat)=bAt w i
  ·have hlt:=qBm (t:=t) (a:=a+i) (by omega);rw [if_pos h2] at hst ⊢;rw [e2 hst];exact p_lit0 t hs w hw hw0 a j (i+1) (by omega) (by omega)
  ·rw [if_neg h2] at hst ⊢;exact ⟨_,e1 hst⟩
include hop ho hl in
theorem p_lit (t:BA) (hs:t.size≤3000000) (w:BA) (hw:w.size≤10) (hw0:∀i:Nat,i<w.size→0<bAt w i) (a:Nat) (ha:a≤t.size) (k:Int):∃g,zas_s ⟨t,(a:Int),st,out,op,nm,key,cd,bd⟩ w k=some g∧saysV out op nm key cd bd t g (match litR t (qBx w) a with
  | .bad c b=>.bad c b
  | .ok b _=>.ok b [nd0 k ⟨#[]⟩ false 0 0]):=by
 obtain ⟨e,he⟩:=p_lit0 st out op nm key cd bd t hs w hw hw0 a w.size 0 (by omega) (by omega);rw [show ((0:Nat):Int)=0 from rfl,List.drop_zero,Nat.add_zero] at he;unfold zas_s;dsimp only;rw [he,obS];cases litR t (qBx w) a with
 | bad c b=>exact ⟨_,rfl,rfl,rfl,rfl⟩
 | ok b x =>
  simp only [Sum.elim_inr];rw [p_lay _ _ _ _ _ _ _ _ _ _ hop ho hl,obS,p_behind,obS];exact ⟨_,rfl,_,rfl,rfl⟩
include hop ho hl in
theorem p_scal (t:BA) (hs:t.size≤3000000) (a:Nat) (ha:a<t.size) (hn:¬(bAt t a=91∨bAt t a=123)):∃g,zbd_s ⟨t,(a:Int),st,out,op,nm,key,cd,bd⟩ (bAt t a)=some g∧saysV out op nm key cd bd t g (scalR t a):=by
 unfold zbd_s scalR;rw [qBt (p:=bAt t a=91∨bAt t a=123) (by simp),if_neg hn];have same:∀(g:json_reader × Bool) (r:Rd (List Eng.Node)),saysV out op nm key cd bd t g r→saysV out op nm key cd bd t (⟨g.1.text,g.1.at_,g.1.state,g.1.out,op,g.1.names,g.1.key,g.1.code,g.1.bad⟩,g.2) r:=by
  intro g r h;cases r with
  | bad c b=>exact h
  | ok b l =>
   obtain ⟨n,h1,h2⟩:=h;rw [h2];exact ⟨n,h1,rfl⟩
 by_cases h1:bAt t a=34
 ·rw [deT h1,cnT,if_pos h1];obtain ⟨g,hg,hg2⟩:=p_quo st out op nm key cd bd t hs a ha;rw [hg,obS];cases h:quoR t (t.size+1) (a+1) [] with
  | bad c b =>
   rw [h] at hg2;obtain ⟨e1,e2,e3⟩:=hg2;rw [e3,cnF];exact ⟨_,rfl,e1,e2,rfl⟩
  | ok b l =>
   rw [h] at hg2;have hg2:g=(⟨t,(b:Int),st,out,op,nm,key,cd,bd⟩,qBe l,true):=hg2;rw [hg2];dsimp only;rw [cnT,p_lay _ _ _ _ _ _ _ _ _ _ hop ho hl,obS,p_behind,obS];exact ⟨_,rfl,_,rfl,rfl⟩
 ·rw [deF h1,cnF,if_neg h1,qBt (p:=bAt t a=45∨(48≤bAt t a∧bAt t a≤57)) (by simp)];by_cases h2:bAt t a=45∨(48≤bAt t a∧bAt t a≤57)
  ·rw [if_pos h2,if_pos h2];obtain ⟨g,hg,hg2⟩:=p_num st out op nm key cd bd hop ho hl t hs ha;rw [hg,obS];exact ⟨_,rfl,same _ _ hg2⟩
  ·rw [if_neg h2,if_neg h2];by_cases h3:bAt t a=110
   ·rw [deT h3,cnT,if_pos h3];obtain ⟨g,hg,hg2⟩:=p_lit st out op nm key cd bd hop ho hl t hs ⟨#[110,117,108,108]⟩ (by decide) (by decide) a (by omega) 1;rw [hg,obS];exact ⟨_,rfl,same _ _ hg2⟩
   ·rw [deF h3,cnF,if_neg h3];by_cases h4:bAt t a=102
    ·rw [deT h4,cnT,if_pos h4];obtain ⟨g,hg,hg2⟩:=p_lit st out op nm key cd bd hop ho hl t hs ⟨#[102,97,108,115,101]⟩ (by decide) (by decide) a (by omega) 2;rw [hg,obS];exact ⟨_,rfl,same _ _ hg2⟩
    ·rw [deF h4,cnF,if_neg h4];by_cases h5:bAt t a=116
     ·rw [deT h5,cnT,if_pos h5];obtain ⟨g,hg,hg2⟩:=p_lit st out op nm key cd bd hop ho hl t hs ⟨#[116,114,117,101]⟩ (by decide) (by decide) a (by omega) 3;rw [hg,obS];exact ⟨_,rfl,same _ _ hg2⟩
     ·rw [deF h5,cnF,if_neg h5,p_odd,obS];exact ⟨_,rfl,rfl,rfl,rfl⟩
end Go.Proofs.YtnifdcmeffnpaaaDoor
namespace Go.Proofs.YtnifdcmeffnpaaaDoor
open Go.Eng
set_option linter.unusedVariables false
set_option linter.unusedSimpArgs false
def Adv (t:BA) (val:Nat→Rd (List Eng.Node)):Prop:=∀a b l,a≤t.size→val a=.ok b l→a<b∧b≤t.size∧l≠[]∧l.length≤b - a
theorem zeroR_adv {t:BA} {a b:Nat} {x:Unit} (ha:a≤t.size) (h:zeroR t a=.ok b x):a<b∧b≤t.size:=by
 unfold zeroR at h;split at h
 ·have:=qBm (t:=t) (a:=a) (by omega);cases h;omega
 ·have:=digR_adv ha h;omega
theorem dotR_adv {t:BA} {a b:Nat} {x:Unit} (ha:a≤t.size) (h:dotR t a=.ok b x):a≤b∧b≤t.size:=by
 unfold dotR at h;split at h
 ·have:=qBm (t:=t) (a:=a) (by omega);have:=digR_adv (by omega) h;omega
 ·cases h;omega
theorem powR_adv {t:BA} {a b:Nat} {x:Unit} (ha:a≤t.size) (h:powR t a=.ok b x):a≤b∧b≤t.size:=by
 unfold powR at h;split at h
 ·have:=qBm (t:=t) (a:=a) (by omega);split at h
  ·have:=qBm (t:=t) (a:=a+1) (by omega);have:=digR_adv (by omega) h;omega
  ·have:=digR_adv (by omega) h;omega
 ·cases h;omega
theorem numR_adv {t:BA} {a b:Nat} {x:Unit} (ha:a<t.size) (h:numR t a=.ok b x):a<b∧b≤t.size:=by
 unfold numR at h;have hs:a≤signS t a∧signS t a≤t.size:=by unfold signS; split <;> omega
 split at h
 ·cases h
 ·rename_i b1 x1 h1;have:=zeroR_adv hs.2 h1;split at h
  ·cases h
  ·rename_i b2 x2 h2;have:=dotR_adv this.2 h2;have:=powR_adv this.2 h;omega
theorem scalR_adv (t:BA):Adv t (scalR t):=by
 intro a b l ha h;unfold scalR at h;split at h
 ·have:=qBm (t:=t) (a:=a) (by omega);split at h
  ·cases h
  ·rename_i h1;have:=quoR_ok h1 (by simp);cases h;exact ⟨by omega,this.2.1,by simp,by simp; omega⟩
 ·split at h
  ·rename_i hc;have:=qBm (t:=t) (a:=a) (by omega);split at h
   ·cases h
   ·rename_i h1;have:=numR_adv this h1;cases h;exact ⟨this.1,this.2,by simp,by simp; omega⟩
  ·split at h
   ·split at h
    ·cases h
    ·rename_i h1;have:=litR_adv (by decide) h1;cases h;exact ⟨by rw [this.1]; simp,this.2 (by simp),by simp,by rw [this.1]; simp⟩
   ·split at h
    ·split at h
     ·cases h
     ·rename_i h1;have:=litR_adv (by decide) h1;cases h;exact ⟨by rw [this.1]; simp,this.2 (by simp),by simp,by rw [this.1]; simp⟩
    ·split at h
     ·split at h
      ·cases h
      ·rename_i h1;have:=litR_adv (by decide) h1;cases h;exact ⟨by rw [this.1]; simp,this.2 (by simp),by simp,by rw [this.1]; simp⟩
     ·cases h
theorem setKey_len (k:BA) (l:List Eng.Node):(qE5 k l).length=l.length:=by cases l <;> rfl
theorem setKey_nil {k:BA} {l:List Eng.Node} (h:l≠[]):qE5 k l≠[]:=by cases l <;> simp_all [qE5]
theorem itemR_adv {t:BA} {val:Nat→Rd (List Eng.Node)} (hv:Adv t val) {obj:Bool} {names:List BA} {a b:Nat} {x:BA × List Eng.Node} (ha:a≤t.size) (h:qFu t val obj names a=.ok b x) :
  a<b∧b≤t.size∧x.2≠[]∧x.2.length≤b - a:=by
 unfold qFu at h;split at h
 ·split at h
  ·have:=qBm (t:=t) (a:=a) (by omega);split at h
   ·cases h
   ·rename_i b1 l h1;have h2:=quoR_ok h1 (by simp);split at h
    ·cases h
    ·split at h
     ·rename_i hc;have h3:=qBm (t:=t) (a:=qA0 t b1) (by omega);have h4:=qCi t b1;have h5:=qCi t (qA0 t b1+1);have h6:=qBp t (qA0 t b1+1) (by omega);split at h
      ·cases h
      ·rename_i h7;have h8:=hv _ _ _ h6 h7;cases h;exact ⟨by omega,h8.2.1,setKey_nil h8.2.2.1,by simp only [setKey_len]; omega⟩
     ·cases h
  ·cases h
 ·split at h
  ·cases h
  ·rename_i h7;have h8:=hv _ _ _ ha h7;cases h;exact h8
theorem lastC_pos (obj:Bool):0≤lastC obj:=by cases obj <;> decide
theorem rowR_adv {t:BA} {val:Nat→Rd (List Eng.Node)} (hv:Adv t val) {obj:Bool}:∀ {m a k:Nat} {acc:List Eng.Node} {names:List BA} {b:Nat} {x:Nat × List Eng.Node},a≤t.size→rowR t val obj m a k acc names=.ok b x →
  a<b∧b≤t.size∧x.2.length≤acc.length+(b - a)∧k<x.1∧x.1 - k≤b - a
 | 0,a,k,acc,names,b,x,ha,h=>by cases h
 | m+1,a,k,acc,names,b,x,ha,h=>by
  unfold rowR at h;split at h
  ·cases h
  ·rename_i b1 x1 h1;have h2:=itemR_adv hv ha h1;have h4:=qCi t b1;have h3:=lastC_pos obj;split at h
   ·have h5:=qBm (t:=t) (a:=qA0 t b1) (by omega);cases h;exact ⟨by omega,by omega,by simp only [List.length_append]; omega,by simp,by simp only; omega⟩
   ·split at h
    ·have h5:=qBm (t:=t) (a:=qA0 t b1) (by omega);have h6:=qCi t (qA0 t b1+1);have h7:=qBp t (qA0 t b1+1) (by omega);have h8:=rowR_adv hv h7 h;rw [List.length_append] at h8;exact ⟨by omega,h8.2.1,by omega,by omega,by omega⟩
    ·cases h
theorem boxR_adv {t:BA} {val:Nat→Rd (List Eng.Node)} (hv:Adv t val) {obj:Bool} {a b:Nat} {l:List Eng.Node} (ha:a<t.size) (h:boxR t val obj a=.ok b l):a<b∧b≤t.size∧l≠[]∧l.length≤b - a:=by
 unfold boxR at h;have h1:=qCi t (a+1);have h2:=qBp t (a+1) (by omega);have h3:=lastC_pos obj;split at h
 ·have h5:=qBm (t:=t) (a:=qA0 t (a+1)) (by omega);cases h;exact ⟨by omega,by omega,by simp,by simp; omega⟩
 ·split at h
  ·cases h
  ·rename_i h4;have h5:=rowR_adv hv h2 h4;cases h;exact ⟨by omega,h5.2.1,by simp,by
    have:=h5.2.2.1;simp only [List.length_nil,Nat.zero_add] at this;rw [List.length_cons];omega⟩
theorem valR_adv (t:BA):∀d,Adv t (valR t d)
 | 0=>fun a b l ha h=>by
  unfold valR at h;split at h
  ·cases h
  ·exact scalR_adv t a b l ha h
 | d+1=>fun a b l ha h=>by
  unfold valR at h;split at h
  ·exact boxR_adv (valR_adv t d) (qBm (t:=t) (a:=a) (by omega)) h
  ·exact scalR_adv t a b l ha h
section
end
def tellR (r:Rd (List Eng.Node)):(List Eng.Node) × Int × Int:=match r with
 | .bad c b=>([],c,(b:Int))
 | .ok _ l=>(l,0,0)
noncomputable def parseR (t:BA):(List Eng.Node) × Int × Int:=if 262144<t.size then ([],10,0) else tellR (readR t)
end Go.Proofs.YtnifdcmeffnpaaaDoor
