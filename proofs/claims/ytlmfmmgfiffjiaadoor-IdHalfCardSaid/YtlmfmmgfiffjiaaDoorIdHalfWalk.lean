/-
  Texts of a claim.
-/
import Derived.Below
import Derived.Carry
import Derived.Lib.LaidU8
import Derived.Lib.LaidTab
import Derived.Shelf.Lay
import Derived.Ground.NamesProg
import Derived.Test.YtlmfmmgfiffjiaaDoorPLexS
import Derived.Test.YtlmfmmgfiffjiaaDoorEngPan
import Derived.Test.YtlmfmmgfiffjiaaDoorPIdCheck
import Derived.Test.YtlmfmmgfiffjiaaDoorEngO
import Derived.Test.YtlmfmmgfiffjiaaDoorProg
import Derived.Test.YtlmfmmgfiffjiaaDoorPShaped
import Derived.Test.YtlmfmmgfiffjiaaDoorJP
import Derived.Test.YtlmfmmgfiffjiaaDoorPSha
import Derived.Test.YtlmfmmgfiffjiaaDoorPHalf
import Derived.Test.YtlmfmmgfiffjiaaDoorEngN
import Derived.Test.YtlmfmmgfiffjiaaDoorRows
set_option linter.unusedSimpArgs false
set_option linter.unusedVariables false
namespace Go.Proofs.YtlmfmmgfiffjiaaDoor
open Go.Eng
def Adv (t:BA) (val:Nat→Rd (List Eng.Node)):Prop:=∀a b l,a≤t.size→val a=.ok b l→a<b∧b≤t.size∧l≠[]∧l.length≤b - a
theorem zeroR_adv {t:BA} {a b:Nat} {x:Unit} (ha:a≤t.size) (h:zeroR t a=.ok b x):a<b∧b≤t.size:=by
 unfold zeroR at h;split at h
 ·have:=qB2 (t:=t) (a:=a) (by omega);cases h;omega
 ·have:=digR_adv ha h;omega
theorem dotR_adv {t:BA} {a b:Nat} {x:Unit} (ha:a≤t.size) (h:dotR t a=.ok b x):a≤b∧b≤t.size:=by
 unfold dotR at h;split at h
 ·have:=qB2 (t:=t) (a:=a) (by omega);have:=digR_adv (by omega) h;omega
 ·cases h;omega
theorem powR_adv {t:BA} {a b:Nat} {x:Unit} (ha:a≤t.size) (h:powR t a=.ok b x):a≤b∧b≤t.size:=by
 unfold powR at h;split at h
 ·have:=qB2 (t:=t) (a:=a) (by omega);split at h
  ·have:=qB2 (t:=t) (a:=a+1) (by omega);have:=digR_adv (by omega) h;omega
  ·have:=digR_adv (by omega) h;omega
 ·cases h;omega
theorem numR_adv {t:BA} {a b:Nat} {x:Unit} (ha:a<t.size) (h:numR t a=.ok b x):a<b∧b≤t.size:=by
 unfold numR at h;have hs:a≤signS t a∧signS t a≤t.size:=by unfold signS; split <;> omega
 split at h
 ·cases h
 ·rename_i b1 x1 h1;have:=zeroR_adv hs.2 h1;split at h
  ·cases h
  ·rename_i b2 x2 h2;have:=dotR_adv this.2 h2;have:=powR_adv this.2 h;omega
theorem scalR_adv (t:BA):Adv t (scalR t):=by
 intro a b l ha h;unfold scalR at h;split at h
 ·have:=qB2 (t:=t) (a:=a) (by omega);split at h
  ·cases h
  ·rename_i h1;have:=quoR_ok h1 (by simp);cases h;exact ⟨by omega,this.2.1,by simp,by simp; omega⟩
 ·split at h
  ·rename_i hc;have:=qB2 (t:=t) (a:=a) (by omega);split at h
   ·cases h
   ·rename_i h1;have:=numR_adv this h1;cases h;exact ⟨this.1,this.2,by simp,by simp; omega⟩
  ·split at h
   ·split at h
    ·cases h
    ·rename_i h1;have:=litR_adv (by decide) h1;cases h;exact ⟨by rw [this.1]; simp,this.2 (by simp),by simp,by rw [this.1]; simp⟩
   ·split at h
    ·split at h
     ·cases h
     ·rename_i h1;have:=litR_adv (by decide) h1;cases h;exact ⟨by rw [this.1]; simp,this.2 (by simp),by simp,by rw [this.1]; simp⟩
    ·split at h
     ·split at h
      ·cases h
      ·rename_i h1;have:=litR_adv (by decide) h1;cases h;exact ⟨by rw [this.1]; simp,this.2 (by simp),by simp,by rw [this.1]; simp⟩
     ·cases h
theorem setKey_len (k:BA) (l:List Eng.Node):(setKey k l).length=l.length:=by cases l <;> rfl
theorem setKey_nil {k:BA} {l:List Eng.Node} (h:l≠[]):setKey k l≠[]:=by cases l <;> simp_all [setKey]
theorem itemR_adv {t:BA} {val:Nat→Rd (List Eng.Node)} (hv:Adv t val) {obj:Bool} {names:List BA} {a b:Nat} {x:BA × List Eng.Node} (ha:a≤t.size) (h:itemR t val obj names a=.ok b x) :
  a<b∧b≤t.size∧x.2≠[]∧x.2.length≤b - a:=by
 unfold itemR at h;split at h
 ·split at h
  ·have:=qB2 (t:=t) (a:=a) (by omega);split at h
   ·cases h
   ·rename_i b1 l h1;have h2:=quoR_ok h1 (by simp);split at h
    ·cases h
    ·split at h
     ·rename_i hc;have h3:=qB2 (t:=t) (a:=qA8 t b1) (by omega);have h4:=qDg t b1;have h5:=qDg t (qA8 t b1+1);have h6:=qD4 t (qA8 t b1+1) (by omega);split at h
      ·cases h
      ·rename_i h7;have h8:=hv _ _ _ h6 h7;cases h;exact ⟨by omega,h8.2.1,setKey_nil h8.2.2.1,by simp only [setKey_len]; omega⟩
     ·cases h
  ·cases h
 ·split at h
  ·cases h
  ·rename_i h7;have h8:=hv _ _ _ ha h7;cases h;exact h8
theorem lastC_pos (obj:Bool):0≤lastC obj:=by cases obj <;> decide
theorem rowR_adv {t:BA} {val:Nat→Rd (List Eng.Node)} (hv:Adv t val) {obj:Bool}:∀ {m a k:Nat} {acc:List Eng.Node} {names:List BA} {b:Nat} {x:Nat × List Eng.Node},a≤t.size→rowR t val obj m a k acc names=.ok b x →
  a<b∧b≤t.size∧x.2.length≤acc.length+(b - a)∧k<x.1∧x.1 - k≤b - a
 | 0,a,k,acc,names,b,x,ha,h=>by cases h
 | m+1,a,k,acc,names,b,x,ha,h=>by
  unfold rowR at h;split at h
  ·cases h
  ·rename_i b1 x1 h1;have h2:=itemR_adv hv ha h1;have h4:=qDg t b1;have h3:=lastC_pos obj;split at h
   ·have h5:=qB2 (t:=t) (a:=qA8 t b1) (by omega);cases h;exact ⟨by omega,by omega,by simp only [List.length_append]; omega,by simp,by simp only; omega⟩
   ·split at h
    ·have h5:=qB2 (t:=t) (a:=qA8 t b1) (by omega);have h6:=qDg t (qA8 t b1+1);have h7:=qD4 t (qA8 t b1+1) (by omega);have h8:=rowR_adv hv h7 h;rw [List.length_append] at h8;exact ⟨by omega,h8.2.1,by omega,by omega,by omega⟩
    ·cases h
theorem boxR_adv {t:BA} {val:Nat→Rd (List Eng.Node)} (hv:Adv t val) {obj:Bool} {a b:Nat} {l:List Eng.Node} (ha:a<t.size) (h:boxR t val obj a=.ok b l):a<b∧b≤t.size∧l≠[]∧l.length≤b - a:=by
 unfold boxR at h;have h1:=qDg t (a+1);have h2:=qD4 t (a+1) (by omega);have h3:=lastC_pos obj;split at h
 ·have h5:=qB2 (t:=t) (a:=qA8 t (a+1)) (by omega);cases h;exact ⟨by omega,by omega,by simp,by simp; omega⟩
 ·split at h
  ·cases h
  ·rename_i h4;have h5:=rowR_adv hv h2 h4;cases h;exact ⟨by omega,h5.2.1,by simp,by
    have:=h5.2.2.1;simp only [List.length_nil,Nat.zero_add] at this;rw [List.length_cons];omega⟩
theorem valR_adv (t:BA):∀d,Adv t (valR t d)
 | 0=>fun a b l ha h=>by
  unfold valR at h;split at h
  ·cases h
  ·exact scalR_adv t a b l ha h
 | d+1=>fun a b l ha h=>by
  unfold valR at h;split at h
  ·exact boxR_adv (valR_adv t d) (qB2 (t:=t) (a:=a) (by omega)) h
  ·exact scalR_adv t a b l ha h
def GotIs (g:qIk) (r:Rd (List Eng.Node)):Prop:=match r with
 | .bad c b=>g.code=c∧g.bad=(b:Int)∧c≠0
 | .ok b l=>g.at_=(b:Int)∧g.l=l∧g.code=0
section
variable {t:BA} (hs:t.size≤1000000) {val:Nat→Rd (List Eng.Node)} (hv:Adv t val) {o:Int} {V:Nat→qIk} (hV:∀a,a≤t.size→GotIs (V a) (val a))
include hs hv hV
end
def tellR (r:Rd (List Eng.Node)):(List Eng.Node) × Int × Int:=match r with
 | .bad c b=>([],c,(b:Int))
 | .ok _ l=>(l,0,0)
noncomputable def parseR (t:BA):(List Eng.Node) × Int × Int:=if 262144<t.size then ([],10,0) else tellR (readR t)
end Go.Proofs.YtlmfmmgfiffjiaaDoor
namespace Go.Proofs.YtlmfmmgfiffjiaaDoor
open Go.Eng
noncomputable def toldF (t:BA) (o:(Int × Int × (List Eng.Node)) ⊕ (BA × Int × Int × BA × Int × Int × (List Eng.Node) × (List Int) × (List (MapC × Unit)))):Option ((List Eng.Node) × Int × Int) :=
 (Sum.elim (fun (o31_0:Int × Int × (List Eng.Node)) =>
   some (o31_0.2.2,o31_0.1,o31_0.2.1)) (fun (o31_1:BA × Int × Int × BA × Int × Int × (List Eng.Node) × (List Int) × (List (MapC × Unit))) =>
   bif (!decide (o31_1.2.2.1=(6:Int))) then (
    some ([],(31:Int),(t.size:Int)))
   else (
    some (o31_1.2.2.2.2.2.2.1,(0:Int),(0:Int))))) o
noncomputable def told (t:BA) (S:json_reader):Option ((List Eng.Node) × Int × Int) :=
 (zbf_p0 t S.text S.at_ S.state S.key S.code S.bad S.out S.open_ S.names).bind fun o=>toldF t o
variable {t:BA} (hs:t.size≤1000000) {st:Int} {out:List Eng.Node} {op:List Int} {nm:List (MapC × Unit)} {key:BA} {cd bd:Int}
theorem told_end {a:Nat} (ha:t.size≤a):told t ⟨t,(a:Int),st,out,op,nm,key,cd,bd⟩=some (if st=6 then (out,0,0) else ([],31,(t.size:Int))):=by
 unfold told zbf_p0;rw [qAj (o:=.inr (t,(a:Int),st,key,cd,bd,out,op,nm)) (by
  show qCa t t (a:Int) st key cd bd out op nm=_;unfold qCa;rw [deF (by omega),cnF])]
 rw [obS];show (bif (!decide (st=(6:Int))) then _ else _)=_;by_cases h:st=6
 ·rw [deT h,if_pos h];rfl
 ·rw [deF h,if_neg h];rfl
theorem qF5 {a:Nat} (ha:a<t.size) {g:json_reader × Bool} (h:zby_s ⟨t,(a:Int),st,out,op,nm,key,cd,bd⟩=some g) (hg:g.2=false):told t ⟨t,(a:Int),st,out,op,nm,key,cd,bd⟩=some ([],g.1.code,g.1.bad):=by
 unfold told zbf_p0;rw [qAj (o:=.inl (g.1.code,g.1.bad,[])) (by
  show qCa t t (a:Int) st key cd bd out op nm=_;unfold qCa;rw [deT (by omega),cnT,h,obS,hg];rfl)]
 rfl
include hs in
theorem told_on {a b:Nat} (ha:a<t.size) {st':Int} {out':List Eng.Node} {op':List Int} {nm':List (MapC × Unit)} {key':BA} {cd' bd':Int}
  (h:zby_s ⟨t,(a:Int),st,out,op,nm,key,cd,bd⟩=some (⟨t,(b:Int),st',out',op',nm',key',cd',bd'⟩,true)) :
  told t ⟨t,(a:Int),st,out,op,nm,key,cd,bd⟩=told t ⟨t,(qA8 t b:Int),st',out',op',nm',key',cd',bd'⟩:=by
 unfold told zbf_p0;rw [qAu (y:=(t,(qA8 t b:Int),st',key',cd',bd',out',op',nm')) (by
  show qCa t t (a:Int) st key cd bd out op nm=_;unfold qCa;rw [deT (by omega),cnT,h,obS];show (zbj_s _).bind _=_;rw [p_blank st' out' op' nm' key' cd' bd' t (by omega),obS])]
theorem nextC_in {a:Nat} (ha:a<t.size):nextC t a=bAt t a:=by unfold nextC; rw [if_pos ha]
theorem st_val {a:Nat} (ha:a<t.size) (hst:st=0∨(st=1∧bAt t a≠93)) {g:json_reader × Bool} (h:zca_s ⟨t,(a:Int),st,out,op,nm,key,cd,bd⟩ (bAt t a)=some g) :
  zby_s ⟨t,(a:Int),st,out,op,nm,key,cd,bd⟩=some g:=by
 unfold zby_s;rw [qE6,obS,nextC_in ha];dsimp only;rcases hst with rfl | ⟨rfl,h93⟩
 ·rw [deF (by decide),cnF,deT rfl,cnT,h];rfl
 ·rw [deT rfl,cnT,deF h93,cnF,h];rfl
theorem p_begin_deep {a:Nat} (c:Int) (ho:op.length=32):zbh_s ⟨t,(a:Int),st,out,op,nm,key,cd,bd⟩ c=some (⟨t,(a:Int),st,out,op,nm,key,11,(a:Int)⟩,false):=by
 unfold zbh_s;rw [deT (show (op.length:Int)=32 by omega),cnT,p_fail];rfl
theorem p_begin {a:Nat} (ha:a≤3000000) {c:Int} (obj:Bool) (hc:decide (c=123)=obj) (hop:TopOK op out) (ho:op.length<32) (hnm:nm.length≤100) (hl:out.length≤3000000) :
  zbh_s ⟨t,(a:Int),st,out,op,nm,key,cd,bd⟩ c=some (⟨t,((a+1:Nat):Int),bif obj then 3 else 1,layO op out key (nd0 (kindC obj) ⟨#[]⟩ false 0 0),op++[(out.length:Int)],nm++[((bif obj then some [] else none:MapC),())],⟨#[]⟩,cd,bd⟩,true):=by
 have lay:∀(st:Int) (k:Int) (names:MapC),zbh_p0 t ((a+1:Nat):Int) st key cd bd out op nm k (⟨#[]⟩:BA) (⟨#[]⟩:BA) false (0:Int) (0:Int) names =
   some (true,t,((a+1:Nat):Int),st,⟨#[]⟩,cd,bd,layO op out key (nd0 k ⟨#[]⟩ false 0 0),op++[(out.length:Int)],nm++[(names,())]):=by
  intro st k names;unfold zbh_p0;rw [p_lay st out op nm key cd bd t _ _ hop (by omega) hl,obS];dsimp only;have e:((layO op out key (⟨k,⟨#[]⟩,⟨#[]⟩,false,0,0⟩:Eng.Node)).length:Int) - 1=(out.length:Int):=by rw [layO_len]; omega
  rw [e,qAb (by unfold qAc; omega),qAb (by simp only [List.length_cons,List.length_nil]; omega),qAb (by simp only [List.length_cons,List.length_nil]; omega)];rfl
 unfold zbh_s;dsimp only;rw [deF (show ¬(op.length:Int)=32 by omega),cnF,qAb (by unfold qAc; omega),show (a:Int)+1=((a+1:Nat):Int) by omega,hc];cases obj with
 | true =>
  rw [cnT,lay];rfl
 | false =>
  rw [cnF,lay];rfl
theorem p_end {a:Nat} (ha:a≤3000000) (x:Int) (m:MapC × Unit) (ho:op.length≤100) (hnm:nm.length≤100) :
  zbl_s ⟨t,(a:Int),st,out,op++[x],nm++[m],key,cd,bd⟩=some (⟨t,((a+1:Nat):Int),stB op,out,op,nm,key,cd,bd⟩,true):=by
 unfold zbl_s;dsimp only;have e1:((op++[x]).length:Int) - 1=(op.length:Int):=by rw [List.length_append,List.length_singleton]; omega
 have e2:((nm++[m]).length:Int) - 1=(nm.length:Int):=by rw [List.length_append,List.length_singleton]; omega
 rw [e1,e2,qAb (by unfold qAc; omega),qAb (by unfold qAc; omega),qAb (by unfold qAc; omega),qAb (by rw [List.length_append]; omega),qAb (by rw [List.length_append]; omega),Int.toNat_natCast,Int.toNat_natCast,List.take_left' rfl,List.take_left' rfl,p_behind,obS];rfl
theorem st_end {a:Nat} (ha:a<t.size) (hs:t.size≤1000000) (obj:Bool) (hc:bAt t a=lastC obj) (x:Int) (m:MapC × Unit) (ho:op.length≤100) (hnm:nm.length≤100) :
  zby_s ⟨t,(a:Int),bif obj then 3 else 1,out,op++[x],nm++[m],key,cd,bd⟩=some (⟨t,((a+1:Nat):Int),stB op,out,op,nm,key,cd,bd⟩,true):=by
 unfold zby_s;rw [qE6,obS,nextC_in ha];dsimp only;cases obj with
 | true =>
  have hc:bAt t a=125:=hc;rw [cnT,deF (by decide),cnF,deF (by decide),cnF,deT rfl,cnT,deT hc,cnT,p_end (by omega) x m ho hnm];rfl
 | false =>
  have hc:bAt t a=93:=hc;rw [cnF,deT rfl,cnT,deT hc,cnT,p_end (by omega) x m ho hnm];rfl
theorem st_more {a:Nat} (ha:a<t.size) (hs:t.size≤1000000) (obj:Bool) {p:Nat} (m:MapC × Unit) (ho:op.length≤100) (hnm:nm.length≤100) (hp:p<out.length) (hk:(out.getD p (ET.dft .node)).kind=kindC obj) :
  zby_s ⟨t,(a:Int),5,out,op++[(p:Int)],nm++[m],key,cd,bd⟩ =
   if bAt t a=lastC obj then some (⟨t,((a+1:Nat):Int),stB op,out,op,nm,key,cd,bd⟩,true)
   else if bAt t a=44 then some (⟨t,((a+1:Nat):Int),bif obj then 2 else 0,out,op++[(p:Int)],nm++[m],key,cd,bd⟩,true)
   else some (⟨t,(a:Int),5,out,op++[(p:Int)],nm++[m],key,31,(a:Int)⟩,false):=by
 unfold zby_s;rw [qE6,obS,nextC_in ha];dsimp only;rw [deF (by decide),cnF,deF (by decide),cnF,deF (by decide),cnF,deF (by decide),cnF,deF (by decide),cnF,deT rfl,cnT];unfold zbq_s;dsimp only;have hlen:(op++[(p:Int)]).length=op.length+1:=by simp
 rw [snocI_toNat,snocI_getD,Int.toNat_natCast,hk];rw [qAb (by rw [hlen]; unfold qAc; omega),qAb (by rw [hlen]; omega),qAb (by rw [hlen]; omega),qAb (by omega),qAb hp,qAb hp];cases obj with
 | true =>
  rw [show lastC true=125 from rfl,show decide (kindC true=7)=true from rfl,Bool.and_true,Bool.and_true,Bool.not_true,Bool.and_false,Bool.or_false];by_cases h1:bAt t a=125
  ·rw [if_pos h1,deF (by omega),cnF,cnF,deT h1,cnT,p_end (by omega) _ m ho hnm];rfl
  ·rw [if_neg h1];by_cases h2:bAt t a=44
   ·rw [if_pos h2,deT h2,cnT,qAb (by unfold qAc; omega),show (a:Int)+1=((a+1:Nat):Int) by omega];rfl
   ·rw [if_neg h2,deF h2,cnF,cnF,deF h1,cnF,p_odd];rfl
 | false =>
  rw [show lastC false=93 from rfl,show decide (kindC false=7)=false from rfl,Bool.and_false,Bool.and_false,Bool.not_false,Bool.and_true,Bool.false_or,cnF];by_cases h1:bAt t a=93
  ·rw [if_pos h1,deF (by omega),cnF,deT h1,cnT,p_end (by omega) _ m ho hnm];rfl
  ·rw [if_neg h1];by_cases h2:bAt t a=44
   ·rw [if_pos h2,deT h2,cnT,qAb (by unfold qAc; omega),show (a:Int)+1=((a+1:Nat):Int) by omega];rfl
   ·rw [if_neg h2,deF h2,cnF,deF h1,cnF,p_odd];rfl
theorem st_name {a:Nat} (ha:a<t.size) (hst:st=2∨(st=3∧bAt t a≠125)) {g:json_reader × Bool} (h:bAt t a=34→zbr_s ⟨t,(a:Int),st,out,op,nm,key,cd,bd⟩=some g) (hg:g.1.out=out∧g.1.open_=op) :
  zby_s ⟨t,(a:Int),st,out,op,nm,key,cd,bd⟩=if bAt t a=34 then some g else some (⟨t,(a:Int),st,out,op,nm,key,31,(a:Int)⟩,false):=by
 have hp0:zby_p0 (bAt t a) t (a:Int) st key cd bd out op nm=if bAt t a=34 then some (g.2,g.1.text,g.1.at_,g.1.state,g.1.key,g.1.code,g.1.bad,g.1.names) else some (false,t,(a:Int),st,key,31,(a:Int),nm):=by
  unfold zby_p0;by_cases h1:bAt t a=34
  ·rw [if_pos h1,deT h1,Bool.not_true,cnF,h h1];rfl
  ·rw [if_neg h1,deF h1,Bool.not_false,cnT,p_odd];rfl
 have fin:((zby_p0 (bAt t a) t (a:Int) st key cd bd out op nm).bind fun o16=>some ((⟨o16.2.1,o16.2.2.1,o16.2.2.2.1,out,op,o16.2.2.2.2.2.2.2,o16.2.2.2.2.1,o16.2.2.2.2.2.1,o16.2.2.2.2.2.2.1⟩:json_reader),o16.1))=if bAt t a=34 then some g else some (⟨t,(a:Int),st,out,op,nm,key,31,(a:Int)⟩,false):=by
  rw [hp0];by_cases h1:bAt t a=34
  ·rw [if_pos h1,if_pos h1,obS];obtain ⟨r,b⟩:=g;obtain ⟨e1,e2⟩:=hg;dsimp only at e1 e2 ⊢;rw [←e1,←e2]
  ·rw [if_neg h1,if_neg h1];rfl
 unfold zby_s;rw [qE6,obS,nextC_in ha];dsimp only;rcases hst with rfl | ⟨rfl,h2⟩
 ·rw [deF (by decide),cnF,deF (by decide),cnF,deF (by decide),cnF,deT rfl,cnT];exact fin
 ·rw [deF (by decide),cnF,deF (by decide),cnF,deT rfl,cnT,deF h2,cnF];exact fin
theorem st_colon {a:Nat} (ha:a<t.size) (hs:t.size≤1000000):zby_s ⟨t,(a:Int),4,out,op,nm,key,cd,bd⟩ =
  if bAt t a=58 then some (⟨t,((a+1:Nat):Int),0,out,op,nm,key,cd,bd⟩,true) else some (⟨t,(a:Int),4,out,op,nm,key,31,(a:Int)⟩,false):=by
 unfold zby_s;rw [qE6,obS,nextC_in ha];dsimp only;rw [deF (by decide),cnF,deF (by decide),cnF,deF (by decide),cnF,deF (by decide),cnF,deT rfl,cnT];by_cases h:bAt t a=58
 ·rw [if_pos h,deT h,Bool.not_true,cnF,qAb (by unfold qAc; omega),show (a:Int)+1=((a+1:Nat):Int) by omega]
 ·rw [if_neg h,deF h,Bool.not_false,cnT,p_odd];rfl
theorem st_done {a:Nat} (ha:a<t.size):zby_s ⟨t,(a:Int),6,out,op,nm,key,cd,bd⟩=some (⟨t,(a:Int),6,out,op,nm,key,31,(a:Int)⟩,false):=by
 unfold zby_s;rw [qE6,obS];dsimp only;rw [deF (by decide),cnF,deF (by decide),cnF,deF (by decide),cnF,deF (by decide),cnF,deF (by decide),cnF,deF (by decide),cnF,p_odd];rfl
theorem snocM_getD (nm:List (MapC × Unit)) (m d:MapC × Unit):(nm++[m]).getD nm.length d=m:=by simp [List.getD_eq_getElem?_getD]
theorem snocM_set (nm:List (MapC × Unit)) (m d:MapC × Unit):(nm++[m]).set nm.length d=nm++[d]:=by
 rw [List.set_append_right _ _ (Nat.le_refl _),Nat.sub_self];rfl
theorem p_name {a:Nat} (ha:a<t.size) (hs:t.size≤1000000) (nmap:MapC) (hnm:nm.length≤100) {names:List BA} (hR:NmR true nmap names) :
  ∃g,zbr_s ⟨t,(a:Int),st,out,op,nm++[(nmap,())],key,cd,bd⟩=some g∧g.1.out=out∧g.1.open_=op∧(match quoR t (t.size+1) (a+1) [] with
   | .bad c b=>g.1.code=c∧g.1.bad=(b:Int)∧g.2=false
   | .ok b l=>if qAp l∈names then g.1.code=34∧g.1.bad=(a:Int)∧g.2=false
    else g=(⟨t,(b:Int),4,out,op,nm++[(mput nmap (qAp l) 1,())],qAp l,cd,bd⟩,true)):=by
 unfold zbr_s;obtain ⟨g,h1,h2⟩:=p_quo st out op (nm++[(nmap,())]) key cd bd t (by omega) a ha;rw [h1,obS];cases h:quoR t (t.size+1) (a+1) [] with
 | bad c b =>
  rw [h] at h2;obtain ⟨e1,e2,e3⟩:=h2;rw [e3,Bool.not_false,cnT];exact ⟨_,rfl,rfl,rfl,e1,e2,rfl⟩
 | ok b l =>
  rw [h] at h2;have h2:g=(⟨t,(b:Int),st,out,op,nm++[(nmap,())],key,cd,bd⟩,qAp l,true):=h2;rw [h2];dsimp only;have hlen:(nm++[(nmap,())]).length=nm.length+1:=by simp
  have e:Int.toNat (((nm++[(nmap,())]).length:Int) - 1)=nm.length:=by rw [hlen]; omega
  rw [Bool.not_true,cnF,e,snocM_getD,snocM_set];rw [qAb (by rw [hlen]; unfold qAc; omega),qAb (by rw [hlen]; omega),qAb (by rw [hlen]; omega),qAb (by rw [hlen]; omega)];by_cases hm:qAp l∈names
  ·rw [deT ((hR.mem _ rfl).2 hm),cnT,p_fail];exact ⟨_,rfl,rfl,rfl,by rw [if_pos hm]; exact ⟨rfl,rfl,rfl⟩⟩
  ·rw [deF (fun h=>hm ((hR.mem _ rfl).1 h)),cnF,qAb (by rw [hlen]; omega),qAb hR.some_];exact ⟨_,rfl,rfl,rfl,by rw [if_neg hm]⟩
theorem scalR_key {a b:Nat} {l:List Eng.Node} (h:scalR t a=.ok b l):setKey ⟨#[]⟩ l=l:=by
 unfold scalR at h;repeat' split at h
 all_goals first | (cases h; rfl) | cases h
theorem valR_key:∀ {d a b:Nat} {l:List Eng.Node},valR t d a=.ok b l→setKey ⟨#[]⟩ l=l
 | 0,a,b,l,h=>by
  unfold valR at h;split at h
  ·cases h
  ·exact scalR_key h
 | d+1,a,b,l,h=>by
  unfold valR at h;split at h
  ·unfold boxR at h;split at h
   ·cases h; rfl
   ·split at h
    ·cases h
    ·cases h; rfl
  ·exact scalR_key h
def ValSim (t:BA) (d:Nat):Prop:=∀(a:Nat) (st:Int) (out:List Eng.Node) (op:List Int) (nm:List (MapC × Unit)) (key:BA) (cd bd:Int),a≤t.size→(st=0∨(st=1∧bAt t a≠93))→op.length+d=32→nm.length=op.length→TopOK op out→out.length≤a →
 match valR t d a with
 | .bad c b=>told t ⟨t,(a:Int),st,out,op,nm,key,cd,bd⟩=some ([],c,(b:Int))
 | .ok b l=>told t ⟨t,(a:Int),st,out,op,nm,key,cd,bd⟩=told t ⟨t,(qA8 t b:Int),stB op,upO op out++setKey key l,op,nm,⟨#[]⟩,cd,bd⟩
include hs in
theorem scal_sim {a:Nat} (ha:a≤t.size) (hst:st=0∨(st=1∧bAt t a≠93)) (ho:op.length≤32) (hop:TopOK op out) (hl:out.length≤a) (hn:¬(bAt t a=91∨bAt t a=123)) :
  match scalR t a with
  | .bad c b=>told t ⟨t,(a:Int),st,out,op,nm,key,cd,bd⟩=some ([],c,(b:Int))
  | .ok b l=>told t ⟨t,(a:Int),st,out,op,nm,key,cd,bd⟩=told t ⟨t,(qA8 t b:Int),stB op,upO op out++setKey key l,op,nm,⟨#[]⟩,cd,bd⟩:=by
 by_cases hlt:a<t.size
 ·obtain ⟨g,hg,hg2⟩:=p_scal st out op nm key cd bd hop (by omega) (by omega) t (by omega) a hlt hn;have hstep:=st_val hlt hst hg;cases h:scalR t a with
  | bad c b =>
   rw [h] at hg2;obtain ⟨e1,e2,e3⟩:=hg2;show told t _=_;rw [qF5 hlt hstep e3,e1,e2]
  | ok b l =>
   rw [h] at hg2;obtain ⟨n,rfl,hg2⟩:=hg2;rw [hg2] at hstep;exact told_on hs hlt hstep
 ·have e:bAt t a = -1:=qB6 (by omega);have e2:scalR t a=.bad 31 a:=by
   unfold scalR;rw [e];rfl
  rw [e2];show told t _=_;rw [told_end (by omega),if_neg (by omega),show a=t.size by omega]
def qEn (key:BA) (obj:Bool) (k:Nat):Eng.Node:=setK key (nd0 (kindC obj) ⟨#[]⟩ false 0 (k:Int))
theorem upO_head (key:BA) (obj:Bool) (op:List Int) (pre acc:List Eng.Node) (k:Nat):upO (op++[(pre.length:Int)]) (pre++qEn key obj k::acc)=pre++qEn key obj (k+1)::acc:=by
 unfold upO;rw [last_snoc];dsimp only;rw [Int.toNat_natCast,List.set_append_right _ _ (Nat.le_refl _),Nat.sub_self,List.getD_eq_getElem?_getD,List.getElem?_append_right (Nat.le_refl _),Nat.sub_self];show pre++(bumpN (qEn key obj k)::acc)=_;congr 2
theorem head_getD (key:BA) (obj:Bool) (pre acc:List Eng.Node) (k:Nat) (d:Eng.Node):(pre++qEn key obj k::acc).getD pre.length d=qEn key obj k:=by
 rw [List.getD_eq_getElem?_getD,List.getElem?_append_right (Nat.le_refl _),Nat.sub_self];rfl
include hs in
theorem more_sim {obj:Bool} {hk:BA} {pre acc:List Eng.Node} {k:Nat} (nmap:MapC) {c0:Nat} (hc0:c0≤t.size) (ho:op.length≤100) (hnm:nm.length=op.length) :
  told t ⟨t,(c0:Int),5,pre++qEn hk obj k::acc,op++[(pre.length:Int)],nm++[(nmap,())],⟨#[]⟩,cd,bd⟩ =
   if bAt t c0=lastC obj then told t ⟨t,(qA8 t (c0+1):Int),stB op,pre++qEn hk obj k::acc,op,nm,⟨#[]⟩,cd,bd⟩
   else if bAt t c0=44 then told t ⟨t,(qA8 t (c0+1):Int),bif obj then 2 else 0,pre++qEn hk obj k::acc,op++[(pre.length:Int)],nm++[(nmap,())],⟨#[]⟩,cd,bd⟩
   else some ([],31,(c0:Int)):=by
 by_cases hlt:c0<t.size
 ·have h:=st_more (out:=pre++qEn hk obj k::acc) (op:=op) (nm:=nm) (key:=⟨#[]⟩) (cd:=cd) (bd:=bd) hlt hs obj (p:=pre.length) (nmap,()) ho (by omega) (by simp) (by rw [head_getD]; rfl);by_cases h1:bAt t c0=lastC obj
  ·rw [if_pos h1] at h ⊢;exact told_on hs hlt h
  ·rw [if_neg h1] at h ⊢;by_cases h2:bAt t c0=44
   ·rw [if_pos h2] at h ⊢;exact told_on hs hlt h
   ·rw [if_neg h2] at h ⊢;exact qF5 hlt h rfl
 ·have e:bAt t c0 = -1:=qB6 (by omega);have:=lastC_pos obj;rw [if_neg (by omega),if_neg (by omega),told_end (by omega),if_neg (by decide),show c0=t.size by omega]
include hs in
theorem row_sim {d:Nat} (hV:ValSim t d) {obj:Bool} {hk:BA} {pre:List Eng.Node} (ho:op.length+(d+1)=32) (hnm:nm.length=op.length):∀(m a k:Nat) (acc:List Eng.Node) (names:List BA) (nmap:MapC) (st:Int),t.size - a<m→a≤t.size →
  (bif obj then st=2∨(st=3∧bAt t a≠125) else st=0∨(st=1∧bAt t a≠93))→NmR obj nmap names→pre.length+1+acc.length≤a→k≤a →
  match rowR t (valR t d) obj m a k acc names with
  | .bad c b=>told t ⟨t,(a:Int),st,pre++qEn hk obj k::acc,op++[(pre.length:Int)],nm++[(nmap,())],⟨#[]⟩,cd,bd⟩=some ([],c,(b:Int))
  | .ok b x=>told t ⟨t,(a:Int),st,pre++qEn hk obj k::acc,op++[(pre.length:Int)],nm++[(nmap,())],⟨#[]⟩,cd,bd⟩=told t ⟨t,(qA8 t b:Int),stB op,pre++qEn hk obj x.1::x.2,op,nm,⟨#[]⟩,cd,bd⟩
 | 0,a,k,acc,names,nmap,st,h,_,_,_,_,_=>by omega
 | m+1,a,k,acc,names,nmap,st,hm,ha,hst,hR,hpa,hka=>by
  have hlenO:∀x:Int,(op++[x]).length=op.length+1:=fun x=>by simp
  have hlenN:∀x:MapC × Unit,(nm++[x]).length=nm.length+1:=fun x=>by simp
  have htop:∀k acc,k≤a→TopOK (op++[(pre.length:Int)]) (pre++qEn hk obj k::acc):=fun k acc hk'=>.inr ⟨op,pre.length,rfl,by simp,by
   rw [head_getD];show qAc ((k:Int)+1);unfold qAc;omega⟩
  have after:∀(b:Nat) (x:BA × List Eng.Node) (nmap':MapC),a<b→b≤t.size→x.2.length≤b - a→NmR obj nmap' (names++[x.1])→itemR t (valR t d) obj names a=.ok b x →
    told t ⟨t,(a:Int),st,pre++qEn hk obj k::acc,op++[(pre.length:Int)],nm++[(nmap,())],⟨#[]⟩,cd,bd⟩=told t ⟨t,(qA8 t b:Int),5,pre++qEn hk obj (k+1)::(acc++x.2),op++[(pre.length:Int)],nm++[(nmap',())],⟨#[]⟩,cd,bd⟩ →
    match rowR t (valR t d) obj (m+1) a k acc names with
    | .bad c b=>told t ⟨t,(a:Int),st,pre++qEn hk obj k::acc,op++[(pre.length:Int)],nm++[(nmap,())],⟨#[]⟩,cd,bd⟩=some ([],c,(b:Int))
    | .ok b x=>told t ⟨t,(a:Int),st,pre++qEn hk obj k::acc,op++[(pre.length:Int)],nm++[(nmap,())],⟨#[]⟩,cd,bd⟩=told t ⟨t,(qA8 t b:Int),stB op,pre++qEn hk obj x.1::x.2,op,nm,⟨#[]⟩,cd,bd⟩:=by
   intro b x nmap' hb1 hb2 hx hR' hi ht;have k1:=qDg t b;have k2:=qD4 t b hb2;rw [ht,more_sim hs nmap' k2 (by omega) hnm];unfold rowR;rw [hi];dsimp only;by_cases h1:bAt t (qA8 t b)=lastC obj
   ·rw [if_pos h1,if_pos h1]
   ·rw [if_neg h1,if_neg h1];by_cases h2:bAt t (qA8 t b)=44
    ·rw [if_pos h2,if_pos h2];have h3:=qB2 (t:=t) (a:=qA8 t b) (by omega);have k3:=qDg t (qA8 t b+1);have k4:=qD4 t (qA8 t b+1) (by omega);exact row_sim hV ho hnm m (qA8 t (qA8 t b+1)) (k+1) (acc++x.2) (names++[x.1]) nmap' (bif obj then 2 else 0) (by omega) k4 (by cases obj <;> exact .inl rfl) hR' (by rw [List.length_append]; omega) (by omega)
    ·rw [if_neg h2,if_neg h2]
  cases obj with
  | false =>
   have hv:=hV a st (pre++qEn hk false k::acc) (op++[(pre.length:Int)]) (nm++[(nmap,())]) ⟨#[]⟩ cd bd ha hst (by rw [hlenO]; omega) (by rw [hlenO,hlenN]; omega) (htop k acc hka) (by simp only [List.length_append,List.length_cons]; omega);cases h:valR t d a with
   | bad c b =>
    rw [h] at hv;unfold rowR itemR;rw [if_neg (by decide),h];exact hv
   | ok b l =>
    rw [h] at hv;have hadv:=valR_adv t d a b l ha h;refine after b (⟨#[]⟩,l) nmap hadv.1 hadv.2.1 hadv.2.2.2 ⟨hR.some_,fun s hs=>by cases hs⟩ (by unfold itemR; rw [if_neg (by decide),h]) ?_;have hv:told t _=told t _:=hv;rw [hv,upO_head,valR_key h];have e5:stB (op++[(pre.length:Int)])=5:=by unfold stB; rw [if_neg (by rw [hlenO]; omega)]
    rw [e5,List.append_assoc];rfl
  | true =>
   by_cases hlt:a<t.size
   ·obtain ⟨g,hg,hgo,hgp,hg2⟩:=p_name (st:=st) (out:=pre++qEn hk true k::acc) (op:=op++[(pre.length:Int)]) (nm:=nm) (key:=⟨#[]⟩) (cd:=cd) (bd:=bd) hlt hs nmap (by omega) hR;have hstep:=st_name (nm:=nm++[(nmap,())]) hlt hst (fun _=>hg) ⟨hgo,hgp⟩;by_cases h34:bAt t a=34
    ·rw [if_pos h34] at hstep;cases hq:quoR t (t.size+1) (a+1) [] with
     | bad c b =>
      rw [hq] at hg2;obtain ⟨e1,e2,e3⟩:=hg2;unfold rowR itemR;rw [if_pos rfl,if_pos h34,hq];dsimp only;rw [qF5 hlt hstep e3,e1,e2]
     | ok b l =>
      rw [hq] at hg2;have hqo:=quoR_ok hq (by simp);dsimp only at hg2;by_cases hmem:qAp l∈names
      ·rw [if_pos hmem] at hg2;obtain ⟨e1,e2,e3⟩:=hg2;unfold rowR itemR;rw [if_pos rfl,if_pos h34,hq];dsimp only;rw [if_pos hmem];dsimp only;rw [qF5 hlt hstep e3,e1,e2]
      ·rw [if_neg hmem] at hg2;rw [hg2] at hstep;have t1:=told_on hs hlt hstep;have k1:=qDg t b;have k2:=qD4 t b hqo.2.1;by_cases hlt2:qA8 t b<t.size
       ·have hcol:=st_colon (out:=pre++qEn hk true k::acc) (op:=op++[(pre.length:Int)]) (nm:=nm++[(mput nmap (qAp l) 1,())]) (key:=qAp l) (cd:=cd) (bd:=bd) hlt2 hs;by_cases h58:bAt t (qA8 t b)=58
        ·rw [if_pos h58] at hcol;have t2:=told_on hs hlt2 hcol;have k3:=qDg t (qA8 t b+1);have k4:=qD4 t (qA8 t b+1) (by omega);have hv:=hV (qA8 t (qA8 t b+1)) 0 (pre++qEn hk true k::acc) (op++[(pre.length:Int)]) (nm++[(mput nmap (qAp l) 1,())]) (qAp l) cd bd k4 (.inl rfl) (by rw [hlenO]; omega) (by rw [hlenO,hlenN]; omega) (htop k acc hka) (by simp only [List.length_append,List.length_cons]; omega);cases h:valR t d (qA8 t (qA8 t b+1)) with
         | bad c b' =>
          rw [h] at hv;unfold rowR itemR;rw [if_pos rfl,if_pos h34,hq];dsimp only;rw [if_neg hmem,if_pos h58,h];dsimp only;rw [t1,t2];exact hv
         | ok b' y =>
          rw [h] at hv;have hadv:=valR_adv t d _ b' y k4 h;refine after b' (qAp l,setKey (qAp l) y) (mput nmap (qAp l) 1) (by omega) hadv.2.1 (by rw [setKey_len]; omega) (hR.put _) (by
           unfold itemR;rw [if_pos rfl,if_pos h34,hq];dsimp only;rw [if_neg hmem,if_pos h58,h]) ?_
          have hv:told t _=told t _:=hv;rw [t1,t2,hv,upO_head];have e5:stB (op++[(pre.length:Int)])=5:=by unfold stB; rw [if_neg (by rw [hlenO]; omega)]
          rw [e5,List.append_assoc];rfl
        ·rw [if_neg h58] at hcol;unfold rowR itemR;rw [if_pos rfl,if_pos h34,hq];dsimp only;rw [if_neg hmem,if_neg h58];dsimp only;rw [t1];exact qF5 hlt2 hcol rfl
       ·have h58:¬bAt t (qA8 t b)=58:=by rw [qB6 (by omega)]; decide
        unfold rowR itemR;rw [if_pos rfl,if_pos h34,hq];dsimp only;rw [if_neg hmem,if_neg h58];dsimp only;rw [t1,told_end (by omega),if_neg (by decide),show qA8 t b=t.size by omega]
    ·rw [if_neg h34] at hstep;unfold rowR itemR;rw [if_pos rfl,if_neg h34];exact qF5 hlt hstep rfl
   ·have h34:¬bAt t a=34:=by rw [qB6 (by omega)]; decide
    unfold rowR itemR;rw [if_pos rfl,if_neg h34];dsimp only;have hst6:¬st=6:=by
     have hst:st=2∨(st=3∧bAt t a≠125):=hst;omega
    rw [told_end (by omega),if_neg hst6,show a=t.size by omega]
include hs in
theorem val_sim:∀d:Nat,ValSim t d
 | 0=>fun a st out op nm key cd bd ha hst ho hnm hop hl=>by
  unfold valR;by_cases hb:bAt t a=91∨bAt t a=123
  ·have hlt:=qB2 (t:=t) (a:=a) (by omega);rw [if_pos hb];have hv:zca_s ⟨t,(a:Int),st,out,op,nm,key,cd,bd⟩ (bAt t a)=some (⟨t,(a:Int),st,out,op,nm,key,11,(a:Int)⟩,false):=by
    unfold zca_s;rw [qBw (p:=bAt t a=91∨bAt t a=123) (by simp),if_pos hb,p_begin_deep _ (by omega)];rfl
   exact qF5 hlt (st_val hlt hst hv) rfl
  ·rw [if_neg hb];exact scal_sim hs ha hst (by omega) hop hl hb
 | d+1=>fun a st out op nm key cd bd ha hst ho hnm hop hl=>by
  unfold valR;by_cases hb:bAt t a=91∨bAt t a=123
  ·have hlt:=qB2 (t:=t) (a:=a) (by omega);rw [if_pos hb];generalize hobj:decide (bAt t a=123)=obj
   have hv:zca_s ⟨t,(a:Int),st,out,op,nm,key,cd,bd⟩ (bAt t a)=some (⟨t,((a+1:Nat):Int),bif obj then 3 else 1,layO op out key (nd0 (kindC obj) ⟨#[]⟩ false 0 0),op++[(out.length:Int)],nm++[((bif obj then some [] else none:MapC),())],⟨#[]⟩,cd,bd⟩,true):=by
    unfold zca_s;rw [qBw (p:=bAt t a=91∨bAt t a=123) (by simp),if_pos hb,p_begin (by omega) obj hobj hop (by omega) (by omega) (by omega)];rfl
   have t1:=told_on hs hlt (st_val hlt hst hv);have k1:=qDg t (a+1);have k2:=qD4 t (a+1) (by omega);have elay:layO op out key (nd0 (kindC obj) ⟨#[]⟩ false 0 0)=upO op out++qEn key obj 0::[]:=rfl;have elen:out.length=(upO op out).length:=(upO_len op out).symm;rw [elay,elen] at t1;unfold boxR;by_cases hla:bAt t (qA8 t (a+1))=lastC obj
   ·rw [if_pos hla];have:=lastC_pos obj;have hlt2:=qB2 (t:=t) (a:=qA8 t (a+1)) (by omega);have t2:=told_on hs hlt2 (st_end (out:=upO op out++qEn key obj 0::[]) (op:=op) (nm:=nm) (key:=⟨#[]⟩) (cd:=cd) (bd:=bd) hlt2 hs obj hla ((upO op out).length:Int) ((bif obj then some [] else none:MapC),()) (by omega) (by omega));show told t _=told t _;rw [t1,t2];rfl
   ·rw [if_neg hla];have hr:=row_sim (op:=op) (nm:=nm) (cd:=cd) (bd:=bd) hs (val_sim d) (obj:=obj) (hk:=key) (pre:=upO op out) (by omega) hnm (t.size+1) (qA8 t (a+1)) 0 [] [] (bif obj then some [] else none) (bif obj then 3 else 1) (by omega) k2 (by
     cases obj with
     | true=>exact .inr ⟨rfl,hla⟩
     | false=>exact .inr ⟨rfl,hla⟩) (by
     cases obj with
     | true=>exact ⟨rfl,fun s _=>by
       show 0<(mfind [] s).getD 0↔_;simp [mfind]⟩
     | false=>exact ⟨rfl,fun s h=>by cases h⟩) (by rw [←elen]; simp only [List.length_nil]; omega) (by omega)
    cases h:rowR t (valR t d) obj (t.size+1) (qA8 t (a+1)) 0 [] [] with
    | bad c b =>
     rw [h] at hr;show told t _=_;rw [t1];exact hr
    | ok b x =>
     rw [h] at hr;show told t _=told t _;rw [t1];exact hr
  ·rw [if_neg hb];exact scal_sim hs ha hst (by omega) hop hl hb
theorem p_Parse (t:BA):zbf_s t=some (parseR t):=by
 unfold zbf_s parseR;by_cases h:262144<t.size
 ·rw [deT (by omega),cnT,if_pos h]
 ·rw [deF (by omega),cnF,if_neg h,show (0:Int)=((0:Nat):Int) from rfl,p_blank _ _ _ _ _ _ _ t (by omega),obS];show told t ⟨t,(qA8 t 0:Int),0,[],[],[],⟨#[]⟩,0,0⟩=_;have k:=qD4 t 0 (by omega);have hv:=val_sim (t:=t) (by omega) 32 (qA8 t 0) 0 [] [] [] ⟨#[]⟩ 0 0 k (.inl rfl) rfl rfl (.inl rfl) (by simp);unfold readR;cases hr:valR t 32 (qA8 t 0) with
  | bad c b =>
   rw [hr] at hv;exact hv
  | ok b l =>
   rw [hr] at hv;have hv:told t _=told t _:=hv;rw [hv,valR_key hr];dsimp only;by_cases hl:qA8 t b<t.size
   ·rw [if_pos hl];exact qF5 hl (st_done hl) rfl
   ·rw [if_neg hl,told_end (by omega)];rfl
end Go.Proofs.YtlmfmmgfiffjiaaDoor
namespace Go.Proofs.YtlmfmmgfiffjiaaDoor
open Go.Eng
def SizeN (m:Nat) (n:Eng.Node):Prop:=n.key.size≤m∧n.text.size≤m∧0≤n.kids∧n.kids≤m∧1≤n.kind∧n.kind≤7
theorem SizeN.mono {m m':Nat} (h:m≤m') {n:Eng.Node} (hn:SizeN m n):SizeN m' n:=by
 unfold SizeN at *
 omega
def ValidI (l:List Int):Prop:=Lib.validD (l.map fun n=>UInt8.ofNat n.toNat)=true
theorem ValidI.nil:ValidI []:=rfl
section
variable {t:BA} {a b:Nat} (hb:b≤t.size)
include hb
end
end Go.Proofs.YtlmfmmgfiffjiaaDoor
namespace Go.Proofs.YtlmfmmgfiffjiaaDoor
open Go.Eng
def Uniq (l:List Eng.Node):List Nat→Prop
 | []=>True
 | p::r=>(∀q∈r,qBf l q≠qBf l p)∧Uniq l r
theorem findK_app {l:List Eng.Node} (key:BA):∀(L M:List Nat),qB3 l key (L++M)=match qB3 l key L with | some p=>some p | none=>qB3 l key M
 | [],M=>rfl
 | p::r,M=>by
  show (if (l.getD p (ET.dft .node)).key=key then some p else qB3 l key (r++M))=match (if (l.getD p (ET.dft .node)).key=key then some p else qB3 l key r) with | some p=>some p | none=>qB3 l key M
  by_cases h:(l.getD p (ET.dft .node)).key=key
  ·rw [if_pos h,if_pos h]
  ·rw [if_neg h,if_neg h,findK_app key r M]
theorem findK_mem {l:List Eng.Node} {key:BA}:∀ {L:List Nat} {p:Nat},qB3 l key L=some p→p∈L∧qBf l p=key
 | [],p,h=>by cases h
 | q::r,p,h=>by
  unfold qB3 at h;split at h
  ·rename_i hq;cases h;exact ⟨List.mem_cons_self,hq⟩
  ·obtain ⟨i1,i2⟩:=findK_mem h;exact ⟨List.mem_cons_of_mem _ i1,i2⟩
theorem findK_none {l:List Eng.Node} {key:BA}:∀ {L:List Nat},(∀q∈L,qBf l q≠key)→qB3 l key L=none
 | [],h=>rfl
 | q::r,h=>by
  unfold qB3;rw [if_neg (show ¬(l.getD q (ET.dft .node)).key=key from h q List.mem_cons_self)];exact findK_none fun p hp=>h p (List.mem_cons_of_mem _ hp)
theorem Uniq.before {l:List Eng.Node}:∀ {L:List Nat} {p:Nat} {M:List Nat},Uniq l (L++p::M)→∀q∈L,qBf l q≠qBf l p
 | [],p,M,h,q,hq=>by cases hq
 | x::L,p,M,h,q,hq=>by
  rcases List.mem_cons.1 hq with rfl | hq
  ·exact fun he=>h.1 p (List.mem_append_right _ List.mem_cons_self) he.symm
  ·exact Uniq.before h.2 q hq
structure Obj (l:List Eng.Node) (L:List Nat):Prop where
 ok:OkL l
 kids:zbd_s l 0=some (upN L)
 root:∃nd e,l[0]?=some nd∧0≤nd.kids∧nd.kind=7∧Trees l nd.kids.toNat (0+1) e∧qEh l nd.kids.toNat (0+1) L e
 tree:∀p∈L,∃e,Tree l p e
 uniq:Uniq l L
 mem:∀key,zbe_s l 0 key=some (memI (qB3 l key L))
 kind:(l.getD 0 (ET.dft .node)).kind=7
 ne:0<l.length
def nIss:BA:=⟨#[105,115,115]⟩
def nSub:BA:=⟨#[115,117,98]⟩
def nJti:BA:=⟨#[106,116,105]⟩
def nAud:BA:=⟨#[97,117,100]⟩
def nExp:BA:=⟨#[101,120,112]⟩
def nNbf:BA:=⟨#[110,98,102]⟩
def nIat:BA:=⟨#[105,97,116]⟩
def tX (l:List Eng.Node) (p:Nat):BA:=(l.getD p (ET.dft .node)).text
def txtO (l:List Eng.Node):Option Nat→BA
 | some p=>tX l p
 | none=>⟨#[]⟩
def timO (l:List Eng.Node):Option Nat→qG6
 | some p=>⟨true,(l.getD p (ET.dft .node)).int⟩
 | none=>⟨false,0⟩
noncomputable def subP (l:List Eng.Node) (p:Nat):List Nat:=((zbd_s l (p:Int)).getD []).map Int.toNat
noncomputable def audO (l:List Eng.Node):Option Nat→List BA
 | some p=>if (l.getD p (ET.dft .node)).kind=6 then (subP l p).map (tX l) else [tX l p]
 | none=>[]
noncomputable def cOf (l:List Eng.Node) (L:List Nat):qG3 :=
 ⟨[],txtO l (qB3 l nIss L),(qB3 l nIss L).isSome,txtO l (qB3 l nSub L),(qB3 l nSub L).isSome,audO l (qB3 l nAud L),(qB3 l nAud L).isSome,txtO l (qB3 l nJti L),(qB3 l nJti L).isSome,timO l (qB3 l nExp L),timO l (qB3 l nNbf L),timO l (qB3 l nIat L)⟩
theorem audO_six {l:List Eng.Node} {p:Nat} (h:(l.getD p (ET.dft .node)).kind=6):audO l (some p)=(subP l p).map (tX l):=if_pos h
theorem audO_else {l:List Eng.Node} {p:Nat} (h:¬(l.getD p (ET.dft .node)).kind=6):audO l (some p)=[tX l p]:=if_neg h
def strB (l:List Eng.Node) (p:Nat):Bool:=decide ((l.getD p (ET.dft .node)).kind=5)
def timB (l:List Eng.Node) (p:Nat):Bool:=decide ((l.getD p (ET.dft .node)).kind=4) && (l.getD p (ET.dft .node)).whole
noncomputable def audB (l:List Eng.Node) (p:Nat):Bool:=if (l.getD p (ET.dft .node)).kind=6 then (subP l p).all (strB l) else strB l p
noncomputable def goodB (l:List Eng.Node) (p:Nat):Bool :=
 if qBf l p=nIss then strB l p else if qBf l p=nSub then strB l p else if qBf l p=nJti then strB l p else if qBf l p=nExp then timB l p else if qBf l p=nNbf then timB l p else if qBf l p=nIat then timB l p else if qBf l p=nAud then audB l p else true
structure Sub (l:List Eng.Node) (p:Nat):Prop where
 lt:p<l.length
 j:zbd_s l (p:Int)=some (upN (subP l p))
 src:∃nd e,l[p]?=some nd∧0≤nd.kids∧Trees l nd.kids.toNat (p+1) e∧qEh l nd.kids.toNat (p+1) (subP l p) e
 inn:∀q∈subP l p,q<l.length
 len:(subP l p).length≤2000000
theorem upN_back (L:List Nat):(upN L).map Int.toNat=L:=by
 unfold upN;rw [List.map_map];exact (List.map_congr_left fun a _=>Int.toNat_natCast a).trans (List.map_id L)
theorem upN_at (pre post:List Nat) (p:Nat):(upN (pre++p::post)).getD pre.length (ET.dft .i64)=(p:Int):=by
 unfold upN;rw [List.getD_eq_getElem?_getD,List.getElem?_map,List.getElem?_append_right (Nat.le_refl _),Nat.sub_self];rfl
theorem sub_of {l:List Eng.Node} (hok:OkL l) {p e:Nat} (h:Tree l p e):Sub l p:=by
 obtain ⟨nd,h1,h2,h3⟩:=h.node;obtain ⟨L,hL⟩:=h3.places;have hlen:=hL.len;have hlt:=(List.getElem?_eq_some_iff.1 h1).1;have h4:=hok.1;have hj:=j_kids hok.1 h1 h2 h3 hL;have e1:subP l p=L:=by
  unfold subP;rw [hj];exact upN_back L
 exact ⟨hlt,by rw [e1]; exact hj,⟨nd,_,h1,h2,h3,by rw [e1]; exact hL⟩,by rw [e1]; exact places_in hL,by rw [e1]; have:=h3.le; omega⟩
theorem aud_loop {l:List Eng.Node} (hl:l.length≤2000000) {L:List Nat} (hL:L.length≤2000000) (hin:∀q∈L,q<l.length) :
  ∀(post pre:List Nat) (A:List BA),L=pre++post→A.length=pre.length→∃r,zag_p0 ((upN L).length:Int) (pre.length:Int) l (upN L) A=some r∧(post.all (strB l)=true→r=.inr (A++post.map (tX l)))∧(post.all (strB l)=false→∃A',r=.inl (false,A'))
 | [],pre,A,h,hA=>by
  refine ⟨.inr A,?_,fun _=>by simp,fun h=>by cases h⟩;unfold zag_p0;refine qAj ?_;unfold qDu;rw [upN_len,deF (by rw [h,List.append_nil]; omega),cnF]
 | p::post,pre,A,h,hA=>by
  have hlen:L.length=pre.length+(post.length+1):=by rw [h,List.length_append,List.length_cons]
  have hp:=hin p (by rw [h]; exact List.mem_append_right _ List.mem_cons_self);have hat:(upN L).getD pre.length (ET.dft .i64)=(p:Int):=by rw [h]; exact upN_at pre post p
  by_cases hk:(l.getD p (ET.dft .node)).kind=5
  ·obtain ⟨r,h1,h2,h3⟩:=aud_loop hl hL hin post (pre++[p]) (A++[tX l p]) (by rw [h]; simp) (by simp [hA]);have hs:strB l p=true:=deT hk;refine ⟨r,?_,fun ha=>?_,fun ha=>?_⟩
   ·rw [←h1];unfold zag_p0;rw [qAu (y:=((((pre++[p]).length:Nat):Int),A++[tX l p])) ?_];unfold qDu;dsimp only;rw [upN_len,deT (by omega),cnT,qAb (by omega),Int.toNat_natCast,qAb (by omega),hat,Int.toNat_natCast,qAb (by omega),qAb (by omega),qAb (by omega),deT hk,Bool.not_true,cnF,qAb (by omega),qAb (by omega),qAb (by omega),qAb (by rw [List.length_singleton]; omega)];refine (qAb (by unfold qAc; omega) _).trans ?_;rw [List.length_append];rfl
   ·rw [List.all_cons,hs,Bool.true_and] at ha;rw [h2 ha];simp
   ·rw [List.all_cons,hs,Bool.true_and] at ha;exact h3 ha
  ·refine ⟨.inl (false,A),?_,fun ha=>?_,fun _=>⟨A,rfl⟩⟩
   ·unfold zag_p0;refine qAj ?_;unfold qDu;dsimp only;rw [upN_len,deT (by omega),cnT,qAb (by omega),Int.toNat_natCast,qAb (by omega),hat,Int.toNat_natCast,qAb (by omega),qAb (by omega),qAb (by omega),deF hk,Bool.not_false,cnT]
   ·rw [List.all_cons,show strB l p=false from deF hk,Bool.false_and] at ha;cases ha
theorem p_aud {l:List Eng.Node} (hok:OkL l) {p:Nat} (hp:Sub l p) (hk:1≤(l.getD p (ET.dft .node)).kind∧(l.getD p (ET.dft .node)).kind≤7) (c:qG3) (hc:c.aud=[]) :
  ∃A b,zag_s c l (p:Int)=some (⟨c.value,c.iss,c.hasIss,c.sub,c.hasSub,A,true,c.jti,c.hasJti,c.exp_,c.nbf,c.iat⟩,b)∧b=audB l p∧(b=true→A=audO l (some p)):=by
 have hlt:=hp.lt;have hp1:zag_p1 (p:Int) l=some (true,[tX l p]):=by
  unfold zag_p1;rw [qAb (by omega),Int.toNat_natCast,qAb hlt,qAb hlt];rfl
 unfold zag_s;rw [qAb (by omega),Int.toNat_natCast,qAb hlt,qAb hlt,hp1];by_cases h6:(l.getD p (ET.dft .node)).kind=6
 ·rw [deT h6,cnT,hp.j,obS,hc];obtain ⟨r,h1,h2,h3⟩:=aud_loop hok.1 hp.len hp.inn (subP l p) [] [] rfl rfl;rw [show ((([]:List Nat).length:Nat):Int)=0 from rfl] at h1;rw [h1,obS];cases ha:(subP l p).all (strB l) with
  | true =>
   rw [h2 ha];exact ⟨_,_,rfl,by unfold audB; rw [if_pos h6,ha],fun _=>by rw [audO_six h6]; rfl⟩
  | false =>
   obtain ⟨A',rfl⟩:=h3 ha;exact ⟨_,_,rfl,by unfold audB; rw [if_pos h6,ha],fun h=>by cases h⟩
 ·rw [audO_else h6];unfold audB strB;rw [if_neg h6];generalize (l.getD p (ET.dft .node)).kind=k at *
  have:k=1∨k=2∨k=3∨k=4∨k=5∨k=7:=by omega
  rcases this with rfl | rfl | rfl | rfl | rfl | rfl
  ·exact ⟨_,_,rfl,rfl,fun h=>by cases h⟩
  ·exact ⟨_,_,rfl,rfl,fun h=>by cases h⟩
  ·exact ⟨_,_,rfl,rfl,fun h=>by cases h⟩
  ·exact ⟨_,_,rfl,rfl,fun h=>by cases h⟩
  ·exact ⟨_,_,rfl,rfl,fun _=>rfl⟩
  ·exact ⟨_,_,rfl,rfl,fun h=>by cases h⟩
theorem find_hit {l:List Eng.Node} {key:BA} {L:List Nat} {p:Nat} (hn:∀q∈L,qBf l q≠qBf l p) (hk:qBf l p=key):qB3 l key L=none∧qB3 l key (L++[p])=some p:=by
 have h1:qB3 l key L=none:=findK_none fun q hq he=>hn q hq (by rw [he,hk])
 refine ⟨h1,?_⟩;rw [findK_app,h1];show (if qBf l p=key then some p else none)=some p;rw [if_pos hk]
theorem qAg {l:List Eng.Node} {key:BA} (L:List Nat) {p:Nat} (hk:¬qBf l p=key):qB3 l key (L++[p])=qB3 l key L:=by
 rw [findK_app];cases qB3 l key L with
 | some q=>rfl
 | none =>
  show (if qBf l p=key then some p else none)=none;rw [if_neg hk]
theorem p_put {l:List Eng.Node} (hok:OkL l) {p:Nat} (hp:Sub l p) (hk:1≤(l.getD p (ET.dft .node)).kind∧(l.getD p (ET.dft .node)).kind≤7) {L:List Nat} (hn:∀q∈L,qBf l q≠qBf l p) :
  ∃c',zah_s (cOf l L) l (p:Int)=some (c',goodB l p)∧(goodB l p=true→c'=cOf l (L++[p])):=by
 have hlt:=hp.lt;unfold zah_s;rw [qAb (by omega),Int.toNat_natCast,qAb hlt];show ∃c',(bif decide (qBf l p=nIss) then some (_,strB l p) else bif decide (qBf l p=nSub) then some (_,strB l p) else bif decide (qBf l p=nJti) then some (_,strB l p) else bif decide (qBf l p=nExp) then some (_,timB l p) else bif decide (qBf l p=nNbf) then some (_,timB l p) else bif decide (qBf l p=nIat) then some (_,timB l p) else bif decide (qBf l p=nAud) then _ else some (_,true))=_∧_;have n12:¬nIss=nSub:=by decide
 have n13:¬nIss=nJti:=by decide
 have n14:¬nIss=nExp:=by decide
 have n15:¬nIss=nNbf:=by decide
 have n16:¬nIss=nIat:=by decide
 have n17:¬nIss=nAud:=by decide
 have n23:¬nSub=nJti:=by decide
 have n24:¬nSub=nExp:=by decide
 have n25:¬nSub=nNbf:=by decide
 have n26:¬nSub=nIat:=by decide
 have n27:¬nSub=nAud:=by decide
 have n34:¬nJti=nExp:=by decide
 have n35:¬nJti=nNbf:=by decide
 have n36:¬nJti=nIat:=by decide
 have n37:¬nJti=nAud:=by decide
 have n45:¬nExp=nNbf:=by decide
 have n46:¬nExp=nIat:=by decide
 have n47:¬nExp=nAud:=by decide
 have n56:¬nNbf=nIat:=by decide
 have n57:¬nNbf=nAud:=by decide
 have n67:¬nIat=nAud:=by decide
 have nm:∀ {a b:BA},qBf l p=a→¬a=b→¬qBf l p=b:=fun h h'=>by rw [h]; exact h'
 have nm':∀ {a b:BA},qBf l p=a→¬b=a→¬qBf l p=b:=fun h h'=>by rw [h]; exact fun e=>h' e.symm
 have hgood:goodB l p=if qBf l p=nIss then strB l p else if qBf l p=nSub then strB l p else if qBf l p=nJti then strB l p else if qBf l p=nExp then timB l p else if qBf l p=nNbf then timB l p else if qBf l p=nIat then timB l p else if qBf l p=nAud then audB l p else true:=rfl
 by_cases h1:qBf l p=nIss
 ·rw [deT h1,cnT,hgood,if_pos h1];refine ⟨_,rfl,fun _=>?_⟩;unfold cOf;rw [(find_hit hn h1).2,qAg L (nm h1 n12),qAg L (nm h1 n13),qAg L (nm h1 n14),qAg L (nm h1 n15),qAg L (nm h1 n16),qAg L (nm h1 n17)];rfl
 rw [deF h1,cnF,if_neg h1] at *
 by_cases h2:qBf l p=nSub
 ·rw [deT h2,cnT,hgood,if_pos h2];refine ⟨_,rfl,fun _=>?_⟩;unfold cOf;rw [(find_hit hn h2).2,qAg L h1,qAg L (nm h2 n23),qAg L (nm h2 n24),qAg L (nm h2 n25),qAg L (nm h2 n26),qAg L (nm h2 n27)];rfl
 rw [deF h2,cnF,if_neg h2] at *
 by_cases h3:qBf l p=nJti
 ·rw [deT h3,cnT,hgood,if_pos h3];refine ⟨_,rfl,fun _=>?_⟩;unfold cOf;rw [(find_hit hn h3).2,qAg L h1,qAg L h2,qAg L (nm h3 n34),qAg L (nm h3 n35),qAg L (nm h3 n36),qAg L (nm h3 n37)];rfl
 rw [deF h3,cnF,if_neg h3] at *
 by_cases h4:qBf l p=nExp
 ·rw [deT h4,cnT,hgood,if_pos h4];refine ⟨_,rfl,fun _=>?_⟩;unfold cOf;rw [(find_hit hn h4).2,qAg L h1,qAg L h2,qAg L h3,qAg L (nm h4 n45),qAg L (nm h4 n46),qAg L (nm h4 n47)];rfl
 rw [deF h4,cnF,if_neg h4] at *
 by_cases h5:qBf l p=nNbf
 ·rw [deT h5,cnT,hgood,if_pos h5];refine ⟨_,rfl,fun _=>?_⟩;unfold cOf;rw [(find_hit hn h5).2,qAg L h1,qAg L h2,qAg L h3,qAg L h4,qAg L (nm h5 n56),qAg L (nm h5 n57)];rfl
 rw [deF h5,cnF,if_neg h5] at *
 by_cases h6:qBf l p=nIat
 ·rw [deT h6,cnT,hgood,if_pos h6];refine ⟨_,rfl,fun _=>?_⟩;unfold cOf;rw [(find_hit hn h6).2,qAg L h1,qAg L h2,qAg L h3,qAg L h4,qAg L h5,qAg L (nm h6 n67)];rfl
 rw [deF h6,cnF,if_neg h6] at *
 by_cases h7:qBf l p=nAud
 ·rw [deT h7,cnT,hgood,if_pos h7];obtain ⟨f1,f2⟩:=find_hit hn h7;obtain ⟨A,b,g1,g2,g3⟩:=p_aud hok hp hk (cOf l L) (by show audO l (qB3 l nAud L)=[]; rw [f1]; rfl);rw [g1,obS];refine ⟨_,by rw [←g2],fun hb=>?_⟩;rw [g3 (by rw [g2]; exact hb)];unfold cOf;rw [f2,qAg L h1,qAg L h2,qAg L h3,qAg L h4,qAg L h5,qAg L h6];rfl
 rw [deF h7,cnF,if_neg h7] at *
 refine ⟨_,by rw [hgood],fun _=>?_⟩;unfold cOf;rw [qAg L h1,qAg L h2,qAg L h3,qAg L h4,qAg L h5,qAg L h6,qAg L h7]
section
variable {l:List Eng.Node} {L:List Nat} (hO:Obj l L)
include hO
end
def tupC (c:qG3):BA × Bool × BA × Bool × Bool × BA × Bool × Bool × Int × Bool × Int × Bool × Int × (List BA) :=
 (c.iss,c.hasIss,c.sub,c.hasSub,c.hasAud,c.jti,c.hasJti,c.exp_.has,c.exp_.at_,c.nbf.has,c.nbf.at_,c.iat.has,c.iat.at_,c.aud)
theorem claims_loop {l:List Eng.Node} {L:List Nat} (hO:Obj l L) (hkd:∀n∈l,1≤n.kind∧n.kind≤7) (hL:L.length≤2000000) :
  ∀(post pre:List Nat),L=pre++post→zaf_p0 ((upN L).length:Int) (pre.length:Int) l (cOf l pre).iss (cOf l pre).hasIss (cOf l pre).sub (cOf l pre).hasSub (cOf l pre).hasAud (cOf l pre).jti (cOf l pre).hasJti (cOf l pre).exp_.has (cOf l pre).exp_.at_ (cOf l pre).nbf.has (cOf l pre).nbf.at_ (cOf l pre).iat.has (cOf l pre).iat.at_ (upN L) [] (cOf l pre).aud =
   some (if post.all (goodB l)=true then .inr (tupC (cOf l L)) else .inl (131,⟨#[]⟩,false,⟨#[]⟩,false,false,⟨#[]⟩,false,false,0,false,0,false,0,[],[]))
 | [],pre,h=>by
  unfold zaf_p0;refine qAj ?_;unfold qDt;rw [upN_len,deF (by rw [h,List.append_nil]; omega),cnF,h,List.append_nil];rfl
 | p::post,pre,h=>by
  have hlen:L.length=pre.length+(post.length+1):=by rw [h,List.length_append,List.length_cons]
  obtain ⟨e,he⟩:=hO.tree p (by rw [h]; exact List.mem_append_right _ List.mem_cons_self);have hp:=sub_of hO.ok he;have hat:(upN L).getD pre.length (ET.dft .i64)=(p:Int):=by rw [h]; exact upN_at pre post p
  have hu:=hO.uniq;rw [h] at hu;have hkp:1≤(l.getD p (ET.dft .node)).kind∧(l.getD p (ET.dft .node)).kind≤7:=by
   rw [List.getD_eq_getElem?_getD,List.getElem?_eq_getElem hp.lt];exact hkd _ (List.getElem_mem hp.lt)
  obtain ⟨c',h1,h2⟩:=p_put hO.ok hp hkp hu.before;have h1':zah_s (⟨[],(cOf l pre).iss,(cOf l pre).hasIss,(cOf l pre).sub,(cOf l pre).hasSub,(cOf l pre).aud,(cOf l pre).hasAud,(cOf l pre).jti,(cOf l pre).hasJti,(⟨(cOf l pre).exp_.has,(cOf l pre).exp_.at_⟩:qG6),(⟨(cOf l pre).nbf.has,(cOf l pre).nbf.at_⟩:qG6),(⟨(cOf l pre).iat.has,(cOf l pre).iat.at_⟩:qG6)⟩:qG3) l (p:Int)=some (c',goodB l p):=h1;by_cases hg:goodB l p=true
  ·have ih:=claims_loop hO hkd hL post (pre++[p]) (by rw [h]; simp);rw [List.all_cons,hg,Bool.true_and,←ih];rw [h2 hg] at h1';unfold zaf_p0;rw [qAu (y:=((((pre++[p]).length:Nat):Int),tupC (cOf l (pre++[p])))) ?_]
   ·rfl
   unfold qDt;dsimp only;rw [upN_len,deT (by omega),cnT,qAb (by omega),Int.toNat_natCast,qAb (by omega),hat,h1',obS,hg,Bool.not_true,cnF];refine (qAb (by unfold qAc; omega) _).trans ?_;rw [List.length_append];rfl
  ·have hg':=Bool.eq_false_iff.2 hg;rw [List.all_cons,hg',Bool.false_and,if_neg (by decide)];unfold zaf_p0;refine qAj ?_;unfold qDt;dsimp only;rw [upN_len,deT (by omega),cnT,qAb (by omega),Int.toNat_natCast,qAb (by omega),hat,h1',obS,hg',Bool.not_false,cnT]
noncomputable def fullC (l:List Eng.Node) (L:List Nat):qG3:=⟨l,(cOf l L).iss,(cOf l L).hasIss,(cOf l L).sub,(cOf l L).hasSub,(cOf l L).aud,(cOf l L).hasAud,(cOf l L).jti,(cOf l L).hasJti,(cOf l L).exp_,(cOf l L).nbf,(cOf l L).iat⟩
end Go.Proofs.YtlmfmmgfiffjiaaDoor
namespace Go.Proofs.YtlmfmmgfiffjiaaDoor
open Go.Eng
set_option maxRecDepth 100000
noncomputable section
def zcl_q:IQ:=(.seq (rg 0 [oP 0 (.mv vF)]) (.seq (rg 2 [oP 7 (.call 38 [(.v (.string ⟨#[123,34,105,115,115,34,58,34,105,34,44,34,115,117,98,34,58,34,115,34,44,34,97,117,100,34,58,34,99,34,44,34,101,120,112,34,58,57,44,34,105,97,116,34,58,49,44,34,110,111,110,99,101,34,58,34,110,34,44,34,97,117,116,104,95,116,105,109,101,34,58,53,125]⟩))]),oM 6 t7,oP 8 (.extract t6 0),oP 9 (.extract t6 1),oP 1 (.alloc 32 [.slice none 0 0,.string ⟨#[]⟩,.bool false,.string ⟨#[]⟩,.bool false,.slice none 0 0,.bool false,.string ⟨#[]⟩,.bool false,.bool false,.int .i64 0,.bool false,.int .i64 0,.bool false,.int .i64 0]),oN (.store 15 t1 t8),oM 2 t9]) (.seq (rg 0 [oP 10 (.build [.string ⟨#[]⟩,.string ⟨#[]⟩,.bool false,.string ⟨#[]⟩,.bool false,.string ⟨#[]⟩,.bool false,.int .i64 0,.bool false,.int .i64 0] [(0,1,(.v (.string ⟨#[99]⟩))),(1,1,(.v (.string ⟨#[110]⟩))),(2,1,vT),(7,1,(vI 10)),(8,1,vT),(9,1,(vI 5))]),oP 3 (.alloc 34 [.string ⟨#[]⟩,.string ⟨#[]⟩,.bool false,.string ⟨#[]⟩,.bool false,.string ⟨#[]⟩,.bool false,.int .i64 0,.bool false,.int .i64 0]),oN (.store 10 t3 t10)]) (.seq (rg 5 [oP 12 (.call 6 [(vI 4),(.v (.string ⟨#[106,72,107,87,69,100,85,88,77,85,49,66,119,65,115,67,52,118,116,85,115,90,119,110,78,118,84,73,120,69,108,48,122,57,75,51,118,120,53,75,70,48,89]⟩))]),oM 11 t12,oP 13 (.extract t11 0),oP 14 (.extract t11 1),oM 4 t13,oM 5 t14]) (.seq (.seq (rg 24 [oM 15 t2,oP 16 (.bi .neq t15 (vI 0)),oM 17 t16,oE 18 (.mv t5) 17,oE 19 (.bi .neq t18 (vI 0)) 17,oP 20 (.pick t17 vT t19),oM 21 t20,oE 22 (.mv t4) 21,oE 23 (.bi .neq t22 (.v (.string ⟨#[55,55,81,109,85,80,116,106,80,102,122,87,116,70,50,65,110,112,75,57,82,81]⟩))) 21,oP 24 (.pick t21 vT t23)]) (.cond t24 (.seq (rg 0 [oP 0 (.mv vF)]) (.cn [0] .ret)) .skip)) (.seq (.seq (rg 34 [oP 25 (.load (some 15) t1),oP 26 (.load (some 10) t3),oP 27 (.call 10 [t25,(vI 4),t26,(vI 20)]),oP 28 (.bi .neq t27 (vI 0)),oM 29 t28,oE 30 (.load (some 15) t1) 29,oE 31 (.load (some 10) t3) 29,oE 32 (.call 10 [t30,(vI 4),t31,(vI 21)]) 29,oE 33 (.bi .neq t32 (vI 153)) 29,oP 34 (.pick t29 vT t33)]) (.cond t34 (.seq (rg 0 [oP 0 (.mv vF)]) (.cn [0] .ret)) .skip)) (.seq (rg 0 [oP 35 (.faddr 1 t3),oN (.store 1 t35 (.v (.string ⟨#[109]⟩)))]) (.seq (rg 0 [oP 36 (.load (some 15) t1),oP 37 (.load (some 10) t3),oP 38 (.call 10 [t36,(vI 4),t37,(vI 20)]),oP 39 (.bi .eql t38 (vI 150)),oM 0 t39]) (.cn [0] .ret)))))))))
def zcl_s:Option Bool :=
 (zaf_s (⟨#[123,34,105,115,115,34,58,34,105,34,44,34,115,117,98,34,58,34,115,34,44,34,97,117,100,34,58,34,99,34,44,34,101,120,112,34,58,57,44,34,105,97,116,34,58,49,44,34,110,111,110,99,101,34,58,34,110,34,44,34,97,117,116,104,95,116,105,109,101,34,58,53,125]⟩:BA)).bind fun r1 =>
 (zam_s (4:Int) (⟨#[106,72,107,87,69,100,85,88,77,85,49,66,119,65,115,67,52,118,116,85,115,90,119,110,78,118,84,73,120,69,108,48,122,57,75,51,118,120,53,75,70,48,89]⟩:BA)).bind fun r2 =>
 bif (((!decide (r1.2=(0:Int))) || (!decide (r2.2=(0:Int)))) || (!decide (r2.1=(⟨#[55,55,81,109,85,80,116,106,80,102,122,87,116,70,50,65,110,112,75,57,82,81]⟩:BA)))) then (
  some false)
 else (
  (zal_s r1.1 (4:Int) (⟨(⟨#[99]⟩:BA),(⟨#[110]⟩:BA),true,(⟨#[]⟩:BA),false,(⟨#[]⟩:BA),false,(10:Int),true,(5:Int)⟩:qG8) (20:Int)).bind fun r3 =>
  bif (!decide (r3=(0:Int))) then (
   some false)
  else (
   (zal_s r1.1 (4:Int) (⟨(⟨#[99]⟩:BA),(⟨#[110]⟩:BA),true,(⟨#[]⟩:BA),false,(⟨#[]⟩:BA),false,(10:Int),true,(5:Int)⟩:qG8) (21:Int)).bind fun r4 =>
   bif (!decide (r4=(153:Int))) then (
    some false)
   else (
    (zal_s r1.1 (4:Int) (⟨(⟨#[99]⟩:BA),(⟨#[109]⟩:BA),true,(⟨#[]⟩:BA),false,(⟨#[]⟩:BA),false,(10:Int),true,(5:Int)⟩:qG8) (20:Int)).bind fun r5 =>
    some (decide (r5=(150:Int))))))
def zcl_c:CS:=mkC (dNil:Dec Unit (List SV)) dNil (fun x y=>zcl_s) (fun x y r=>.c (.o (.vB r))) fun x y r=>[]
theorem zcl_val:qAh Tryd.prog 15 zcl_c:=vl0 zcl_q [.tmp 0] 40 6 0 [(38,zaf_w),(6,zam_w),(10,zal_w)] ⟨zaf_ok,zam_ok,zal_ok,tV⟩ fun x y=>by
 simp only [zcl_s,-eq_self,sZ];kernel_rfl
def zcl_w:CQ:=qCw [] zcl_c
theorem zcl_ok:qAe Tryd.prog 15 zcl_w:=qAs zcl_val
end
theorem p_parse_ok {t:BA} {l:List Eng.Node} {L:List Nat} (hs:t.size≤262144) (hr:readR t=.ok t.size l) (h7:(l.getD 0 (ET.dft .node)).kind=7) (hO:Obj l L) (hkd:∀n∈l,1≤n.kind∧n.kind≤7) (hL:L.length≤2000000) (hall:L.all (goodB l)=true):zaf_s t=some (fullC l L,0):=by
 have hp:parseR t=(l,0,0):=by
  unfold parseR;rw [if_neg (by omega),hr];rfl
 have hlt:=hO.ne;have hlp:=claims_loop hO hkd hL L [] rfl;have hlp':zaf_p0 ((upN L).length:Int) 0 l ⟨#[]⟩ false ⟨#[]⟩ false false ⟨#[]⟩ false false 0 false 0 false 0 (upN L) [] []=some (if L.all (goodB l)=true then .inr (tupC (cOf l L)) else .inl (131,⟨#[]⟩,false,⟨#[]⟩,false,false,⟨#[]⟩,false,false,0,false,0,false,0,[],[])):=hlp;unfold zaf_s;rw [p_Parse,obS,hp];dsimp only;rw [deT rfl,Bool.not_true,cnF,qAb (by omega),qAb (by omega),qAb (by omega)];rw [show Int.toNat 0=0 from rfl,deT h7,Bool.not_true,cnF,hO.kids,obS,hlp',obS,if_pos hall];rfl
def awT:BA:=⟨#[123,34,105,115,115,34,58,34,105,34,44,34,115,117,98,34,58,34,115,34,44,34,97,117,100,34,58,34,99,34,44,34,101,120,112,34,58,57,44,34,105,97,116,34,58,49,44,34,110,111,110,99,101,34,58,34,110,34,44,34,97,117,116,104,95,116,105,109,101,34,58,53,125]⟩
def awV:List Eng.Node:=[⟨7,⟨#[]⟩,⟨#[]⟩,false,0,7⟩,⟨5,nIss,⟨#[105]⟩,false,0,0⟩,⟨5,nSub,⟨#[115]⟩,false,0,0⟩,⟨5,nAud,⟨#[99]⟩,false,0,0⟩,⟨4,nExp,⟨#[57]⟩,true,9,0⟩,⟨4,nIat,⟨#[49]⟩,true,1,0⟩,⟨5,kNonce,⟨#[110]⟩,false,0,0⟩,⟨4,kAuth,⟨#[53]⟩,true,5,0⟩]
def awC:qG3:=⟨awV,⟨#[105]⟩,true,⟨#[115]⟩,true,[⟨#[99]⟩],true,⟨#[]⟩,false,⟨true,9⟩,⟨false,0⟩,⟨true,1⟩⟩
def awL:List Nat:=[1,2,3,4,5,6,7]
theorem aw_read:readR awT=.ok awT.size awV:=by kernel_rfl
theorem aw_size:awT.size=73:=by decide
theorem aw_all {p:Eng.Node→Prop} (h:∀n,n=awV.getD 0 (ET.dft .node)∨n=awV.getD 1 (ET.dft .node)∨n=awV.getD 2 (ET.dft .node)∨n=awV.getD 3 (ET.dft .node)∨n=awV.getD 4 (ET.dft .node)∨n=awV.getD 5 (ET.dft .node)∨n=awV.getD 6 (ET.dft .node)∨n=awV.getD 7 (ET.dft .node)→p n):∀n∈awV,p n:=fun n hn=>by
 refine h n ?_;simp only [awV,List.mem_cons,List.not_mem_nil,or_false] at hn;exact hn
theorem aw_kind:∀n∈awV,1≤n.kind∧n.kind≤7:=aw_all fun n hn=>by
 rcases hn with rfl | rfl | rfl | rfl | rfl | rfl | rfl | rfl <;> decide
theorem aw_int:∀n∈awV,qAc n.int:=aw_all fun n hn=>by
 rcases hn with rfl | rfl | rfl | rfl | rfl | rfl | rfl | rfl <;> (unfold qAc; decide)
theorem aw_ok:OkL awV:=⟨by decide,aw_all fun n hn=>by
 rcases hn with rfl | rfl | rfl | rfl | rfl | rfl | rfl | rfl <;> exact ⟨by decide,by decide,by unfold qAc; decide⟩⟩
theorem qC1 {a:Nat} {n:Eng.Node} (h:awV[a]?=some n) (h0:n.kids=0):Tree awV a (a+1):=Tree.mk h (by omega) (by
 rw [h0];exact Trees.nil _ (by have:=(List.getElem?_eq_some_iff.1 h).1; omega))
theorem aw_pl:qEh awV 7 1 awL 8:=⟨2,[2,3,4,5,6,7],rfl,qC1 (a:=1) rfl rfl,3,[3,4,5,6,7],rfl,qC1 (a:=2) rfl rfl,4,[4,5,6,7],rfl,qC1 (a:=3) rfl rfl,5,[5,6,7],rfl,qC1 (a:=4) rfl rfl,6,[6,7],rfl,qC1 (a:=5) rfl rfl,7,[7],rfl,qC1 (a:=6) rfl rfl,8,[],rfl,qC1 (a:=7) rfl rfl,rfl,rfl⟩
theorem aw_trees:Trees awV 7 1 8:=Trees.app (qC1 (a:=1) rfl rfl) (Trees.app (qC1 (a:=2) rfl rfl) (Trees.app (qC1 (a:=3) rfl rfl) (Trees.app (qC1 (a:=4) rfl rfl) (Trees.app (qC1 (a:=5) rfl rfl) (Trees.app (qC1 (a:=6) rfl rfl) (qC1 (a:=7) rfl rfl))))))
theorem aw_obj:Obj awV awL where
 ok:=aw_ok
 kids:=j_kids (a:=0) (nd:=⟨7,⟨#[]⟩,⟨#[]⟩,false,0,7⟩) aw_ok.1 rfl (by decide) aw_trees aw_pl
 root:=⟨⟨7,⟨#[]⟩,⟨#[]⟩,false,0,7⟩,8,rfl,by decide,rfl,aw_trees,aw_pl⟩
 tree:=fun p hp=>by
  simp only [awL,List.mem_cons,List.not_mem_nil,or_false] at hp;rcases hp with rfl | rfl | rfl | rfl | rfl | rfl | rfl <;> exact ⟨_,qC1 rfl rfl⟩
 uniq:=by
  show (∀q∈[2,3,4,5,6,7],qBf awV q≠qBf awV 1)∧(∀q∈[3,4,5,6,7],qBf awV q≠qBf awV 2)∧(∀q∈[4,5,6,7],qBf awV q≠qBf awV 3)∧(∀q∈[5,6,7],qBf awV q≠qBf awV 4)∧(∀q∈[6,7],qBf awV q≠qBf awV 5)∧(∀q∈[7],qBf awV q≠qBf awV 6)∧(∀q∈([]:List Nat),qBf awV q≠qBf awV 7)∧True;decide
 mem:=fun key=>j_member (a:=0) (nd:=⟨7,⟨#[]⟩,⟨#[]⟩,false,0,7⟩) aw_ok.1 rfl (by decide) aw_trees aw_pl key
 kind:=rfl
 ne:=by decide
theorem aw_good:awL.all (goodB awV)=true:=by
 have g2:goodB awV 3=true:=by
  show audB awV 3=true;unfold audB;rw [if_neg (show ¬(awV.getD 3 (ET.dft .node)).kind=6 by decide)];rfl
 simp only [awL,List.all_cons,List.all_nil,Bool.and_true,Bool.and_eq_true];exact ⟨rfl,rfl,g2,rfl,rfl,rfl,rfl⟩
theorem aw_full:fullC awV awL=awC:=by
 have ha:audO awV (qB3 awV nAud awL)=[⟨#[99]⟩]:=by
  show audO awV (some 3)=_;rw [audO_else (show ¬(awV.getD 3 (ET.dft .node)).kind=6 by decide)];rfl
 unfold fullC cOf;dsimp only;rw [ha];rfl
theorem aw_parse:zaf_s awT=some (awC,0):=by
 rw [p_parse_ok (by rw [aw_size]; decide) aw_read rfl aw_obj aw_kind (by decide) aw_good,aw_full]
def awX:BA:=⟨#[106,72,107,87,69,100,85,88,77,85,49,66,119,65,115,67,52,118,116,85,115,90,119,110,78,118,84,73,120,69,108,48,122,57,75,51,118,120,53,75,70,48,89]⟩
def awH:BA:=⟨#[55,55,81,109,85,80,116,106,80,102,122,87,116,70,50,65,110,112,75,57,82,81]⟩
theorem aw_half:halfT 4 awX=awH:=by kernel_rfl
theorem awake_is:zcl_s=some true:=by
 have hm:Mem awC.value (fun n=>memI (qB3 awV n awL)):=⟨fun n=>aw_obj.mem n,fun n=>by
  show memI (qB3 awV n awL)<(8:Nat);cases h:qB3 awV n awL with
  | none=>show (-1:Int)<_; decide
  | some p =>
   have:=(findK_mem h).1;simp only [awL,List.mem_cons,List.not_mem_nil,or_false] at this;show (p:Int)<_;omega⟩
 have c1:=check_v 4 ⟨⟨#[99]⟩,⟨#[110]⟩,true,⟨#[]⟩,false,⟨#[]⟩,false,10,true,5⟩ 20 hm aw_int (by decide) (by unfold qAc; decide);have c2:=check_v 4 ⟨⟨#[99]⟩,⟨#[110]⟩,true,⟨#[]⟩,false,⟨#[]⟩,false,10,true,5⟩ 21 hm aw_int (by decide) (by unfold qAc; decide);have c3:=check_v 4 ⟨⟨#[99]⟩,⟨#[109]⟩,true,⟨#[]⟩,false,⟨#[]⟩,false,10,true,5⟩ 20 hm aw_int (by decide) (by unfold qAc; decide);have e1:chkV (fun n=>memI (qB3 awV n awL)) awC 4 ⟨⟨#[99]⟩,⟨#[110]⟩,true,⟨#[]⟩,false,⟨#[]⟩,false,10,true,5⟩ 20=0:=by kernel_rfl
 have e2:chkV (fun n=>memI (qB3 awV n awL)) awC 4 ⟨⟨#[99]⟩,⟨#[110]⟩,true,⟨#[]⟩,false,⟨#[]⟩,false,10,true,5⟩ 21=153:=by kernel_rfl
 have e3:chkV (fun n=>memI (qB3 awV n awL)) awC 4 ⟨⟨#[99]⟩,⟨#[109]⟩,true,⟨#[]⟩,false,⟨#[]⟩,false,10,true,5⟩ 20=150:=by kernel_rfl
 rw [e1] at c1;rw [e2] at c2;rw [e3] at c3;have ph:=p_Half 4 awX;rw [aw_half] at ph;have pp:=aw_parse;unfold awT at pp;unfold awX at ph;unfold zcl_s;rw [pp,obS,ph,obS];dsimp only;rw [c1,obS,c2,obS,c3];rfl
noncomputable section
def zcm_b1:IQ:=(.join [] [] (.cond t9 (.seq (rg 2 [oP 2 (.mv (vI 2))]) (.cn [2] .ret)) (.seq (.seq (rg 14 [oP 15 (.bi .eql t3 (vI 3)),oM 14 t15]) (.cond t14 .skip (.seq (rg 14 [oP 16 (.bi .eql t3 (vI 6)),oM 14 t16]) (.cond t14 .skip (.seq (rg 14 [oP 17 (.bi .eql t3 (vI 9)),oM 14 t17]) (.cond t14 .skip (rg 14 [oP 18 (.bi .eql t3 (vI 12)),oM 14 t18]))))))) (.cond t14 (.seq (rg 2 [oP 2 (.mv (vI 3))]) (.cn [2] .ret)) .skip))))
def zcm_b0:IQ:=(.join [] [] (.cond t4 (.seq (rg 2 [oP 2 (.mv (vI 1))]) (.cn [2] .ret)) (.seq (.seq (rg 9 [oP 10 (.bi .eql t3 (vI 2)),oM 9 t10]) (.cond t9 .skip (.seq (rg 9 [oP 11 (.bi .eql t3 (vI 5)),oM 9 t11]) (.cond t9 .skip (.seq (rg 9 [oP 12 (.bi .eql t3 (vI 8)),oM 9 t12]) (.cond t9 .skip (rg 9 [oP 13 (.bi .eql t3 (vI 11)),oM 9 t13]))))))) (.cn [3,9] (.sub 1 zcm_b1)))))
def zcm_q:IQ:=(.seq (rg 2 [oP 2 (.mv (vI 0))]) (.seq (.seq (rg 3 [oM 3 t0]) (.block 0 (.seq (.seq (rg 4 [oP 5 (.bi .eql t3 (vI 1)),oM 4 t5]) (.cond t4 .skip (.seq (rg 4 [oP 6 (.bi .eql t3 (vI 4)),oM 4 t6]) (.cond t4 .skip (.seq (rg 4 [oP 7 (.bi .eql t3 (vI 7)),oM 4 t7]) (.cond t4 .skip (rg 4 [oP 8 (.bi .eql t3 (vI 10)),oM 4 t8]))))))) (.cn [3,4] (.sub 0 zcm_b0))))) (.seq (rg 2 [oP 2 (.mv (vI 0))]) (.cn [2] .ret))))
def zcm_p1 (x3_:Int) (x9_:Bool):Option (Int ⊕ Unit) :=
 bif x9_ then (
  some (.inl (2:Int)))
 else (
  bif decide (x3_=(3:Int)) then (
   bif decide (x3_=(3:Int)) then (
    some (.inl (3:Int)))
   else (
    some (.inr ())))
  else (
   bif decide (x3_=(6:Int)) then (
    bif decide (x3_=(6:Int)) then (
     some (.inl (3:Int)))
    else (
     some (.inr ())))
   else (
    bif decide (x3_=(9:Int)) then (
     bif decide (x3_=(9:Int)) then (
      some (.inl (3:Int)))
     else (
      some (.inr ())))
    else (
     bif decide (x3_=(12:Int)) then (
      some (.inl (3:Int)))
     else (
      some (.inr ()))))))
def zcm_p0 (x3_:Int) (x4_:Bool):Option (Int ⊕ Unit) :=
 bif x4_ then (
  some (.inl (1:Int)))
 else (
  bif decide (x3_=(2:Int)) then (
   (zcm_p1 x3_ (decide (x3_=(2:Int)))).bind fun o1=>(Sum.elim (fun (o1_0:Int) =>
    some (.inl o1_0)) (fun (o1_1:Unit) =>
    some (.inr ()))) o1)
  else (
   bif decide (x3_=(5:Int)) then (
    (zcm_p1 x3_ (decide (x3_=(5:Int)))).bind fun o2=>(Sum.elim (fun (o2_0:Int) =>
     some (.inl o2_0)) (fun (o2_1:Unit) =>
     some (.inr ()))) o2)
   else (
    bif decide (x3_=(8:Int)) then (
     (zcm_p1 x3_ (decide (x3_=(8:Int)))).bind fun o3=>(Sum.elim (fun (o3_0:Int) =>
      some (.inl o3_0)) (fun (o3_1:Unit) =>
      some (.inr ()))) o3)
    else (
     (zcm_p1 x3_ (decide (x3_=(11:Int)))).bind fun o4=>(Sum.elim (fun (o4_0:Int) =>
      some (.inl o4_0)) (fun (o4_1:Unit) =>
      some (.inr ()))) o4))))
def zcm_s (a:Int):Option Int :=
 bif decide (a=(1:Int)) then (
  (zcm_p0 a (decide (a=(1:Int)))).bind fun o5=>(Sum.elim (fun (o5_0:Int) =>
   some o5_0) (fun (o5_1:Unit) =>
   some (0:Int))) o5)
 else (
  bif decide (a=(4:Int)) then (
   (zcm_p0 a (decide (a=(4:Int)))).bind fun o6=>(Sum.elim (fun (o6_0:Int) =>
    some o6_0) (fun (o6_1:Unit) =>
    some (0:Int))) o6)
  else (
   bif decide (a=(7:Int)) then (
    (zcm_p0 a (decide (a=(7:Int)))).bind fun o7=>(Sum.elim (fun (o7_0:Int) =>
     some o7_0) (fun (o7_1:Unit) =>
     some (0:Int))) o7)
   else (
    (zcm_p0 a (decide (a=(10:Int)))).bind fun o8=>(Sum.elim (fun (o8_0:Int) =>
     some o8_0) (fun (o8_1:Unit) =>
     some (0:Int))) o8)))
def zcm_G:Nat→Option CQ:=tblQ []
def zcm_d1:=(dQS (qAa (dSO 3 dZ) (qAa (dSO 9 dB) dNil)) dNil)
def zcm_l1:SubQ:=mkL zcm_d1 (fun x=>zcm_p1 x.1.1 x.1.2.1) fun x r R kn kx kr=>(Sum.elim (fun (r_0:Int)=>kr ⟨[sL 2 (.vI r_0)],[],[]⟩) (fun (r_1:Unit)=>kn ⟨[],[],[]⟩)) r
def zcm_d0:=(dQS (qAa (dSO 3 dZ) (qAa (dSO 4 dB) dNil)) dNil)
def zcm_l0:SubQ:=mkL zcm_d0 (fun x=>zcm_p0 x.1.1 x.1.2.1) fun x r R kn kx kr=>(Sum.elim (fun (r_0:Int)=>kr ⟨[sL 2 (.vI r_0)],[],[]⟩) (fun (r_1:Unit)=>kn ⟨[],[],[]⟩)) r
def zcm_L:Nat→SubQ:=tblL [(1,zcm_l1),(0,zcm_l0)]
theorem zcm_sub1:qBe zcm_L zcm_G 0 4 19 1 zcm_b1:=qAo (show zcm_L 1=zcm_l1 from by kernel_rfl) fun x R kn kx kr=>by
 simp only [zcm_p1,-eq_self,sZ];kernel_rfl
theorem zcm_sub0:qBe zcm_L zcm_G 0 4 19 0 zcm_b0:=qAo (show zcm_L 0=zcm_l0 from by kernel_rfl) fun x R kn kx kr=>by
 simp only [zcm_p0,-eq_self,sZ];kernel_rfl
def zcm_c:CS:=mkC (qAa (dVC (dCO dZ)) dNil) dNil (fun x y=>zcm_s x.1) (fun x y r=>.c (.o (.vI r))) fun x y r=>[]
theorem zcm_val:qAh Tryd.prog 16 zcm_c:=vl1 zcm_q [.tmp 2] 19 4 0 (show qA3 zcm_L zcm_G 0 4 19 [(0,zcm_b0),(1,zcm_b1)] from ⟨zcm_sub0,zcm_sub1,tV⟩) (fun f C h=>by cases h) fun x y=>by
 simp only [zcm_s,-eq_self,sZ];kernel_rfl
def zcm_w:CQ:=qCw [] zcm_c
theorem zcm_ok:qAe Tryd.prog 16 zcm_w:=qAs zcm_val
def zck_b0:IQ:=(.loop [0,2,7,10,13,14] (.seq (.seq (rg 70 [oM 67 t14,oM 68 t10,oP 69 (.len t68),oP 70 (.bi .lss t67 t69)]) (.cond t70 .skip (.cn [0,2,7] (.exit 0)))) (.seq (.block 1 (.seq (.reg 81 (some [0,1,2,3,4,5,6,7,8]) [oM 73 t10,oM 74 t14,oP 75 (.iaddr 1 t73 t74),oP 76 (.load none t75),oM 77 t13,oM 78 t14,oP 79 (.iaddr 1 t77 t78),oP 80 (.load none t79),oP 81 (.bi .neq t76 t80)]) (.cond t81 (.seq (rg 6 [oP 6 (.mv vF)]) (.cn [6] .ret)) .skip))) (rg 14 [oM 71 t14,oP 72 (.bi .add t71 (vI 1)),oM 14 t72]))))
def zck_q:IQ:=(.seq (rg 6 [oP 6 (.mv vF)]) (.seq (.seq (rg 18 [oP 17 (.call 15 []),oP 18 (.un .not t17)]) (.cond t18 (.seq (rg 6 [oP 6 (.mv vF)]) (.cn [6] .ret)) .skip)) (.seq (rg 8 [oM 20 t0,oM 21 t1,oP 22 (.call 6 [t20,t21]),oM 19 t22,oP 23 (.extract t19 0),oP 24 (.extract t19 1),oM 7 t23,oM 8 t24]) (.seq (rg 9 [oM 25 t0,oP 26 (.call 16 [t25]),oM 9 t26]) (.seq (.seq (rg 28 [oM 27 t9,oP 28 (.bi .eql t27 (vI 0))]) (.cond t28 (.seq (rg 6 [oM 29 t8,oP 30 (.bi .eql t29 (vI 111)),oM 31 t30,oF 32 (.mv t7) 31,oF 33 (.bi .eql t32 (.v (.string ⟨#[]⟩))) 31,oP 34 (.pick t31 t33 vF),oM 6 t34]) (.cn [6] .ret)) .skip)) (.seq (rg 12 [oM 36 t7,oP 37 (.call 17 [t36]),oM 35 t37,oP 38 (.extract t35 0),oP 39 (.extract t35 1),oP 40 (.extract t35 2),oM 10 t38,oM 11 t39,oM 12 t40]) (.seq (rg 13 [oM 41 t9,oM 42 t1,oP 43 (.ext (.toBytes 5) [t42]),oP 44 (.bslice 47 1 1 [.slice none 0 0] [(0,t43)]),oP 45 (.call 18 [t41,t44]),oM 13 t45]) (.seq (.seq (rg 66 [oM 46 t8,oP 47 (.bi .neq t46 (vI 0)),oM 48 t47,oE 49 (.mv t11) 48,oE 50 (.bi .neq t49 (vI 0)) 48,oP 51 (.pick t48 vT t50),oM 52 t51,oE 53 (.mv t10) 52,oE 54 (.len t53) 52,oE 55 (.bi .mul (vI 2) t54) 52,oE 56 (.mv t9) 52,oE 57 (.call 19 [t56]) 52,oE 58 (.bi .neq t55 t57) 52,oP 59 (.pick t52 vT t58),oM 60 t59,oE 61 (.mv t13) 60,oE 62 (.len t61) 60,oE 63 (.mv t9) 60,oE 64 (.call 19 [t63]) 60,oE 65 (.bi .neq t62 t64) 60,oP 66 (.pick t60 vT t65)]) (.cond t66 (.seq (rg 6 [oP 6 (.mv vF)]) (.cn [6] .ret)) .skip)) (.seq (.seq (rg 14 [oP 14 (.mv (vI 0))]) (.block 0 (.canon [(13,none,.u8,5),(6000013,none,.u8,5)] [0,2,7,10,13,14] (.sub 0 zck_b0)))) (.seq (rg 16 [oM 83 t0,oM 84 t2,oP 85 (.call 6 [t83,t84]),oM 82 t85,oP 86 (.extract t82 0),oP 87 (.extract t82 1),oM 15 t86,oM 16 t87]) (.seq (rg 6 [oM 88 t16,oP 89 (.bi .eql t88 (vI 0)),oM 90 t89,oF 91 (.mv t15) 90,oF 92 (.lenS t91) 90,oF 93 (.mv t7) 90,oF 94 (.lenS t93) 90,oF 95 (.bi .eql t92 t94) 90,oP 96 (.pick t90 t95 vF),oM 6 t96]) (.cn [6] .ret))))))))))))
def qD2 (i:Int) (b sum:List Int):Option (Int ⊕ (Bool ⊕ Unit)) :=
 bif decide (i<(b.length:Int)) then (
  gd (0≤i∧i<b.length) <|
  gd ((Int.toNat i)<b.length) <|
  gd (0≤i∧i<sum.length) <|
  gd ((Int.toNat i)<sum.length) <|
  bif (!decide ((b.getD (Int.toNat i) (ET.dft .u8))=(sum.getD (Int.toNat i) (ET.dft .u8)))) then (
   some (.inr (.inl false)))
  else (
   gd (qAc (i+(1:Int))) <|
   some (.inl (i+(1:Int)))))
 else (
  some (.inr (.inr ())))
def zck_p0 (i:Int) (b sum:List Int):Option (Bool ⊕ Unit) :=
 qAw (fun x:Int=>qD2 x b sum) i
def zck_s (a:Int) (text other:BA):Option Bool :=
 (zcl_s).bind fun r33 =>
 bif (!r33) then (
  some false)
 else (
  (zam_s a text).bind fun r34 =>
  (zcm_s a).bind fun r35 =>
  bif decide (r35=(0:Int)) then (
   some ((decide (r34.2=(111:Int))) && (decide (r34.1=(⟨#[]⟩:BA)))))
  else (
   (zaa_s r34.1).bind fun r36 =>
   bif decide (r35=(1:Int)) then (
    gd (0≤(0:Int)∧(0:Int)<((1:Nat):Int)) <|
    (zcg_s (⟨r35,(nrm 8 shaS256),(nrm 8 ([]:List Int)),(nrm 128 ([]:List Int)),(0:Int)⟩:qG7) (qA4 text)).bind fun r37 =>
    gd (qAc ((0:Int)+(1:Int))) <|
    (zcf_s (⟨r37.hash,(nrm 8 r37.short),(nrm 8 r37.long),(nrm 128 r37.rest),r37.n⟩:qG7)).bind fun r38 =>
    gd (((!decide (r34.2=(0:Int))) || (!decide (r36.2.1=(0:Int))))=false→qAc ((2:Int)*(r36.1.length:Int))) <|
    bif ((!decide (r34.2=(0:Int))) || (!decide (r36.2.1=(0:Int)))) then (
     some false)
    else (
     (qGe r35).bind fun r39 =>
     bif (!decide (((2:Int)*(r36.1.length:Int))=r39)) then (
      some false)
     else (
      (qGe r35).bind fun r40 =>
      bif (!decide ((r38.2.length:Int)=r40)) then (
       some false)
      else (
       (zck_p0 (0:Int) r36.1 r38.2).bind fun o41=>(Sum.elim (fun (o41_0:Bool) =>
        some o41_0) (fun (o41_1:Unit) =>
        (zam_s a other).bind fun r42 =>
        some ((decide (r42.2=(0:Int))) && (decide ((r42.1.size:Int)=(r34.1.size:Int)))))) o41))))
   else (
    bif decide (r35=(2:Int)) then (
     gd (0≤(0:Int)∧(0:Int)<((1:Nat):Int)) <|
     (zcg_s (⟨r35,(nrm 8 ([]:List Int)),(nrm 8 shaS384),(nrm 128 ([]:List Int)),(0:Int)⟩:qG7) (qA4 text)).bind fun r43 =>
     gd (qAc ((0:Int)+(1:Int))) <|
     (zcf_s (⟨r43.hash,(nrm 8 r43.short),(nrm 8 r43.long),(nrm 128 r43.rest),r43.n⟩:qG7)).bind fun r44 =>
     gd (((!decide (r34.2=(0:Int))) || (!decide (r36.2.1=(0:Int))))=false→qAc ((2:Int)*(r36.1.length:Int))) <|
     bif ((!decide (r34.2=(0:Int))) || (!decide (r36.2.1=(0:Int)))) then (
      some false)
     else (
      (qGe r35).bind fun r45 =>
      bif (!decide (((2:Int)*(r36.1.length:Int))=r45)) then (
       some false)
      else (
       (qGe r35).bind fun r46 =>
       bif (!decide ((r44.2.length:Int)=r46)) then (
        some false)
       else (
        (zck_p0 (0:Int) r36.1 r44.2).bind fun o47=>(Sum.elim (fun (o47_0:Bool) =>
         some o47_0) (fun (o47_1:Unit) =>
         (zam_s a other).bind fun r48 =>
         some ((decide (r48.2=(0:Int))) && (decide ((r48.1.size:Int)=(r34.1.size:Int)))))) o47))))
    else (
     bif decide (r35=(3:Int)) then (
      gd (0≤(0:Int)∧(0:Int)<((1:Nat):Int)) <|
      (zcg_s (⟨r35,(nrm 8 ([]:List Int)),(nrm 8 shaS512),(nrm 128 ([]:List Int)),(0:Int)⟩:qG7) (qA4 text)).bind fun r49 =>
      gd (qAc ((0:Int)+(1:Int))) <|
      (zcf_s (⟨r49.hash,(nrm 8 r49.short),(nrm 8 r49.long),(nrm 128 r49.rest),r49.n⟩:qG7)).bind fun r50 =>
      gd (((!decide (r34.2=(0:Int))) || (!decide (r36.2.1=(0:Int))))=false→qAc ((2:Int)*(r36.1.length:Int))) <|
      bif ((!decide (r34.2=(0:Int))) || (!decide (r36.2.1=(0:Int)))) then (
       some false)
      else (
       (qGe r35).bind fun r51 =>
       bif (!decide (((2:Int)*(r36.1.length:Int))=r51)) then (
        some false)
       else (
        (qGe r35).bind fun r52 =>
        bif (!decide ((r50.2.length:Int)=r52)) then (
         some false)
        else (
         (zck_p0 (0:Int) r36.1 r50.2).bind fun o53=>(Sum.elim (fun (o53_0:Bool) =>
          some o53_0) (fun (o53_1:Unit) =>
          (zam_s a other).bind fun r54 =>
          some ((decide (r54.2=(0:Int))) && (decide ((r54.1.size:Int)=(r34.1.size:Int)))))) o53))))
     else (
      gd (((!decide (r34.2=(0:Int))) || (!decide (r36.2.1=(0:Int))))=false→qAc ((2:Int)*(r36.1.length:Int))) <|
      bif ((!decide (r34.2=(0:Int))) || (!decide (r36.2.1=(0:Int)))) then (
       some false)
      else (
       (qGe r35).bind fun r55 =>
       bif (!decide (((2:Int)*(r36.1.length:Int))=r55)) then (
        some false)
       else (
        (qGe r35).bind fun r56 =>
        bif (!decide ((0:Int)=r56)) then (
         some false)
        else (
         (zck_p0 (0:Int) r36.1 []).bind fun o57=>(Sum.elim (fun (o57_0:Bool) =>
          some o57_0) (fun (o57_1:Unit) =>
          (zam_s a other).bind fun r58 =>
          some ((decide (r58.2=(0:Int))) && (decide ((r58.1.size:Int)=(r34.1.size:Int)))))) o57))))))))
def zck_i18_i41_G:Nat→Option CQ:=tblQ []
theorem zck_i18_i41_Gok:∀f C,zck_i18_i41_G f=some C→qAe Tryd.prog f C:=fun f C h=>by cases h
def zck_i18_i41:CQ:=inlQ zck_i18_i41_G 8 27 sha_New_41_iq [.tmp 2]
theorem zck_i18_i41_ok:qAe Tryd.prog 41 zck_i18_i41:=inl_valid sha_New_41_ichk (by kernel_rfl) 8 zck_i18_i41_Gok (by kernel_rfl)
def zck_i18_G:Nat→Option CQ:=tblQ [(41,zck_i18_i41),(42,zcg_w),(43,zcf_w)]
theorem zck_i18_Gok:∀f C,zck_i18_G f=some C→qAe Tryd.prog f C:=qAr ⟨zck_i18_i41_ok,zcg_ok,zcf_ok,tV⟩
def zck_i18:CQ:=inlQ zck_i18_G 15 24 sha_Sum_18_iq [.tmp 4]
theorem zck_i18_ok:qAe Tryd.prog 18 zck_i18:=inl_valid sha_Sum_18_ichk (by kernel_rfl) 15 zck_i18_Gok (by kernel_rfl)
def zck_G:Nat→Option CQ:=tblQ [(15,zcl_w),(6,zam_w),(16,zcm_w),(17,zaa_w),(18,zck_i18),(19,zce_w)]
def zck_d0:=(dQS (qAa (dSO 0 dZ) (qAa (dSO 2 dS) (qAa (dSO 7 dS) (qAa (dSO 10 (dO 0)) (qAa (dSO 13 (dO 1)) (qAa (dSO 14 dZ) dNil)))))) (qAa (dRow .u8 5) (qAa (dVrow .u8) dNil)))
def zck_l0:SubQ:=mkL zck_d0 (fun x=>zck_p0 x.1.2.2.2.2.2.1 x.2.1 x.2.2.1) fun x r R kn kx kr=>(Sum.elim (fun (r_0:Bool)=>kr ⟨[sL 6 (.vB r_0)],[],[]⟩) (fun (r_1:Unit)=>kx 0 ⟨[sL 0 (.vI x.1.1),sL 2 (.vS x.1.2.1),sL 7 (.vS x.1.2.2.1)],[],[]⟩)) r
def zck_L:Nat→SubQ:=tblL [(0,zck_l0)]
theorem zck_sub0:qBe zck_L zck_G 0 17 97 0 zck_b0:=qAo (show zck_L 0=zck_l0 from by kernel_rfl) fun x R kn kx kr=>qAl (step:=fun y=>qD2 y x.2.1 x.2.2.1) (enc:=fun (y:Int)=>zck_d0.e ((x.1.1,x.1.2.1,x.1.2.2.1,x.1.2.2.2.1,x.1.2.2.2.2.1,y,x.1.2.2.2.2.2.2),x.2)) (fun y=>by kernel_rfl) (fun y ki=>by simp only [qD2,-eq_self,sZ]; kernel_rfl) x.1.2.2.2.2.2.1
def zck_c:CS:=mkC (qAa (dVC (dCO dZ)) (qAa (dVC (dCO dS)) (qAa (dVC (dCO dS)) dNil))) dNil (fun x y=>zck_s x.1 x.2.1 x.2.2.1) (fun x y r=>.c (.o (.vB r))) fun x y r=>[]
theorem zck_val:qAh Tryd.prog 5 zck_c:=vl1 zck_q [.tmp 6] 97 17 0 (show qA3 zck_L zck_G 0 17 97 [(0,zck_b0)] from ⟨zck_sub0,tV⟩) (qAr ⟨zcl_ok,zam_ok,zcm_ok,zaa_ok,zck_i18_ok,zce_ok,tV⟩) fun x y=>by
 simp only [zck_s,-eq_self,sZ];kernel_rfl
end
theorem l_hash (a:Int):zcm_s a=some (hsh a):=by
 rcases alg_cases a with rfl | rfl | rfl | rfl | rfl | rfl | rfl | rfl | rfl | rfl | rfl | rfl | ⟨h1,h2,h3,h4,h5,h6,h7,h8,h9,h10,h11,h12⟩ <;> try rfl
 unfold zcm_s zcm_p0 zcm_p1 hsh;simp [h1,h2,h3,h4,h5,h6,h7,h8,h9,h10,h11,h12]
theorem same_loop (S:List Int) (k:Nat) (hk:k≤S.length) (hs:S.length≤1000000):∀(j i:Nat),i+j=k→zck_p0 (i:Int) (S.take k) S=some (.inr ())
 | 0,i,h=>by
  have hl:(S.take k).length=k:=by rw [List.length_take]; omega
  unfold zck_p0;refine qAj ?_;unfold qD2;rw [hl,deF (by omega),cnF]
 | j+1,i,h=>by
  have hl:(S.take k).length=k:=by rw [List.length_take]; omega
  have hst:qD2 (i:Int) (S.take k) S=some (.inl ((i+1:Nat):Int)):=by
   unfold qD2;have e:(S.take k).getD i (ET.dft .u8)=S.getD i (ET.dft .u8):=by
    simp only [List.getD_eq_getElem?_getD];rw [List.getElem?_take_of_lt (by omega)]
   rw [hl,deT (by omega),cnT,qAb (by omega),qAb (by omega),qAb (by omega),qAb (by omega),Int.toNat_natCast,e,deT rfl,Bool.not_true,cnF];exact qAb (by unfold qAc; omega) _
  have ih:=same_loop S k hk hs j (i+1) (by omega);unfold zck_p0 at ih ⊢;rw [qAu hst];exact ih
theorem halfT_size (a:Int) (t u:BA):(halfT a t).size=(halfT a u).size:=by
 unfold halfT;rcases hsh_cases a with h | h
 ·rw [h]; rfl
 ·rw [deF (by omega),cnF,cnF,encB_size,encB_size];refine encN_same _ _ ?_;unfold toN;rw [List.length_take,List.length_take,List.length_map,List.length_map,sumT_len h,sumT_len h]
theorem law_core {s:qG7} (hh:s.hash=1∨s.hash=2∨s.hash=3) (h0:s.n=0) (b:List Int) {R:Option Bool} (hR:R=some true) :
  ((zcg_s s b).bind fun r37=>gd (qAc ((0:Int)+(1:Int))) <| (zcf_s (⟨r37.hash,(nrm 8 r37.short),(nrm 8 r37.long),(nrm 128 r37.rest),r37.n⟩:qG7)).bind fun r38 =>
    gd (((!decide ((0:Int)=(0:Int))) || (!decide ((0:Int)=(0:Int))))=false→qAc ((2:Int)*(((shaS (shaW s b)).take (sumZ s.hash / 2)).length:Int))) <|
    bif ((!decide ((0:Int)=(0:Int))) || (!decide ((0:Int)=(0:Int)))) then (
     some false)
    else (
     (qGe s.hash).bind fun r39 =>
     bif (!decide (((2:Int)*(((shaS (shaW s b)).take (sumZ s.hash / 2)).length:Int))=r39)) then (
      some false)
     else (
      (qGe s.hash).bind fun r40 =>
      bif (!decide ((r38.2.length:Int)=r40)) then (
       some false)
      else (
       (zck_p0 (0:Int) ((shaS (shaW s b)).take (sumZ s.hash / 2)) r38.2).bind fun o41=>(Sum.elim (fun (o41_0:Bool) =>
        some o41_0) (fun (o41_1:Unit)=>R)) o41))))=some true:=by
 obtain ⟨h1,h2,h3⟩:=shaW_st (s:=s) (by omega) (by omega) b;have hl:=shaS_len (shaW s b) (by rw [h3]; exact hh) h1 h2;rw [h3] at hl;have hz:=sumZ_le s.hash;have hev:sumZ s.hash % 2=0:=by rcases hh with h | h | h <;> rw [h] <;> decide
 rw [p_Write s b hh (by omega) (by omega),obS,qAb (by unfold qAc; decide)];rw [show (⟨(shaW s b).hash,nrm 8 (shaW s b).short,nrm 8 (shaW s b).long,nrm 128 (shaW s b).rest,(shaW s b).n⟩:qG7)=nrmS (shaW s b) from rfl,p_Sum (nrmS (shaW s b)) (by show (shaW s b).hash=1∨(shaW s b).hash=2∨(shaW s b).hash=3; rw [h3]; exact hh) h1 h2,obS,p_Size,shaS_nrm];dsimp only;generalize shaS (shaW s b)=S at hl ⊢
 have ht:((S.take (sumZ s.hash / 2)).length:Int)=((sumZ s.hash / 2:Nat):Int):=by rw [List.length_take,hl]; omega
 have hlp:=same_loop S (sumZ s.hash / 2) (by omega) (by omega) (sumZ s.hash / 2) 0 (by omega);rw [ht,hl,show zck_p0 (0:Int) (S.take (sumZ s.hash / 2)) S=some (.inr ()) from hlp];rw [qAb (fun _=>by unfold qAc; omega),obS,obS,obS,deT (show 2*((sumZ s.hash / 2:Nat):Int)=(sumZ s.hash:Int) by omega)];simp only [decide_true,Bool.not_true,Bool.or_self,cnF,obS,Sum.elim_inr];exact hR
theorem idHalf_plain (a:Int) (text other:BA):zck_s a text other=some true:=by
 have hsz:=halfT_size a other text;have hdec:hsh a≠0→zaa_s (halfT a text)=some ((sumT (hsh a) text).take (sumZ (hsh a) / 2),0,0):=fun h=>by
  have hb:Byt (sumT (hsh a) text):=shaS_byt _;have ht:Byt ((sumT (hsh a) text).take (sumZ (hsh a) / 2)):=fun x hx=>hb x (List.mem_of_mem_take hx)
  have hz:=sumZ_le (hsh a);unfold halfT;rw [deF h,cnF,←toN_take,p_Decode (toN_byte ht) (by unfold toN; rw [List.length_map,List.length_take]; omega),nI_toN ht]
 unfold zck_s;rw [awake_is,obS,Bool.not_true,cnF,p_Half a text,obS,l_hash,obS,p_Half a other];by_cases h0:hsh a=0
 ·unfold halfT;rw [h0];rfl
 ·rw [hdec h0];have hR:(Option.bind (some (halfT a other,bif decide (hsh a=0) then (111:Int) else 0)) fun r42=>some ((decide (r42.2=(0:Int))) && (decide ((r42.1.size:Int)=((halfT a text).size:Int)))))=some true:=by
   rw [obS,deF h0,cnF,hsz];simp
  simp only [deF h0,cnF,obS] at hR ⊢;rcases hsh_cases a with h | h | h | h
  ·exact (h0 h).elim
  ·rw [h];have:=law_core (s:=stS 1) (.inl rfl) rfl (qA4 text) hR;rw [deT rfl,cnT,qAb (by decide)];exact this
  ·rw [h];have:=law_core (s:=stS 2) (.inr (.inl rfl)) rfl (qA4 text) hR;rw [deF (by decide),cnF,deT rfl,cnT,qAb (by decide)];exact this
  ·rw [h];have:=law_core (s:=stS 3) (.inr (.inr rfl)) rfl (qA4 text) hR;rw [deF (by decide),cnF,deF (by decide),cnF,deT rfl,cnT,qAb (by decide)];exact this
end Go.Proofs.YtlmfmmgfiffjiaaDoor
namespace Go.Eng
open Go.RowKit
theorem reach_of {x:Nat} (h:decide (x≤reachBytes)=true):x≤140737488351232:=by
 have h2:=of_decide_eq_true h;exact h2
theorem size_of_weights {H:Type} {P:Program} {T:TypeId} {s:BA} (h:∀x∈(DataW.lit (.string s.data.toList):DataW H).weights P T,x≤140737488351232):s.size≤140737488351232:=by
 have h2:=h s.data.toList.length (by simp only [DataW.weights]; exact List.mem_singleton.2 rfl);rw [Array.length_toList] at h2;exact h2
theorem i64_of_wf {a:Int} (h:(Lit.int .i64 a).wf=true) : -9223372036854775808≤a∧a≤9223372036854775807:=by
 simp [Lit.wf,IntKind.min,IntKind.max,IntKind.signed,IntKind.bits] at h;exact h
structure LowB (w w':World):Prop where
 os:w'.os=w.os
 output:w'.output=w.output
 size:w.heap.size≤w'.heap.size
 block:∀k,k<w.heap.size→w'.heap[k]?=w.heap[k]?
theorem lowB_of_stays {w w':World} (h:Stays (fun _=>False) w w'):LowB w w':=⟨h.os,h.output,h.size,fun k hk=>h.block k hk id⟩
theorem LowB.frame {W w':World} (h:LowB W w') (may:MemPlace→Prop):W.keptBut w' may:=by
 refine ⟨h.os,h.output,fun i hi=>?_⟩;rw [h.block i hi];split <;> simp_all
theorem LowB.same {W w':World} (h:LowB W w') {p:MemPlace} (hp:p.block<W.heap.size):W.sameAt w' p:=by
 cases p with
 | cell b o=>exact World.cell?_of_block (w:=W) (h.block b hp)
 | map b=>exact h.block b hp
theorem LowB.trod {H:Type} {enc:TypeId × Value→H} {P:Program} {t:TypeId} (hl:laidOutB P=true) (hr:P.readableRec t=true) (hrow:t<P.types.size) {W W':World} {v:Value} {d:DataW H} {ps:List MemPlace}
  (h:DataW.Trod enc P W 0 (fun _=>true) true t v d ps) (hb:LowB W W') (hlt:∀x∈ps,x.block<W.heap.size) :
  DataW.Trod enc P W' 0 (fun b=>decide (b<W.heap.size)) true t v d ps :=
 WideElems.Trod_stays hl hr hrow h (fun x hx=>hb.same (hlt x hx)) (fun x hx=>by simpa using hlt x hx)
theorem callS {P:Program} {f:Nat} {C:CS} (h:qAh P f C) {args:List SV} {v:SV} (hc:C args [] (SV × List SB) (fun v hp'=>some (v,hp'))=some (v,[])) (hs:args.all SV.shut=true) (hv:v.shut=true) (w:World) (ht:tabOK noX w) (vs:List Value) (hvs:args.map (SV.den fun _=>undef)=vs) :
  Calls P f vs.toArray w fun e w'=>e=.returned (v.den fun _=>undef)∧LowB w w':=by
 have:=h.2 args [] v [] hc (fun v hv=>SV.shut_lt (List.all_eq_true.1 hs v hv) _) noX w (fun _=>undef) (HpSat.nil _ _ ht _);rw [hvs] at this;exact this.mono fun e w' ⟨ρ',_,_,a,_,_,b⟩=>⟨by rw [a,SV.shut_den hv ρ' fun _=>undef],lowB_of_stays b⟩
end Go.Eng
namespace Go.Proofs
open Go.Shelf
shelf_lay Lays.n260 Nm 260 at Tryd as Tryd.laysSlow
end Go.Proofs
namespace Go.Proofs.YtlmfmmgfiffjiaaDoor
open Go.Eng Go.Shelf
theorem first_data:(Rows.laid_unicode_utf8_first:DataW Unit)=Lib.firstData:=by kernel_rfl
theorem accept_data:(Rows.laid_unicode_utf8_acceptRanges:DataW Unit)=Lib.acceptData:=by kernel_rfl
theorem arr_reads {W:World} {name:String} {g:Nat} {t e:TypeId} {n:Nat} {k:IntKind} {l:List Int} (hg:Tryd.prog.globalNamed name=some g) (hty:(Tryd.prog.globals[g]?).map (·.type)=some t)
  (ht:Tryd.prog.underlying t=some (.array n e)) (he:Tryd.prog.underlying e=some (.int k)) (hce:Tryd.prog.cellsOf e=1) (hct:Tryd.prog.cellsOf t=n) (h:Lib.VarReads Tryd.prog W name (Lib.tabData k l)):ArrAt noX W g k l:=by
 obtain ⟨g',t',cs,fuel,p,hg',ht',hvar,hd⟩:=h;obtain rfl:=Option.some.inj (hg.symm.trans hg');obtain rfl:=Option.some.inj (hty.symm.trans ht');have hT:Lib.TabIs Tryd.prog W name k l:=by
  unfold Lib.TabIs;rw [hvar,←Lib.cells_of_tab ht he hce hct hd]
 refine ⟨fun h=>h,fun j hj=>?_⟩;rw [hT.cell hg j hj]
theorem sha_tabs {W:World} (h3:Lib.VarReads Tryd.prog W "unicode/utf8.first" Rows.laid_unicode_utf8_first) (h4:Lib.VarReads Tryd.prog W "unicode/utf8.acceptRanges" Rows.laid_unicode_utf8_acceptRanges)
  (k1:Lib.VarReads Tryd.prog W "signet/sha.k256" Rows.laid_signet_sha_k256) (k2:Lib.VarReads Tryd.prog W "signet/sha.k512" Rows.laid_signet_sha_k512) (s1:Lib.VarReads Tryd.prog W "signet/sha.start256" Rows.laid_signet_sha_start256) (s2:Lib.VarReads Tryd.prog W "signet/sha.start384" Rows.laid_signet_sha_start384) (s3:Lib.VarReads Tryd.prog W "signet/sha.start512" Rows.laid_signet_sha_start512):tabOK noX W:=by
 rw [first_data] at h3;rw [accept_data] at h4;rw [show (Rows.laid_signet_sha_k256:DataW Unit)=Lib.tabData .u32 shaK256 by kernel_rfl] at k1;rw [show (Rows.laid_signet_sha_k512:DataW Unit)=Lib.tabData .u64 shaK512 by kernel_rfl] at k2;rw [show (Rows.laid_signet_sha_start256:DataW Unit)=Lib.tabData .u32 shaS256 by kernel_rfl] at s1;rw [show (Rows.laid_signet_sha_start384:DataW Unit)=Lib.tabData .u64 shaS384 by kernel_rfl] at s2;rw [show (Rows.laid_signet_sha_start512:DataW Unit)=Lib.tabData .u64 shaS512 by kernel_rfl] at s3;exact ⟨⟨arr_reads (t:=102) (e:=96) (n:=64) (by kernel_rfl) (by kernel_rfl) (by kernel_rfl) (by kernel_rfl) (by kernel_rfl) (by kernel_rfl) k1,
  arr_reads (t:=104) (e:=79) (n:=80) (by kernel_rfl) (by kernel_rfl) (by kernel_rfl) (by kernel_rfl) (by kernel_rfl) (by kernel_rfl) k2,
  arr_reads (t:=97) (e:=96) (n:=8) (by kernel_rfl) (by kernel_rfl) (by kernel_rfl) (by kernel_rfl) (by kernel_rfl) (by kernel_rfl) s1,
  arr_reads (t:=80) (e:=79) (n:=8) (by kernel_rfl) (by kernel_rfl) (by kernel_rfl) (by kernel_rfl) (by kernel_rfl) (by kernel_rfl) s2,
  arr_reads (t:=80) (e:=79) (n:=8) (by kernel_rfl) (by kernel_rfl) (by kernel_rfl) (by kernel_rfl) (by kernel_rfl) (by kernel_rfl) s3⟩,
  utf8Tabs_of_reads Tryd.laysSlow ⟨by kernel_rfl,by kernel_rfl,by kernel_rfl,by kernel_rfl,by kernel_rfl,by kernel_rfl,by kernel_rfl⟩ h3 h4,fun h=>h,fun h=>h⟩
end Go.Proofs.YtlmfmmgfiffjiaaDoor
namespace Go.Proofs.YtlmfmmgfiffjiaaDoor
open Go.Eng
theorem idHalf_tabs {W:World} (h:laidMetH Tryd.prog Rows.idHalfRow.laid W):tabOK noX W:=by
 have h':laidMet Tryd.prog Rows.idHalfRow.laid W:=h;have r:=fun {n d} hm=>Lib.laidMet.reads h' (n:=n) (d:=d) hm
 refine sha_tabs (r ?_) (r ?_) (r ?_) (r ?_) (r ?_) (r ?_) (r ?_) <;> (show _∈[_,_,_,_,_,_,_]; simp only [List.mem_cons,true_or,or_true])
theorem idHalf_walk (i0:Int) (s1 s2:BA) (W:World) (h0 : -9223372036854775808≤i0∧i0≤9223372036854775807) (h1:s1.size≤140737488351232) (h2:s2.size≤140737488351232) (hT:tabOK noX W) :
  Calls Tryd.prog 5 #[.int .i64 i0,.string s1,.string s2] W fun e w'=>e=.returned (.bool true)∧LowB W w':=by
 refine callS zck_val (args:=[.c (.o (.val (.int .i64 i0))),.c (.o (.val (.string s1))),.c (.o (.val (.string s2)))]) (v:=.c (.o (.val (.bool true)))) ?_ rfl rfl W hT [.int .i64 i0,.string s1,.string s2] rfl;show ((zck_s i0 s1 s2).bind fun r=>some ((.c (.o (.val (.bool r))),[]):SV × List SB))=_;rw [idHalf_plain i0 s1 s2];rfl
end Go.Proofs.YtlmfmmgfiffjiaaDoor
