/-
  JsonReads: its call returns true.
-/
import Derived.Below
import Derived.Carry
import Derived.Lib.LaidU8
import Derived.Shelf.Lay
import Derived.Ground.NamesProg
import Derived.Test.YtdcoiccdbgcpaaaDoorPLexS
import Derived.Test.YtdcoiccdbgcpaaaDoorPReadR
import Derived.Test.YtdcoiccdbgcpaaaDoorEngO
import Derived.Test.YtdcoiccdbgcpaaaDoorProg
import Derived.Test.YtdcoiccdbgcpaaaDoorPSpec
import Derived.Test.YtdcoiccdbgcpaaaDoorGC
import Derived.Test.YtdcoiccdbgcpaaaDoorPShaped
import Derived.Test.YtdcoiccdbgcpaaaDoorJP
import Derived.Test.YtdcoiccdbgcpaaaDoorJQ
import Derived.Test.YtdcoiccdbgcpaaaDoorEngN
import Derived.Test.YtdcoiccdbgcpaaaDoorRows
namespace Go.Proofs.YtdcoiccdbgcpaaaDoor
open Go.Eng
set_option linter.unusedVariables false
set_option linter.unusedSimpArgs false
noncomputable def toldF (t:ByteArray) (o:(Int × Int × (List Eng.Node)) ⊕ (ByteArray × Int × Int × ByteArray × Int × Int × (List Eng.Node) × (List Int) × (List (MapC × Unit)))):Option ((List Eng.Node) × Int × Int) :=
 (Sum.elim (fun (o31_0:Int × Int × (List Eng.Node)) =>
   some (o31_0.2.2,o31_0.1,o31_0.2.1)) (fun (o31_1:ByteArray × Int × Int × ByteArray × Int × Int × (List Eng.Node) × (List Int) × (List (MapC × Unit))) =>
   bif (!decide (o31_1.2.2.1=(6:Int))) then (
    some ([],(31:Int),(t.size:Int)))
   else (
    some (o31_1.2.2.2.2.2.2.1,(0:Int),(0:Int))))) o
noncomputable def told (t:ByteArray) (S:json_reader):Option ((List Eng.Node) × Int × Int) :=
 (zaf_p0 t S.text S.at_ S.state S.key S.code S.bad S.out S.open_ S.names).bind fun o=>toldF t o
variable {t:ByteArray} (hs:t.size≤1000000) {st:Int} {out:List Eng.Node} {op:List Int} {nm:List (MapC × Unit)} {key:ByteArray} {cd bd:Int}
theorem told_end {a:Nat} (ha:t.size≤a):told t ⟨t,(a:Int),st,out,op,nm,key,cd,bd⟩=some (if st=6 then (out,0,0) else ([],31,(t.size:Int))):=by
 unfold told zaf_p0
 rw [qAm (o:=.inr (t,(a:Int),st,key,cd,bd,out,op,nm)) (by
  show qBv t t (a:Int) st key cd bd out op nm=_
  unfold qBv
  rw [deF (by omega),cnF])]
 rw [obS]
 show (bif (!decide (st=(6:Int))) then _ else _)=_
 by_cases h:st=6
 ·rw [deT h,if_pos h]
  rfl
 ·rw [deF h,if_neg h]
  rfl
theorem qEa {a:Nat} (ha:a<t.size) {g:json_reader × Bool} (h:zay_s ⟨t,(a:Int),st,out,op,nm,key,cd,bd⟩=some g) (hg:g.2=false):told t ⟨t,(a:Int),st,out,op,nm,key,cd,bd⟩=some ([],g.1.code,g.1.bad):=by
 unfold told zaf_p0
 rw [qAm (o:=.inl (g.1.code,g.1.bad,[])) (by
  show qBv t t (a:Int) st key cd bd out op nm=_
  unfold qBv
  rw [deT (by omega),cnT,h,obS,hg]
  rfl)]
 rfl
include hs in
theorem told_on {a b:Nat} (ha:a<t.size) {st':Int} {out':List Eng.Node} {op':List Int} {nm':List (MapC × Unit)} {key':ByteArray} {cd' bd':Int}
  (h:zay_s ⟨t,(a:Int),st,out,op,nm,key,cd,bd⟩=some (⟨t,(b:Int),st',out',op',nm',key',cd',bd'⟩,true)) :
  told t ⟨t,(a:Int),st,out,op,nm,key,cd,bd⟩=told t ⟨t,(skipS t b:Int),st',out',op',nm',key',cd',bd'⟩:=by
 unfold told zaf_p0
 rw [qAx (y:=(t,(skipS t b:Int),st',key',cd',bd',out',op',nm')) (by
  show qBv t t (a:Int) st key cd bd out op nm=_
  unfold qBv
  rw [deT (by omega),cnT,h,obS]
  show (zaj_s _).bind _=_
  rw [p_blank st' out' op' nm' key' cd' bd' t (by omega),obS])]
theorem nextC_in {a:Nat} (ha:a<t.size):nextC t a=bAt t a:=by unfold nextC; rw [if_pos ha]
theorem st_val {a:Nat} (ha:a<t.size) (hst:st=0∨(st=1∧bAt t a≠93)) {g:json_reader × Bool} (h:zba_s ⟨t,(a:Int),st,out,op,nm,key,cd,bd⟩ (bAt t a)=some g) :
  zay_s ⟨t,(a:Int),st,out,op,nm,key,cd,bd⟩=some g:=by
 unfold zay_s
 rw [qDq,obS,nextC_in ha]
 dsimp only
 rcases hst with rfl | ⟨rfl,h93⟩
 ·rw [deF (by decide),cnF,deT rfl,cnT,h]
  rfl
 ·rw [deT rfl,cnT,deF h93,cnF,h]
  rfl
theorem p_begin_deep {a:Nat} (c:Int) (ho:op.length=32):zah_s ⟨t,(a:Int),st,out,op,nm,key,cd,bd⟩ c=some (⟨t,(a:Int),st,out,op,nm,key,11,(a:Int)⟩,false):=by
 unfold zah_s
 rw [deT (show (op.length:Int)=32 by omega),cnT,p_fail]
 rfl
theorem p_begin {a:Nat} (ha:a≤3000000) {c:Int} (obj:Bool) (hc:decide (c=123)=obj) (hop:TopOK op out) (ho:op.length<32) (hnm:nm.length≤100) (hl:out.length≤3000000) :
  zah_s ⟨t,(a:Int),st,out,op,nm,key,cd,bd⟩ c=some (⟨t,((a+1:Nat):Int),bif obj then 3 else 1,layO op out key (nd0 (kindC obj) ⟨#[]⟩ false 0 0),op++[(out.length:Int)],nm++[((bif obj then some [] else none:MapC),())],⟨#[]⟩,cd,bd⟩,true):=by
 have lay:∀(st:Int) (k:Int) (names:MapC),zah_p0 t ((a+1:Nat):Int) st key cd bd out op nm k (⟨#[]⟩:ByteArray) (⟨#[]⟩:ByteArray) false (0:Int) (0:Int) names =
   some (true,t,((a+1:Nat):Int),st,⟨#[]⟩,cd,bd,layO op out key (nd0 k ⟨#[]⟩ false 0 0),op++[(out.length:Int)],nm++[(names,())]):=by
  intro st k names
  unfold zah_p0
  rw [p_lay st out op nm key cd bd t _ _ hop (by omega) hl,obS]
  dsimp only
  have e:((layO op out key (⟨k,⟨#[]⟩,⟨#[]⟩,false,0,0⟩:Eng.Node)).length:Int) - 1=(out.length:Int):=by rw [layO_len]; omega
  rw [e,qAa (by unfold InI64; omega),qAa (by simp only [List.length_cons,List.length_nil]; omega),qAa (by simp only [List.length_cons,List.length_nil]; omega)]
  rfl
 unfold zah_s
 dsimp only
 rw [deF (show ¬(op.length:Int)=32 by omega),cnF,qAa (by unfold InI64; omega),show (a:Int)+1=((a+1:Nat):Int) by omega,hc]
 cases obj with
 | true =>
  rw [cnT,lay]
  rfl
 | false =>
  rw [cnF,lay]
  rfl
theorem p_end {a:Nat} (ha:a≤3000000) (x:Int) (m:MapC × Unit) (ho:op.length≤100) (hnm:nm.length≤100) :
  zal_s ⟨t,(a:Int),st,out,op++[x],nm++[m],key,cd,bd⟩=some (⟨t,((a+1:Nat):Int),stB op,out,op,nm,key,cd,bd⟩,true):=by
 unfold zal_s
 dsimp only
 have e1:((op++[x]).length:Int) - 1=(op.length:Int):=by rw [List.length_append,List.length_singleton]; omega
 have e2:((nm++[m]).length:Int) - 1=(nm.length:Int):=by rw [List.length_append,List.length_singleton]; omega
 rw [e1,e2,qAa (by unfold InI64; omega),qAa (by unfold InI64; omega),qAa (by unfold InI64; omega),qAa (by rw [List.length_append]; omega),qAa (by rw [List.length_append]; omega),Int.toNat_natCast,Int.toNat_natCast,List.take_left' rfl,List.take_left' rfl,p_behind,obS]
 rfl
theorem st_end {a:Nat} (ha:a<t.size) (hs:t.size≤1000000) (obj:Bool) (hc:bAt t a=lastC obj) (x:Int) (m:MapC × Unit) (ho:op.length≤100) (hnm:nm.length≤100) :
  zay_s ⟨t,(a:Int),bif obj then 3 else 1,out,op++[x],nm++[m],key,cd,bd⟩=some (⟨t,((a+1:Nat):Int),stB op,out,op,nm,key,cd,bd⟩,true):=by
 unfold zay_s
 rw [qDq,obS,nextC_in ha]
 dsimp only
 cases obj with
 | true =>
  have hc:bAt t a=125:=hc
  rw [cnT,deF (by decide),cnF,deF (by decide),cnF,deT rfl,cnT,deT hc,cnT,p_end (by omega) x m ho hnm]
  rfl
 | false =>
  have hc:bAt t a=93:=hc
  rw [cnF,deT rfl,cnT,deT hc,cnT,p_end (by omega) x m ho hnm]
  rfl
theorem st_more {a:Nat} (ha:a<t.size) (hs:t.size≤1000000) (obj:Bool) {p:Nat} (m:MapC × Unit) (ho:op.length≤100) (hnm:nm.length≤100) (hp:p<out.length) (hk:(out.getD p (ET.dft .node)).kind=kindC obj) :
  zay_s ⟨t,(a:Int),5,out,op++[(p:Int)],nm++[m],key,cd,bd⟩ =
   if bAt t a=lastC obj then some (⟨t,((a+1:Nat):Int),stB op,out,op,nm,key,cd,bd⟩,true)
   else if bAt t a=44 then some (⟨t,((a+1:Nat):Int),bif obj then 2 else 0,out,op++[(p:Int)],nm++[m],key,cd,bd⟩,true)
   else some (⟨t,(a:Int),5,out,op++[(p:Int)],nm++[m],key,31,(a:Int)⟩,false):=by
 unfold zay_s
 rw [qDq,obS,nextC_in ha]
 dsimp only
 rw [deF (by decide),cnF,deF (by decide),cnF,deF (by decide),cnF,deF (by decide),cnF,deF (by decide),cnF,deT rfl,cnT]
 unfold zaq_s
 dsimp only
 have hlen:(op++[(p:Int)]).length=op.length+1:=by simp
 rw [snocI_toNat,snocI_getD,Int.toNat_natCast,hk]
 rw [qAa (by rw [hlen]; unfold InI64; omega),qAa (by rw [hlen]; omega),qAa (by rw [hlen]; omega),qAa (by omega),qAa hp,qAa hp]
 cases obj with
 | true =>
  rw [show lastC true=125 from rfl,show decide (kindC true=7)=true from rfl,Bool.and_true,Bool.and_true,Bool.not_true,Bool.and_false,Bool.or_false]
  by_cases h1:bAt t a=125
  ·rw [if_pos h1,deF (by omega),cnF,cnF,deT h1,cnT,p_end (by omega) _ m ho hnm]
   rfl
  ·rw [if_neg h1]
   by_cases h2:bAt t a=44
   ·rw [if_pos h2,deT h2,cnT,qAa (by unfold InI64; omega),show (a:Int)+1=((a+1:Nat):Int) by omega]
    rfl
   ·rw [if_neg h2,deF h2,cnF,cnF,deF h1,cnF,p_odd]
    rfl
 | false =>
  rw [show lastC false=93 from rfl,show decide (kindC false=7)=false from rfl,Bool.and_false,Bool.and_false,Bool.not_false,Bool.and_true,Bool.false_or,cnF]
  by_cases h1:bAt t a=93
  ·rw [if_pos h1,deF (by omega),cnF,deT h1,cnT,p_end (by omega) _ m ho hnm]
   rfl
  ·rw [if_neg h1]
   by_cases h2:bAt t a=44
   ·rw [if_pos h2,deT h2,cnT,qAa (by unfold InI64; omega),show (a:Int)+1=((a+1:Nat):Int) by omega]
    rfl
   ·rw [if_neg h2,deF h2,cnF,deF h1,cnF,p_odd]
    rfl
theorem st_name {a:Nat} (ha:a<t.size) (hst:st=2∨(st=3∧bAt t a≠125)) {g:json_reader × Bool} (h:bAt t a=34→zar_s ⟨t,(a:Int),st,out,op,nm,key,cd,bd⟩=some g) (hg:g.1.out=out∧g.1.open_=op) :
  zay_s ⟨t,(a:Int),st,out,op,nm,key,cd,bd⟩=if bAt t a=34 then some g else some (⟨t,(a:Int),st,out,op,nm,key,31,(a:Int)⟩,false):=by
 have hp0:zay_p0 (bAt t a) t (a:Int) st key cd bd out op nm=if bAt t a=34 then some (g.2,g.1.text,g.1.at_,g.1.state,g.1.key,g.1.code,g.1.bad,g.1.names) else some (false,t,(a:Int),st,key,31,(a:Int),nm):=by
  unfold zay_p0
  by_cases h1:bAt t a=34
  ·rw [if_pos h1,deT h1,Bool.not_true,cnF,h h1]
   rfl
  ·rw [if_neg h1,deF h1,Bool.not_false,cnT,p_odd]
   rfl
 have fin:((zay_p0 (bAt t a) t (a:Int) st key cd bd out op nm).bind fun o16=>some ((⟨o16.2.1,o16.2.2.1,o16.2.2.2.1,out,op,o16.2.2.2.2.2.2.2,o16.2.2.2.2.1,o16.2.2.2.2.2.1,o16.2.2.2.2.2.2.1⟩:json_reader),o16.1))=if bAt t a=34 then some g else some (⟨t,(a:Int),st,out,op,nm,key,31,(a:Int)⟩,false):=by
  rw [hp0]
  by_cases h1:bAt t a=34
  ·rw [if_pos h1,if_pos h1,obS]
   obtain ⟨r,b⟩:=g
   obtain ⟨e1,e2⟩:=hg
   dsimp only at e1 e2 ⊢
   rw [←e1,←e2]
  ·rw [if_neg h1,if_neg h1]
   rfl
 unfold zay_s
 rw [qDq,obS,nextC_in ha]
 dsimp only
 rcases hst with rfl | ⟨rfl,h2⟩
 ·rw [deF (by decide),cnF,deF (by decide),cnF,deF (by decide),cnF,deT rfl,cnT]
  exact fin
 ·rw [deF (by decide),cnF,deF (by decide),cnF,deT rfl,cnT,deF h2,cnF]
  exact fin
theorem st_colon {a:Nat} (ha:a<t.size) (hs:t.size≤1000000):zay_s ⟨t,(a:Int),4,out,op,nm,key,cd,bd⟩ =
  if bAt t a=58 then some (⟨t,((a+1:Nat):Int),0,out,op,nm,key,cd,bd⟩,true) else some (⟨t,(a:Int),4,out,op,nm,key,31,(a:Int)⟩,false):=by
 unfold zay_s
 rw [qDq,obS,nextC_in ha]
 dsimp only
 rw [deF (by decide),cnF,deF (by decide),cnF,deF (by decide),cnF,deF (by decide),cnF,deT rfl,cnT]
 by_cases h:bAt t a=58
 ·rw [if_pos h,deT h,Bool.not_true,cnF,qAa (by unfold InI64; omega),show (a:Int)+1=((a+1:Nat):Int) by omega]
 ·rw [if_neg h,deF h,Bool.not_false,cnT,p_odd]
  rfl
theorem st_done {a:Nat} (ha:a<t.size):zay_s ⟨t,(a:Int),6,out,op,nm,key,cd,bd⟩=some (⟨t,(a:Int),6,out,op,nm,key,31,(a:Int)⟩,false):=by
 unfold zay_s
 rw [qDq,obS]
 dsimp only
 rw [deF (by decide),cnF,deF (by decide),cnF,deF (by decide),cnF,deF (by decide),cnF,deF (by decide),cnF,deF (by decide),cnF,p_odd]
 rfl
theorem snocM_getD (nm:List (MapC × Unit)) (m d:MapC × Unit):(nm++[m]).getD nm.length d=m:=by simp [List.getD_eq_getElem?_getD]
theorem snocM_set (nm:List (MapC × Unit)) (m d:MapC × Unit):(nm++[m]).set nm.length d=nm++[d]:=by
 rw [List.set_append_right _ _ (Nat.le_refl _),Nat.sub_self]
 rfl
theorem p_name {a:Nat} (ha:a<t.size) (hs:t.size≤1000000) (nmap:MapC) (hnm:nm.length≤100) {names:List ByteArray} (hR:NmR true nmap names) :
  ∃g,zar_s ⟨t,(a:Int),st,out,op,nm++[(nmap,())],key,cd,bd⟩=some g∧g.1.out=out∧g.1.open_=op∧(match quoR t (t.size+1) (a+1) [] with
   | .bad c b=>g.1.code=c∧g.1.bad=(b:Int)∧g.2=false
   | .ok b l=>if qAr l∈names then g.1.code=34∧g.1.bad=(a:Int)∧g.2=false
    else g=(⟨t,(b:Int),4,out,op,nm++[(mput nmap (qAr l) 1,())],qAr l,cd,bd⟩,true)):=by
 unfold zar_s
 obtain ⟨g,h1,h2⟩:=p_quo st out op (nm++[(nmap,())]) key cd bd t (by omega) a ha
 rw [h1,obS]
 cases h:quoR t (t.size+1) (a+1) [] with
 | bad c b =>
  rw [h] at h2
  obtain ⟨e1,e2,e3⟩:=h2
  rw [e3,Bool.not_false,cnT]
  exact ⟨_,rfl,rfl,rfl,e1,e2,rfl⟩
 | ok b l =>
  rw [h] at h2
  have h2:g=(⟨t,(b:Int),st,out,op,nm++[(nmap,())],key,cd,bd⟩,qAr l,true):=h2
  rw [h2]
  dsimp only
  have hlen:(nm++[(nmap,())]).length=nm.length+1:=by simp
  have e:Int.toNat (((nm++[(nmap,())]).length:Int) - 1)=nm.length:=by rw [hlen]; omega
  rw [Bool.not_true,cnF,e,snocM_getD,snocM_set]
  rw [qAa (by rw [hlen]; unfold InI64; omega),qAa (by rw [hlen]; omega),qAa (by rw [hlen]; omega),qAa (by rw [hlen]; omega)]
  by_cases hm:qAr l∈names
  ·rw [deT ((hR.mem _ rfl).2 hm),cnT,p_fail]
   exact ⟨_,rfl,rfl,rfl,by rw [if_pos hm]; exact ⟨rfl,rfl,rfl⟩⟩
  ·rw [deF (fun h=>hm ((hR.mem _ rfl).1 h)),cnF,qAa (by rw [hlen]; omega),qAa hR.some_]
   exact ⟨_,rfl,rfl,rfl,by rw [if_neg hm]⟩
theorem scalR_key {a b:Nat} {l:List Eng.Node} (h:scalR t a=.ok b l):setKey ⟨#[]⟩ l=l:=by
 unfold scalR at h
 repeat' split at h
 all_goals first | (cases h; rfl) | cases h
theorem valR_key:∀ {d a b:Nat} {l:List Eng.Node},valR t d a=.ok b l→setKey ⟨#[]⟩ l=l
 | 0,a,b,l,h=>by
  unfold valR at h
  split at h
  ·cases h
  ·exact scalR_key h
 | d+1,a,b,l,h=>by
  unfold valR at h
  split at h
  ·unfold boxR at h
   split at h
   ·cases h; rfl
   ·split at h
    ·cases h
    ·cases h; rfl
  ·exact scalR_key h
def ValSim (t:ByteArray) (d:Nat):Prop:=∀(a:Nat) (st:Int) (out:List Eng.Node) (op:List Int) (nm:List (MapC × Unit)) (key:ByteArray) (cd bd:Int),a≤t.size→(st=0∨(st=1∧bAt t a≠93))→op.length+d=32→nm.length=op.length→TopOK op out→out.length≤a →
 match valR t d a with
 | .bad c b=>told t ⟨t,(a:Int),st,out,op,nm,key,cd,bd⟩=some ([],c,(b:Int))
 | .ok b l=>told t ⟨t,(a:Int),st,out,op,nm,key,cd,bd⟩=told t ⟨t,(skipS t b:Int),stB op,upO op out++setKey key l,op,nm,⟨#[]⟩,cd,bd⟩
include hs in
theorem scal_sim {a:Nat} (ha:a≤t.size) (hst:st=0∨(st=1∧bAt t a≠93)) (ho:op.length≤32) (hop:TopOK op out) (hl:out.length≤a) (hn:¬(bAt t a=91∨bAt t a=123)) :
  match scalR t a with
  | .bad c b=>told t ⟨t,(a:Int),st,out,op,nm,key,cd,bd⟩=some ([],c,(b:Int))
  | .ok b l=>told t ⟨t,(a:Int),st,out,op,nm,key,cd,bd⟩=told t ⟨t,(skipS t b:Int),stB op,upO op out++setKey key l,op,nm,⟨#[]⟩,cd,bd⟩:=by
 by_cases hlt:a<t.size
 ·obtain ⟨g,hg,hg2⟩:=p_scal st out op nm key cd bd hop (by omega) (by omega) t (by omega) a hlt hn
  have hstep:=st_val hlt hst hg
  cases h:scalR t a with
  | bad c b =>
   rw [h] at hg2
   obtain ⟨e1,e2,e3⟩:=hg2
   show told t _=_
   rw [qEa hlt hstep e3,e1,e2]
  | ok b l =>
   rw [h] at hg2
   obtain ⟨n,rfl,hg2⟩:=hg2
   rw [hg2] at hstep
   exact told_on hs hlt hstep
 ·have e:bAt t a = -1:=qBg (by omega)
  have e2:scalR t a=.bad 31 a:=by
   unfold scalR
   rw [e]
   rfl
  rw [e2]
  show told t _=_
  rw [told_end (by omega),if_neg (by omega),show a=t.size by omega]
def headN (key:ByteArray) (obj:Bool) (k:Nat):Eng.Node:=setK key (nd0 (kindC obj) ⟨#[]⟩ false 0 (k:Int))
theorem upO_head (key:ByteArray) (obj:Bool) (op:List Int) (pre acc:List Eng.Node) (k:Nat):upO (op++[(pre.length:Int)]) (pre++headN key obj k::acc)=pre++headN key obj (k+1)::acc:=by
 unfold upO
 rw [last_snoc]
 dsimp only
 rw [Int.toNat_natCast,List.set_append_right _ _ (Nat.le_refl _),Nat.sub_self,List.getD_eq_getElem?_getD,List.getElem?_append_right (Nat.le_refl _),Nat.sub_self]
 show pre++(bumpN (headN key obj k)::acc)=_
 congr 2
theorem head_getD (key:ByteArray) (obj:Bool) (pre acc:List Eng.Node) (k:Nat) (d:Eng.Node):(pre++headN key obj k::acc).getD pre.length d=headN key obj k:=by
 rw [List.getD_eq_getElem?_getD,List.getElem?_append_right (Nat.le_refl _),Nat.sub_self]
 rfl
include hs in
theorem more_sim {obj:Bool} {hk:ByteArray} {pre acc:List Eng.Node} {k:Nat} (nmap:MapC) {c0:Nat} (hc0:c0≤t.size) (ho:op.length≤100) (hnm:nm.length=op.length) :
  told t ⟨t,(c0:Int),5,pre++headN hk obj k::acc,op++[(pre.length:Int)],nm++[(nmap,())],⟨#[]⟩,cd,bd⟩ =
   if bAt t c0=lastC obj then told t ⟨t,(skipS t (c0+1):Int),stB op,pre++headN hk obj k::acc,op,nm,⟨#[]⟩,cd,bd⟩
   else if bAt t c0=44 then told t ⟨t,(skipS t (c0+1):Int),bif obj then 2 else 0,pre++headN hk obj k::acc,op++[(pre.length:Int)],nm++[(nmap,())],⟨#[]⟩,cd,bd⟩
   else some ([],31,(c0:Int)):=by
 by_cases hlt:c0<t.size
 ·have h:=st_more (out:=pre++headN hk obj k::acc) (op:=op) (nm:=nm) (key:=⟨#[]⟩) (cd:=cd) (bd:=bd) hlt hs obj (p:=pre.length) (nmap,()) ho (by omega) (by simp) (by rw [head_getD]; rfl)
  by_cases h1:bAt t c0=lastC obj
  ·rw [if_pos h1] at h ⊢
   exact told_on hs hlt h
  ·rw [if_neg h1] at h ⊢
   by_cases h2:bAt t c0=44
   ·rw [if_pos h2] at h ⊢
    exact told_on hs hlt h
   ·rw [if_neg h2] at h ⊢
    exact qEa hlt h rfl
 ·have e:bAt t c0 = -1:=qBg (by omega)
  have:=qEv obj
  rw [if_neg (by omega),if_neg (by omega),told_end (by omega),if_neg (by decide),show c0=t.size by omega]
include hs in
theorem row_sim {d:Nat} (hV:ValSim t d) {obj:Bool} {hk:ByteArray} {pre:List Eng.Node} (ho:op.length+(d+1)=32) (hnm:nm.length=op.length):∀(m a k:Nat) (acc:List Eng.Node) (names:List ByteArray) (nmap:MapC) (st:Int),t.size - a<m→a≤t.size →
  (bif obj then st=2∨(st=3∧bAt t a≠125) else st=0∨(st=1∧bAt t a≠93))→NmR obj nmap names→pre.length+1+acc.length≤a→k≤a →
  match rowR t (valR t d) obj m a k acc names with
  | .bad c b=>told t ⟨t,(a:Int),st,pre++headN hk obj k::acc,op++[(pre.length:Int)],nm++[(nmap,())],⟨#[]⟩,cd,bd⟩=some ([],c,(b:Int))
  | .ok b x=>told t ⟨t,(a:Int),st,pre++headN hk obj k::acc,op++[(pre.length:Int)],nm++[(nmap,())],⟨#[]⟩,cd,bd⟩=told t ⟨t,(skipS t b:Int),stB op,pre++headN hk obj x.1::x.2,op,nm,⟨#[]⟩,cd,bd⟩
 | 0,a,k,acc,names,nmap,st,h,_,_,_,_,_=>by omega
 | m+1,a,k,acc,names,nmap,st,hm,ha,hst,hR,hpa,hka=>by
  have hlenO:∀x:Int,(op++[x]).length=op.length+1:=fun x=>by simp
  have hlenN:∀x:MapC × Unit,(nm++[x]).length=nm.length+1:=fun x=>by simp
  have htop:∀k acc,k≤a→TopOK (op++[(pre.length:Int)]) (pre++headN hk obj k::acc):=fun k acc hk'=>.inr ⟨op,pre.length,rfl,by simp,by
   rw [head_getD]
   show InI64 ((k:Int)+1)
   unfold InI64
   omega⟩
  have after:∀(b:Nat) (x:ByteArray × List Eng.Node) (nmap':MapC),a<b→b≤t.size→x.2.length≤b - a→NmR obj nmap' (names++[x.1])→itemR t (valR t d) obj names a=.ok b x →
    told t ⟨t,(a:Int),st,pre++headN hk obj k::acc,op++[(pre.length:Int)],nm++[(nmap,())],⟨#[]⟩,cd,bd⟩=told t ⟨t,(skipS t b:Int),5,pre++headN hk obj (k+1)::(acc++x.2),op++[(pre.length:Int)],nm++[(nmap',())],⟨#[]⟩,cd,bd⟩ →
    match rowR t (valR t d) obj (m+1) a k acc names with
    | .bad c b=>told t ⟨t,(a:Int),st,pre++headN hk obj k::acc,op++[(pre.length:Int)],nm++[(nmap,())],⟨#[]⟩,cd,bd⟩=some ([],c,(b:Int))
    | .ok b x=>told t ⟨t,(a:Int),st,pre++headN hk obj k::acc,op++[(pre.length:Int)],nm++[(nmap,())],⟨#[]⟩,cd,bd⟩=told t ⟨t,(skipS t b:Int),stB op,pre++headN hk obj x.1::x.2,op,nm,⟨#[]⟩,cd,bd⟩:=by
   intro b x nmap' hb1 hb2 hx hR' hi ht
   have k1:=qBs t b
   have k2:=qBo t b hb2
   rw [ht,more_sim hs nmap' k2 (by omega) hnm]
   unfold rowR
   rw [hi]
   dsimp only
   by_cases h1:bAt t (skipS t b)=lastC obj
   ·rw [if_pos h1,if_pos h1]
   ·rw [if_neg h1,if_neg h1]
    by_cases h2:bAt t (skipS t b)=44
    ·rw [if_pos h2,if_pos h2]
     have h3:=qA8 (t:=t) (a:=skipS t b) (by omega)
     have k3:=qBs t (skipS t b+1)
     have k4:=qBo t (skipS t b+1) (by omega)
     exact row_sim hV ho hnm m (skipS t (skipS t b+1)) (k+1) (acc++x.2) (names++[x.1]) nmap' (bif obj then 2 else 0) (by omega) k4 (by cases obj <;> exact .inl rfl) hR' (by rw [List.length_append]; omega) (by omega)
    ·rw [if_neg h2,if_neg h2]
  cases obj with
  | false =>
   have hv:=hV a st (pre++headN hk false k::acc) (op++[(pre.length:Int)]) (nm++[(nmap,())]) ⟨#[]⟩ cd bd ha hst (by rw [hlenO]; omega) (by rw [hlenO,hlenN]; omega) (htop k acc hka) (by simp only [List.length_append,List.length_cons]; omega)
   cases h:valR t d a with
   | bad c b =>
    rw [h] at hv
    unfold rowR itemR
    rw [if_neg (by decide),h]
    exact hv
   | ok b l =>
    rw [h] at hv
    have hadv:=valR_adv t d a b l ha h
    refine after b (⟨#[]⟩,l) nmap hadv.1 hadv.2.1 hadv.2.2.2 ⟨hR.some_,fun s hs=>by cases hs⟩ (by unfold itemR; rw [if_neg (by decide),h]) ?_
    have hv:told t _=told t _:=hv
    rw [hv,upO_head,valR_key h]
    have e5:stB (op++[(pre.length:Int)])=5:=by unfold stB; rw [if_neg (by rw [hlenO]; omega)]
    rw [e5,List.append_assoc]
    rfl
  | true =>
   by_cases hlt:a<t.size
   ·obtain ⟨g,hg,hgo,hgp,hg2⟩:=p_name (st:=st) (out:=pre++headN hk true k::acc) (op:=op++[(pre.length:Int)]) (nm:=nm) (key:=⟨#[]⟩) (cd:=cd) (bd:=bd) hlt hs nmap (by omega) hR
    have hstep:=st_name (nm:=nm++[(nmap,())]) hlt hst (fun _=>hg) ⟨hgo,hgp⟩
    by_cases h34:bAt t a=34
    ·rw [if_pos h34] at hstep
     cases hq:quoR t (t.size+1) (a+1) [] with
     | bad c b =>
      rw [hq] at hg2
      obtain ⟨e1,e2,e3⟩:=hg2
      unfold rowR itemR
      rw [if_pos rfl,if_pos h34,hq]
      dsimp only
      rw [qEa hlt hstep e3,e1,e2]
     | ok b l =>
      rw [hq] at hg2
      have hqo:=quoR_ok hq (by simp)
      dsimp only at hg2
      by_cases hmem:qAr l∈names
      ·rw [if_pos hmem] at hg2
       obtain ⟨e1,e2,e3⟩:=hg2
       unfold rowR itemR
       rw [if_pos rfl,if_pos h34,hq]
       dsimp only
       rw [if_pos hmem]
       dsimp only
       rw [qEa hlt hstep e3,e1,e2]
      ·rw [if_neg hmem] at hg2
       rw [hg2] at hstep
       have t1:=told_on hs hlt hstep
       have k1:=qBs t b
       have k2:=qBo t b hqo.2.1
       by_cases hlt2:skipS t b<t.size
       ·have hcol:=st_colon (out:=pre++headN hk true k::acc) (op:=op++[(pre.length:Int)]) (nm:=nm++[(mput nmap (qAr l) 1,())]) (key:=qAr l) (cd:=cd) (bd:=bd) hlt2 hs
        by_cases h58:bAt t (skipS t b)=58
        ·rw [if_pos h58] at hcol
         have t2:=told_on hs hlt2 hcol
         have k3:=qBs t (skipS t b+1)
         have k4:=qBo t (skipS t b+1) (by omega)
         have hv:=hV (skipS t (skipS t b+1)) 0 (pre++headN hk true k::acc) (op++[(pre.length:Int)]) (nm++[(mput nmap (qAr l) 1,())]) (qAr l) cd bd k4 (.inl rfl) (by rw [hlenO]; omega) (by rw [hlenO,hlenN]; omega) (htop k acc hka) (by simp only [List.length_append,List.length_cons]; omega)
         cases h:valR t d (skipS t (skipS t b+1)) with
         | bad c b' =>
          rw [h] at hv
          unfold rowR itemR
          rw [if_pos rfl,if_pos h34,hq]
          dsimp only
          rw [if_neg hmem,if_pos h58,h]
          dsimp only
          rw [t1,t2]
          exact hv
         | ok b' y =>
          rw [h] at hv
          have hadv:=valR_adv t d _ b' y k4 h
          refine after b' (qAr l,setKey (qAr l) y) (mput nmap (qAr l) 1) (by omega) hadv.2.1 (by rw [setKey_len]; omega) (hR.put _) (by
           unfold itemR
           rw [if_pos rfl,if_pos h34,hq]
           dsimp only
           rw [if_neg hmem,if_pos h58,h]) ?_
          have hv:told t _=told t _:=hv
          rw [t1,t2,hv,upO_head]
          have e5:stB (op++[(pre.length:Int)])=5:=by unfold stB; rw [if_neg (by rw [hlenO]; omega)]
          rw [e5,List.append_assoc]
          rfl
        ·rw [if_neg h58] at hcol
         unfold rowR itemR
         rw [if_pos rfl,if_pos h34,hq]
         dsimp only
         rw [if_neg hmem,if_neg h58]
         dsimp only
         rw [t1]
         exact qEa hlt2 hcol rfl
       ·have h58:¬bAt t (skipS t b)=58:=by rw [qBg (by omega)]; decide
        unfold rowR itemR
        rw [if_pos rfl,if_pos h34,hq]
        dsimp only
        rw [if_neg hmem,if_neg h58]
        dsimp only
        rw [t1,told_end (by omega),if_neg (by decide),show skipS t b=t.size by omega]
    ·rw [if_neg h34] at hstep
     unfold rowR itemR
     rw [if_pos rfl,if_neg h34]
     exact qEa hlt hstep rfl
   ·have h34:¬bAt t a=34:=by rw [qBg (by omega)]; decide
    unfold rowR itemR
    rw [if_pos rfl,if_neg h34]
    dsimp only
    have hst6:¬st=6:=by
     have hst:st=2∨(st=3∧bAt t a≠125):=hst
     omega
    rw [told_end (by omega),if_neg hst6,show a=t.size by omega]
include hs in
theorem val_sim:∀d:Nat,ValSim t d
 | 0=>fun a st out op nm key cd bd ha hst ho hnm hop hl=>by
  unfold valR
  by_cases hb:bAt t a=91∨bAt t a=123
  ·have hlt:=qA8 (t:=t) (a:=a) (by omega)
   rw [if_pos hb]
   have hv:zba_s ⟨t,(a:Int),st,out,op,nm,key,cd,bd⟩ (bAt t a)=some (⟨t,(a:Int),st,out,op,nm,key,11,(a:Int)⟩,false):=by
    unfold zba_s
    rw [qAy (p:=bAt t a=91∨bAt t a=123) (by simp),if_pos hb,p_begin_deep _ (by omega)]
    rfl
   exact qEa hlt (st_val hlt hst hv) rfl
  ·rw [if_neg hb]
   exact scal_sim hs ha hst (by omega) hop hl hb
 | d+1=>fun a st out op nm key cd bd ha hst ho hnm hop hl=>by
  unfold valR
  by_cases hb:bAt t a=91∨bAt t a=123
  ·have hlt:=qA8 (t:=t) (a:=a) (by omega)
   rw [if_pos hb]
   generalize hobj:decide (bAt t a=123)=obj
   have hv:zba_s ⟨t,(a:Int),st,out,op,nm,key,cd,bd⟩ (bAt t a)=some (⟨t,((a+1:Nat):Int),bif obj then 3 else 1,layO op out key (nd0 (kindC obj) ⟨#[]⟩ false 0 0),op++[(out.length:Int)],nm++[((bif obj then some [] else none:MapC),())],⟨#[]⟩,cd,bd⟩,true):=by
    unfold zba_s
    rw [qAy (p:=bAt t a=91∨bAt t a=123) (by simp),if_pos hb,p_begin (by omega) obj hobj hop (by omega) (by omega) (by omega)]
    rfl
   have t1:=told_on hs hlt (st_val hlt hst hv)
   have k1:=qBs t (a+1)
   have k2:=qBo t (a+1) (by omega)
   have elay:layO op out key (nd0 (kindC obj) ⟨#[]⟩ false 0 0)=upO op out++headN key obj 0::[]:=rfl
   have elen:out.length=(upO op out).length:=(upO_len op out).symm
   rw [elay,elen] at t1
   unfold boxR
   by_cases hla:bAt t (skipS t (a+1))=lastC obj
   ·rw [if_pos hla]
    have:=qEv obj
    have hlt2:=qA8 (t:=t) (a:=skipS t (a+1)) (by omega)
    have t2:=told_on hs hlt2 (st_end (out:=upO op out++headN key obj 0::[]) (op:=op) (nm:=nm) (key:=⟨#[]⟩) (cd:=cd) (bd:=bd) hlt2 hs obj hla ((upO op out).length:Int) ((bif obj then some [] else none:MapC),()) (by omega) (by omega))
    show told t _=told t _
    rw [t1,t2]
    rfl
   ·rw [if_neg hla]
    have hr:=row_sim (op:=op) (nm:=nm) (cd:=cd) (bd:=bd) hs (val_sim d) (obj:=obj) (hk:=key) (pre:=upO op out) (by omega) hnm (t.size+1) (skipS t (a+1)) 0 [] [] (bif obj then some [] else none) (bif obj then 3 else 1) (by omega) k2 (by
     cases obj with
     | true=>exact .inr ⟨rfl,hla⟩
     | false=>exact .inr ⟨rfl,hla⟩) (by
     cases obj with
     | true=>exact ⟨rfl,fun s _=>by
       show 0<(mfind [] s).getD 0↔_
       simp [mfind]⟩
     | false=>exact ⟨rfl,fun s h=>by cases h⟩) (by rw [←elen]; simp only [List.length_nil]; omega) (by omega)
    cases h:rowR t (valR t d) obj (t.size+1) (skipS t (a+1)) 0 [] [] with
    | bad c b =>
     rw [h] at hr
     show told t _=_
     rw [t1]
     exact hr
    | ok b x =>
     rw [h] at hr
     show told t _=told t _
     rw [t1]
     exact hr
  ·rw [if_neg hb]
   exact scal_sim hs ha hst (by omega) hop hl hb
theorem p_Parse (t:ByteArray):zaf_s t=some (parseR t):=by
 unfold zaf_s parseR
 by_cases h:262144<t.size
 ·rw [deT (by omega),cnT,if_pos h]
 ·rw [deF (by omega),cnF,if_neg h,show (0:Int)=((0:Nat):Int) from rfl,p_blank _ _ _ _ _ _ _ t (by omega),obS]
  show told t ⟨t,(skipS t 0:Int),0,[],[],[],⟨#[]⟩,0,0⟩=_
  have k:=qBo t 0 (by omega)
  have hv:=val_sim (t:=t) (by omega) 32 (skipS t 0) 0 [] [] [] ⟨#[]⟩ 0 0 k (.inl rfl) rfl rfl (.inl rfl) (by simp)
  unfold readR
  cases hr:valR t 32 (skipS t 0) with
  | bad c b =>
   rw [hr] at hv
   exact hv
  | ok b l =>
   rw [hr] at hv
   have hv:told t _=told t _:=hv
   rw [hv,valR_key hr]
   dsimp only
   by_cases hl:skipS t b<t.size
   ·rw [if_pos hl]
    exact qEa hl (st_done hl) rfl
   ·rw [if_neg hl,told_end (by omega)]
    rfl
end Go.Proofs.YtdcoiccdbgcpaaaDoor
namespace Go.Proofs.YtdcoiccdbgcpaaaDoor
open Go.Eng
set_option linter.unusedVariables false
set_option linter.unusedSimpArgs false
theorem readR_len {t:ByteArray} {b:Nat} {l:List Eng.Node} (h:readR t=.ok b l):l≠[]∧l.length≤t.size:=by
 unfold readR at h
 have k:=qBo t 0 (by omega)
 split at h
 ·cases h
 ·rename_i b1 l1 h1
  have:=valR_adv t 32 _ _ _ k h1
  split at h
  ·cases h
  ·cases h
   exact ⟨this.2.2.1,by omega⟩
theorem parseR_len (t:ByteArray):(parseR t).1.length≤262144:=by
 unfold parseR
 split
 ·simp
 ·unfold tellR
  cases h:readR t with
  | bad c b=>simp
  | ok b l =>
   have:=(readR_len h).2
   show l.length≤262144
   omega
theorem sameN_loop (v:List Eng.Node) (hv:v.length≤3000000):∀(j i:Nat),i+j=v.length→zbh_p0 (i:Int) v v=some (.inr ()):=by
 intro j
 induction j with
 | zero =>
  intro i h
  unfold zbh_p0
  refine qAm ?_
  unfold qD2
  rw [deF (by omega),cnF]
 | succ j ih =>
  intro i h
  have ih:=ih (i+1) (by omega)
  unfold zbh_p0 at ih ⊢
  rw [qAx (y:=((i+1:Nat):Int)) ?_,ih]
  unfold qD2
  rw [deT (by omega),cnT,qAa (by omega),qAa (by omega),qAa (by omega),qAa (by omega)]
  simp only [decide_true,beq_self_eq_true,Bool.and_self,Bool.not_true,cnF]
  exact qAa (by unfold InI64; omega) _
theorem sameN_self (v:List Eng.Node) (hv:v.length≤3000000):zbh_s v v=some true:=by
 have:=sameN_loop v hv v.length 0 (by omega)
 rw [show ((0:Nat):Int)=0 from rfl] at this
 unfold zbh_s
 rw [deT rfl,Bool.not_true,cnF,this]
 rfl
end Go.Proofs.YtdcoiccdbgcpaaaDoor
namespace Go.Proofs.YtdcoiccdbgcpaaaDoor
open Go.Eng
set_option linter.unusedVariables false
set_option linter.unusedSimpArgs false
set_option maxRecDepth 100000
noncomputable section
def zbb_q:IQ:=(.seq (rg 2 [oP 2 (.mv vF)]) (.seq (rg 5 [oM 11 t0,oP 12 (.call 42 [t11]),oM 10 t12,oP 13 (.extract t10 0),oP 14 (.extract t10 1),oP 15 (.extract t10 2),oM 3 t13,oM 4 t14,oM 5 t15]) (.seq (rg 8 [oM 17 t0,oP 18 (.call 43 [t17]),oM 16 t18,oP 19 (.extract t16 0),oP 20 (.extract t16 1),oP 21 (.extract t16 2),oM 6 t19,oM 7 t20,oM 8 t21]) (.seq (rg 9 [oM 22 t3,oM 23 t6,oP 24 (.call 44 [t22,t23]),oM 9 t24]) (.seq (rg 2 [oM 25 t9,oM 26 t25,oG 27 (.mv t4) 26 true,oG 28 (.mv t7) 26 true,oG 29 (.bi .eql t27 t28) 26 true,oP 30 (.pick t26 t29 vF),oM 31 t30,oG 32 (.mv t5) 31 true,oG 33 (.mv t8) 31 true,oG 34 (.bi .eql t32 t33) 31 true,oP 35 (.pick t31 t34 vF),oM 2 t35]) (.cn [2] .ret))))))
theorem zbb_chk:chk Tryd.prog 8 []=some (zbb_q.erase,[.tmp 2],36):=by kernel_rfl
def zbb_s (text:ByteArray):Option Bool :=
 (zaf_s text).bind fun r1 =>
 (zbg_s text).bind fun r2 =>
 (zbh_s r1.1 r2.1).bind fun r3 =>
 some ((r3 && (decide (r1.2.1=r2.2.1))) && (decide (r1.2.2=r2.2.2)))
def zbb_G:Nat→Option CQ:=tblQ [(42,zaf_w),(43,zbg_w),(44,zbh_w)]
theorem zbb_Gok:∀f C,zbb_G f=some C→qAe Tryd.prog f C:=qAg ⟨zaf_ok,zbg_ok,zbh_ok,trivial⟩
def zbb_L:Nat→SubQ:=tblL []
theorem zbb_subs:qAn zbb_L zbb_G 0 10 36 zbb_q:=qAi (show qAp zbb_L zbb_G 0 10 36 [] from trivial)
def zbb_da:=(dCons (dVC (dCO dS)) dNil)
def zbb_db:=(dNil:Dec Unit (List SB))
def zbb_c:CS:=mkC zbb_da zbb_db (fun x y=>zbb_s x.1) (fun x y r=>.c (.o (.vB r))) fun x y r=>[]
theorem zbb_val:qAj Tryd.prog 8 zbb_c:=qAl zbb_chk 10 zbb_Gok 0 (fun x=>Nat.le_of_ble_eq_true rfl) (fun y=>rfl) zbb_subs fun x y=>by
 simp only [zbb_s,-eq_self,qAb,qAd,obA,obS,slL,slR,qAc]
 kernel_rfl
end
end Go.Proofs.YtdcoiccdbgcpaaaDoor
namespace Go.Proofs.YtdcoiccdbgcpaaaDoor
open Go.Eng
theorem jsonReads_plain (t:ByteArray):zbb_s t=some true:=by
 unfold zbb_s
 rw [p_Parse,obS,r_Parse,obS,sameN_self _ (by have:=parseR_len t; omega),obS,deT rfl,deT rfl]
 rfl
end Go.Proofs.YtdcoiccdbgcpaaaDoor
namespace Go.Eng
open Go.RowKit
set_option linter.unusedVariables false
theorem reach_of {x:Nat} (h:decide (x≤reachBytes)=true):x≤140737488351232:=by
 have h2:=of_decide_eq_true h
 exact h2
theorem size_of_weights {H:Type} {P:Program} {T:TypeId} {s:ByteArray} (h:∀x∈(DataW.lit (.string s.data.toList):DataW H).weights P T,x≤140737488351232):s.size≤140737488351232:=by
 have h2:=h s.data.toList.length (by simp only [DataW.weights]; exact List.mem_singleton.2 rfl)
 rw [Array.length_toList] at h2
 exact h2
structure LowB (w w':World):Prop where
 os:w'.os=w.os
 output:w'.output=w.output
 size:w.heap.size≤w'.heap.size
 block:∀k,k<w.heap.size→w'.heap[k]?=w.heap[k]?
theorem lowB_of_stays {w w':World} (h:Stays (fun _=>False) w w'):LowB w w':=⟨h.os,h.output,h.size,fun k hk=>h.block k hk id⟩
theorem LowB.frame {W w':World} (h:LowB W w') (may:MemPlace→Prop):W.keptBut w' may:=by
 refine ⟨h.os,h.output,fun i hi=>?_⟩
 rw [h.block i hi]
 split <;> simp_all
theorem LowB.same {W w':World} (h:LowB W w') {p:MemPlace} (hp:p.block<W.heap.size):W.sameAt w' p:=by
 cases p with
 | cell b o=>exact World.cell?_of_block (w:=W) (h.block b hp)
 | map b=>exact h.block b hp
theorem LowB.trod {H:Type} {enc:TypeId × Value→H} {P:Program} {t:TypeId} (hl:laidOutB P=true) (hr:P.readableRec t=true) (hrow:t<P.types.size) {W W':World} {v:Value} {d:DataW H} {ps:List MemPlace}
  (h:DataW.Trod enc P W 0 (fun _=>true) true t v d ps) (hb:LowB W W') (hlt:∀x∈ps,x.block<W.heap.size) :
  DataW.Trod enc P W' 0 (fun b=>decide (b<W.heap.size)) true t v d ps :=
 WideElems.Trod_stays hl hr hrow h (fun x hx=>hb.same (hlt x hx)) (fun x hx=>by simpa using hlt x hx)
theorem callS {P:Program} {f:Nat} {C:CS} (h:qAj P f C) {args:List SV} {v:SV} (hc:C args [] (SV × List SB) (fun v hp'=>some (v,hp'))=some (v,[])) (hs:args.all SV.shut=true) (hv:v.shut=true) (w:World) (ht:tabOK noX w) (vs:List Value) (hvs:args.map (SV.den fun _=>undef)=vs) :
  Calls P f vs.toArray w fun e w'=>e=.returned (v.den fun _=>undef)∧LowB w w':=by
 have:=h.2 args [] v [] hc (fun v hv=>SV.shut_lt (List.all_eq_true.1 hs v hv) _) noX w (fun _=>undef) (HpSat.nil _ _ ht _)
 rw [hvs] at this
 exact this.mono fun e w' ⟨ρ',_,_,a,_,_,b⟩=>⟨by rw [a,SV.shut_den hv ρ' fun _=>undef],lowB_of_stays b⟩
end Go.Eng
namespace Go.Proofs
open Go.Shelf
shelf_lay Lays.n260 Nm 260 at Tryd as Tryd.laysSlow
end Go.Proofs
namespace Go.Proofs.YtdcoiccdbgcpaaaDoor
open Go.Eng Go.Shelf
set_option linter.unusedVariables false
theorem first_data:(Rows.laid_unicode_utf8_first:DataW Unit)=Lib.firstData:=by kernel_rfl
theorem accept_data:(Rows.laid_unicode_utf8_acceptRanges:DataW Unit)=Lib.acceptData:=by kernel_rfl
theorem utf8_tabs {W:World} (h3:Lib.VarReads Tryd.prog W "unicode/utf8.first" Rows.laid_unicode_utf8_first) (h4:Lib.VarReads Tryd.prog W "unicode/utf8.acceptRanges" Rows.laid_unicode_utf8_acceptRanges):tabOK noX W:=by
 rw [first_data] at h3
 rw [accept_data] at h4
 exact ⟨utf8Tabs_of_reads Tryd.laysSlow ⟨by kernel_rfl,by kernel_rfl,by kernel_rfl,by kernel_rfl,by kernel_rfl,by kernel_rfl,by kernel_rfl⟩ h3 h4,fun h=>h,fun h=>h⟩
end Go.Proofs.YtdcoiccdbgcpaaaDoor
namespace Go.Proofs.YtdcoiccdbgcpaaaDoor
open Go.Eng
set_option linter.unusedVariables false
set_option linter.unusedSimpArgs false
theorem jsonReads_tabs {W:World} (h:laidMetH Tryd.prog Rows.jsonReadsRow.laid W):tabOK noX W:=by
 have h':laidMet Tryd.prog Rows.jsonReadsRow.laid W:=h
 exact utf8_tabs (Lib.laidMet.reads h' (List.mem_cons_of_mem _ List.mem_cons_self)) (Lib.laidMet.reads h' List.mem_cons_self)
theorem jsonReads_walk (s0:ByteArray) (W:World) (h0:s0.size≤140737488351232) (hT:tabOK noX W):Calls Tryd.prog 8 #[.string s0] W fun e w'=>e=.returned (.bool true)∧LowB W w':=by
 refine callS zbb_val (args:=[.c (.o (.val (.string s0)))]) (v:=.c (.o (.val (.bool true)))) ?_ rfl rfl W hT [.string s0] rfl
 show ((zbb_s s0).bind fun r=>some ((.c (.o (.val (.bool r))),[]):SV × List SB))=_
 rw [jsonReads_plain s0]
 rfl
end Go.Proofs.YtdcoiccdbgcpaaaDoor
