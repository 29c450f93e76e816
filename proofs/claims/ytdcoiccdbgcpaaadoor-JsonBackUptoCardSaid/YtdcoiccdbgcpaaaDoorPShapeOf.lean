/-
  What is read of a text is well shaped. No program.
-/
import Derived.Test.YtdcoiccdbgcpaaaDoorPValid
namespace Go.Proofs.YtdcoiccdbgcpaaaDoor
open Go.Eng
set_option linter.unusedVariables false
set_option linter.unusedSimpArgs false
section
variable {t:ByteArray} {a b:Nat} (hb:b≤t.size)
include hb
theorem ex_in {i:Int} {j:Nat} (h0:0≤i) (hj:(j:Int)=a+i) (hjb:j<b):bAt (t.extract a b) i=bAt t (j:Int):=by
 have _:=hb
 rw [qC9 t a b i h0 (by omega),hj]
theorem ex_out {i:Int} (h:(b:Int)≤a+i) (hab:a≤b):bAt (t.extract a b) i = -1:=by
 refine qBk ?_
 rw [ByteArray.size_extract]
 omega
theorem many_min:∀(n i:Nat),b - (a+i)≤n→a+i≤b→manyS (t.extract a b) i+a=min (manyS t (a+i)) b
 | 0,i,h1,h2=>by
  have e:digS (t.extract a b) (i:Int)=false:=by
   unfold digS
   rw [ex_out hb (i:=(i:Int)) (by omega) (by omega)]
   rfl
  have:=qDn t (a+i)
  rw [qBw e]
  omega
 | n+1,i,h1,h2=>by
  by_cases hlt:a+i<b
  ·have e:digS (t.extract a b) (i:Int)=digS t ((a+i:Nat):Int):=by
    unfold digS
    rw [ex_in hb (i:=(i:Int)) (j:=a+i) (by omega) (by omega) hlt]
   by_cases hd:digS t ((a+i:Nat):Int)=true
   ·have ih:=many_min n (i+1) (by omega) (by omega)
    rw [qCf (e.trans hd),qCf hd]
    exact ih
   ·have hd:digS t ((a+i:Nat):Int)=false:=by simpa using hd
    rw [qBw (e.trans hd),qBw hd]
    omega
  ·have e:digS (t.extract a b) (i:Int)=false:=by
    unfold digS
    rw [ex_out hb (i:=(i:Int)) (by omega) (by omega)]
    rfl
   have:=qDn t (a+i)
   rw [qBw e]
   omega
end
theorem digS_not {t:ByteArray} {i:Nat} (h:bAt t i=46∨bAt t i=101∨bAt t i=69):digS t (i:Int)=false:=by
 unfold digS
 rcases h with h | h | h <;> rw [h] <;> rfl
theorem numR_valid {t:ByteArray} {a b:Nat} {u:Unit} (ha:a<t.size) (h:numR t a=.ok b u):qBi (t.extract a b)=true:=by
 have hadv:=numR_adv ha h
 have hb:=hadv.2
 unfold numR at h
 cases hz:zeroR t (signS t a) with
 | bad c x=>rw [hz] at h; cases h
 | ok b1 x1 =>
  rw [hz] at h
  dsimp only at h
  cases hd:dotR t b1 with
  | bad c x=>rw [hd] at h; cases h
  | ok b2 x2 =>
   rw [hd] at h
   dsimp only at h
   have hsz:(t.extract a b).size=b - a:=by rw [ByteArray.size_extract]; omega
   have hA:signS t a=a+atA (t.extract a b):=by
    unfold signS atA
    rw [ex_in hb (i:=0) (j:=a) (by omega) (by omega) (by omega)]
    split <;> rfl
   have hsg:signS t a≤t.size:=by unfold signS; split <;> omega
   have z1:=zeroR_adv hsg hz
   have z2:=dotR_adv z1.2 hd
   have z3:=powR_adv z2.2 h
   generalize hs:t.extract a b=s at *
   have inn:∀ {i:Int} {j:Nat},0≤i→(j:Int)=a+i→j<b→bAt s i=bAt t (j:Int):=fun h0 hj hjb=>by rw [←hs]; exact ex_in hb h0 hj hjb
   have out:∀ {i:Int},(b:Int)≤a+i→bAt s i = -1:=fun h=>by rw [←hs]; exact ex_out hb h (by omega)
   have mm:∀i:Nat,a+i≤b→manyS s i+a=min (manyS t (a+i)) b:=fun i hi=>by rw [←hs]; exact many_min hb (b - (a+i)) i (Nat.le_refl _) hi
   have hchar:b1<b→bAt t b1=46∨bAt t b1=101∨bAt t b1=69:=by
    intro hlt
    unfold dotR at hd
    split at hd
    ·rename_i h46; exact .inl h46
    ·cases hd
     unfold powR at h
     split at h
     ·rename_i he; exact .inr he
     ·cases h; omega
   have hB:atB s+a=b1:=by
    unfold atB
    rw [mm (atA s) (by omega),←hA]
    unfold zeroR at hz
    split at hz
    ·rename_i h48
     cases hz
     have hdg:digS t ((signS t a:Nat):Int)=true:=by
      unfold digS
      rw [h48]
      rfl
     rw [qCf hdg]
     by_cases hlt:signS t a+1<b
     ·rw [qBw (digS_not (hchar hlt))]
      omega
     ·have:=qDn t (signS t a+1)
      omega
    ·have:=qEm hsg hz
     omega
   have hbad:badA s=false:=by
    unfold badA
    rw [deF (show ¬atB s=atA s by omega),Bool.false_or]
    by_cases h48:bAt s (atA s:Int)=48
    ·have e:=inn (i:=(atA s:Int)) (j:=signS t a) (by omega) (by omega) (by omega)
     rw [e] at h48
     unfold zeroR at hz
     rw [if_pos h48] at hz
     cases hz
     rw [deF (show ¬atA s+1<atB s by omega),Bool.and_false]
    ·rw [deF h48,Bool.false_and]
   have hdot:dotS s=decide (bAt t b1=46∧b1<b):=by
    unfold dotS
    by_cases hlt:b1<b
    ·rw [inn (i:=(atB s:Int)) (j:=b1) (by omega) (by omega) hlt]
     exact decide_eq_decide.2 ⟨fun h=>⟨h,hlt⟩,fun h=>h.1⟩
    ·rw [out (i:=(atB s:Int)) (by omega),deF (by omega),deF (by omega)]
   have hC:atC s+a=b2∧(dotS s=true→atK s≠atB s+1):=by
    unfold atC
    unfold dotR at hd
    split at hd
    ·rename_i h46
     have hl46:=qAt (t:=t) (a:=b1) (by omega)
     have hq:=qEm (by omega) hd
     have hK:atK s+a=b2:=by
      unfold atK
      rw [mm (atB s+1) (by omega),show a+(atB s+1)=b1+1 by omega,←hq.2.2]
      omega
     rw [hdot,deT ⟨h46,by omega⟩,if_pos rfl]
     exact ⟨hK,fun _=>by omega⟩
    ·rename_i h46
     cases hd
     rw [hdot,deF (fun h=>h46 h.1),if_neg (by decide)]
     exact ⟨hB,fun h=>by cases h⟩
   have hG:atG s+a=b∧(expS s=true→atF s≠atE s):=by
    unfold powR at h
    split at h
    ·rename_i he
     have hle:=qAt (t:=t) (a:=b2) (by omega)
     have hqs:(if bAt t ((b2+1:Nat):Int)=43∨bAt t ((b2+1:Nat):Int)=45 then b2+2 else b2+1)≤t.size:=by
      split
      ·have:=qAt (t:=t) (a:=b2+1) (by omega)
       omega
      ·omega
     have hq:=qEm hqs h
     have hq1:b2+1<b:=by
      have:=hq.1
      split at this <;> omega
     have hexp:expS s=true:=by
      unfold expS
      rw [inn (i:=(atC s:Int)) (j:=b2) (by omega) (by omega) (by omega)]
      simpa using he
     have hE:atE s+a=if bAt t ((b2+1:Nat):Int)=43∨bAt t ((b2+1:Nat):Int)=45 then b2+2 else b2+1:=by
      unfold atE sgnS
      rw [inn (i:=(atC s:Int)+1) (j:=b2+1) (by omega) (by omega) (by omega)]
      by_cases hsn:bAt t ((b2+1:Nat):Int)=43∨bAt t ((b2+1:Nat):Int)=45
      ·rw [if_pos (by simpa using hsn),if_pos hsn]
       omega
      ·rw [if_neg (by simpa using hsn),if_neg hsn]
       omega
     generalize (if bAt t ((b2+1:Nat):Int)=43∨bAt t ((b2+1:Nat):Int)=45 then b2+2 else b2+1)=q at *
     have hF:atF s+a=b:=by
      unfold atF
      rw [mm (atE s) (by omega),show a+atE s=q by omega,←hq.2.2]
      omega
     unfold atG
     rw [hexp,if_pos rfl]
     exact ⟨hF,fun _=>by omega⟩
    ·cases h
     have hexp:expS s=false:=by
      unfold expS
      rw [out (i:=(atC s:Int)) (by omega)]
      rfl
     unfold atG
     rw [hexp,if_neg (by decide)]
     exact ⟨hC.1,fun h=>by cases h⟩
   unfold qBi
   rw [hbad,deT (show atG s=s.size by omega),Bool.and_true]
   have e1:(dotS s && decide (atK s=atB s+1))=false:=by
    cases hds:dotS s with
    | false=>rfl
    | true=>rw [deF (hC.2 hds)]; rfl
   have e2:(expS s && decide (atF s=atE s))=false:=by
    cases hes:expS s with
    | false=>rfl
    | true=>rw [deF (hG.2 hes)]; rfl
   rw [e1,e2]
   rfl
theorem pB_num {n:Eng.Node} (hn:n.text.size≤3000000) (h4:n.kind=4) (hk:n.kids=0) (hv:qBi n.text=true) (hw:n.whole=(qDf n.text).2) (hi:n.int=(qDf n.text).1):pB n=true:=by
 unfold pB zan_s
 rw [p_Valid _ hn,(whole_is _ hn).1,hv,h4,hk,hw,hi]
 simp
theorem pB_str {n:Eng.Node} (hn:n.text.size≤3000000) (h5:n.kind=5) (hk:n.kids=0) (hw:n.whole=false) (hi:n.int=0) (hv:Lib.validD n.text.data.toList=true):pB n=true:=by
 have hu:qBb n.text=some (Lib.validD n.text.data.toList):=qAa (by omega) _
 unfold pB zan_s
 rw [hu,h5,hk,hw,hi,hv]
 rfl
theorem pB_bare {n:Eng.Node} (h1:n.kind=1∨n.kind=2∨n.kind=3) (hk:n.kids=0) (hw:n.whole=false) (hi:n.int=0) (ht:n.text=⟨#[]⟩):pB n=true:=by
 unfold pB zan_s
 rw [hk,hw,hi,ht]
 rcases h1 with h1 | h1 | h1 <;> rw [h1] <;> rfl
theorem pB_box {n:Eng.Node} (h1:n.kind=6∨n.kind=7) (hk:0≤n.kids) (hw:n.whole=false) (hi:n.int=0) (ht:n.text=⟨#[]⟩):pB n=true:=by
 unfold pB zan_s
 rw [hw,hi,ht]
 rcases h1 with h1 | h1
 ·rw [h1,deF (show ¬n.kids<0 by omega)]
  simp
 ·rw [h1,deF (show ¬n.kids<0 by omega)]
  simp
def KeyOK (obj:Bool) (k:ByteArray):Prop:=Lib.validD k.data.toList=true∧(obj=true∨k=⟨#[]⟩)
theorem okB_key {obj:Bool} {k:ByteArray} (hk:KeyOK obj k) {n:Eng.Node} (h:pB (setK k n)=true):okB obj (setK k n)=true:=by
 unfold okB
 rw [h]
 show (true && Lib.validD k.data.toList && (obj || decide (k=(⟨#[]⟩:ByteArray))))=true
 rw [hk.1]
 rcases hk.2 with h | h
 ·rw [h]; rfl
 ·rw [deT h]; simp
def LeafOK (n:Eng.Node):Prop:=n.kids=0∧n.kind<6∧∀k,pB (setK k n)=true
theorem scalR_leaf {t:ByteArray} (hs:t.size≤600000) {a b:Nat} {l:List Eng.Node} (ha:a≤t.size) (h:scalR t a=.ok b l):∃n,l=[n]∧LeafOK n:=by
 unfold scalR at h
 split at h
 ·split at h
  ·cases h
  ·rename_i b1 l1 h1
   have h2:=qEa h1 (by simp)
   have h3:=qE3 h1 qCz.nil
   have hlt:=qAt (t:=t) (a:=a) (by omega)
   cases h
   refine ⟨_,rfl,rfl,by show (5:Int)<6; decide,fun k=>pB_str ?_ rfl rfl rfl rfl h3.bytes⟩
   show (qAw l1).size≤_
   rw [qE6]
   have:=h2.2.2.2
   simp only [List.length_nil,Nat.zero_add] at this
   omega
 ·split at h
  ·rename_i hc
   have hlt:=qAt (t:=t) (a:=a) (by omega)
   split at h
   ·cases h
   ·rename_i b1 x1 h1
    cases h
    refine ⟨_,rfl,rfl,by show (4:Int)<6; decide,fun k=>pB_num ?_ rfl rfl (numR_valid hlt h1) rfl rfl⟩
    show (t.extract a _).size≤_
    rw [ByteArray.size_extract]
    omega
  ·split at h
   ·split at h
    ·cases h
    ·cases h
     exact ⟨_,rfl,rfl,by show (1:Int)<6; decide,fun k=>pB_bare (.inl rfl) rfl rfl rfl rfl⟩
   ·split at h
    ·split at h
     ·cases h
     ·cases h
      exact ⟨_,rfl,rfl,by show (2:Int)<6; decide,fun k=>pB_bare (.inr (.inl rfl)) rfl rfl rfl rfl⟩
    ·split at h
     ·split at h
      ·cases h
      ·cases h
       exact ⟨_,rfl,rfl,by show (3:Int)<6; decide,fun k=>pB_bare (.inr (.inr rfl)) rfl rfl rfl rfl⟩
     ·cases h
def ShapeAt (t:ByteArray) (d:Nat) (val:Nat→Rd (List Eng.Node)):Prop:=∀a b l,a≤t.size→val a=.ok b l→∀(k:ByteArray) (obj:Bool) (pre post:List Eng.Node),KeyOK obj k→oneS (pre++qBu k l++post) d obj pre.length=some (pre.length+l.length)
theorem leaf_shape {n:Eng.Node} (hn:LeafOK n) (d:Nat) {obj:Bool} {k:ByteArray} (hk:KeyOK obj k) (pre post:List Eng.Node):oneS (pre++[setK k n]++post) d obj pre.length=some (pre.length+1):=by
 have h1:=at_pre pre post (setK k n) []
 have h2:=okB_key hk (hn.2.2 k)
 cases d with
 | zero =>
  unfold oneS
  rw [h1]
  dsimp only
  rw [if_pos ⟨h2,hn.2.1⟩]
 | succ d =>
  unfold oneS
  rw [h1]
  dsimp only
  rw [if_pos h2]
  show kidsS _ _ _ (Int.toNat n.kids) _ _=_
  rw [hn.1]
  rfl
theorem scalR_shape {t:ByteArray} (hs:t.size≤600000) (d:Nat):ShapeAt t d (scalR t):=by
 intro a b l ha h k obj pre post hk
 obtain ⟨n,rfl,hn⟩:=scalR_leaf hs ha h
 exact leaf_shape hn d hk pre post
theorem keyAt_pre (pre post:List Eng.Node) (k:ByteArray) {l:List Eng.Node} (hl:l≠[]):keyAt (pre++qBu k l++post) pre.length=k:=by
 cases l with
 | nil=>exact (hl rfl).elim
 | cons n r =>
  unfold keyAt
  rw [List.getD_eq_getElem?_getD]
  show ((pre++(setK k n::r)++post)[pre.length]?.getD _).key=k
  rw [at_pre]
  rfl
theorem itemR_shape {t:ByteArray} {val:Nat→Rd (List Eng.Node)} (hv:Adv t val) (hk0:∀a b l,val a=.ok b l→qBu ⟨#[]⟩ l=l) {obj:Bool} {names:List ByteArray} {a b:Nat} {x:ByteArray × List Eng.Node} (ha:a≤t.size) (h:itemR t val obj names a=.ok b x) :
  ∃a' l,a'≤t.size∧val a'=.ok b l∧x.2=qBu x.1 l∧l≠[]∧KeyOK obj x.1∧(obj=true→¬x.1∈names):=by
 unfold itemR at h
 split at h
 ·rename_i hobj
  split at h
  ·have:=qAt (t:=t) (a:=a) (by omega)
   split at h
   ·cases h
   ·rename_i b1 l h1
    have h2:=qEa h1 (by simp)
    have hvl:=qE3 h1 qCz.nil
    split at h
    ·cases h
    ·rename_i hmem
     split at h
     ·rename_i hc
      have h3:=qAt (t:=t) (a:=skipS t b1) (by omega)
      have h4:=qBr t b1
      have h6:=qAu t (skipS t b1+1) (by omega)
      split at h
      ·cases h
      ·rename_i h7
       have h8:=hv _ _ _ h6 h7
       cases h
       exact ⟨_,_,h6,h7,rfl,h8.2.2.1,⟨hvl.bytes,.inl hobj⟩,fun _=>hmem⟩
     ·cases h
  ·cases h
 ·rename_i hobj
  split at h
  ·cases h
  ·rename_i h7
   have h8:=hv _ _ _ ha h7
   cases h
   exact ⟨_,_,ha,h7,(hk0 _ _ _ h7).symm,h8.2.2.1,⟨rfl,.inr rfl⟩,fun h=>(hobj h).elim⟩
theorem rowR_shape {t:ByteArray} {d:Nat} {val:Nat→Rd (List Eng.Node)} (hv:Adv t val) (hk0:∀a b l,val a=.ok b l→qBu ⟨#[]⟩ l=l) (hS:ShapeAt t d val) {obj:Bool}:∀ {m a k:Nat} {acc:List Eng.Node} {names:List ByteArray} {b:Nat} {x:Nat × List Eng.Node},a≤t.size→rowR t val obj m a k acc names=.ok b x →
  ∃(j:Nat) (more:List Eng.Node),x.1=k+j∧x.2=acc++more∧∀(pre post:List Eng.Node) (nm:List ByteArray),(obj=true→nm=names)→kidsS (pre++more++post) (oneS (pre++more++post) d obj) obj j pre.length nm=some (pre.length+more.length)
 | 0,a,k,acc,names,b,x,ha,h=>by cases h
 | m+1,a,k,acc,names,b,x,ha,h=>by
  unfold rowR at h
  split at h
  ·cases h
  ·rename_i b1 y h1
   obtain ⟨a',l,ha',hl,hy,hne,hkey,hmem⟩:=itemR_shape hv hk0 ha h1
   have hadv:=itemR_adv hv ha h1
   have hlen:y.2.length=l.length:=by rw [hy,qF9]
   have one:∀pre post,oneS (pre++y.2++post) d obj pre.length=some (pre.length+y.2.length)∧keyAt (pre++y.2++post) pre.length=y.1:=fun pre post=>by
    rw [hlen,hy]
    exact ⟨hS _ _ _ ha' hl _ obj pre post hkey,keyAt_pre pre post _ hne⟩
   have k1:=qBr t b1
   have k2:=qAu t b1 hadv.2.1
   have ncond:∀(pre post:List Eng.Node) (nm:List ByteArray),(obj=true→nm=names)→¬(obj=true∧keyAt (pre++y.2++post) pre.length∈nm):=fun pre post nm hnm h=>by
    rw [(one pre post).2,hnm h.1] at h
    exact hmem h.1 h.2
   split at h
   ·cases h
    refine ⟨1,y.2,rfl,rfl,fun pre post nm hnm=>?_⟩
    unfold kidsS
    rw [(one pre post).1]
    dsimp only
    rw [if_neg (ncond pre post nm hnm)]
    rfl
   ·split at h
    ·rename_i hcm
     have h3:=qAt (t:=t) (a:=skipS t b1) (by omega)
     have k4:=qAu t (skipS t b1+1) (by omega)
     obtain ⟨j,more,e1,e2,h4⟩:=rowR_shape hv hk0 hS k4 h
     refine ⟨j+1,y.2++more,by omega,by rw [e2,List.append_assoc],fun pre post nm hnm=>?_⟩
     have o1:=one pre (more++post)
     have n1:=ncond pre (more++post) nm hnm
     have h5:=h4 (pre++y.2) post (nm++[y.1]) (fun ho=>by rw [hnm ho])
     have e3:pre++(y.2++more)++post=pre++y.2++(more++post):=by simp
     have e4:pre++y.2++more++post=pre++y.2++(more++post):=by simp
     rw [e4,List.length_append] at h5
     rw [e3]
     unfold kidsS
     rw [o1.1]
     dsimp only
     rw [if_neg n1,o1.2,h5,List.length_append]
     congr 1
     omega
    ·cases h
theorem boxR_shape {t:ByteArray} {d:Nat} {val:Nat→Rd (List Eng.Node)} (hv:Adv t val) (hk0:∀a b l,val a=.ok b l→qBu ⟨#[]⟩ l=l) (hS:ShapeAt t d val) {ob:Bool} {a b:Nat} {l:List Eng.Node} (ha:a<t.size) (h:boxR t val ob a=.ok b l)
  (k:ByteArray) (obj:Bool) (pre post:List Eng.Node) (hk:KeyOK obj k):oneS (pre++qBu k l++post) (d+1) obj pre.length=some (pre.length+l.length):=by
 have k2:=qAu t (a+1) (by omega)
 have hbox:∀n:Nat,okB obj (setK k (nd0 (kindC ob) ⟨#[]⟩ false 0 (n:Int)))=true:=fun n=>okB_key hk (pB_box (by cases ob <;> first | exact .inl rfl | exact .inr rfl) (by show (0:Int)≤(n:Int); omega) rfl rfl rfl)
 have hkind:∀n:Nat,decide ((setK k (nd0 (kindC ob) ⟨#[]⟩ false 0 (n:Int))).kind=7)=ob:=fun n=>by cases ob <;> rfl
 unfold boxR at h
 split at h
 ·cases h
  show oneS (pre++[setK k (nd0 (kindC ob) ⟨#[]⟩ false 0 ((0:Nat):Int))]++post) (d+1) obj pre.length=_
  unfold oneS
  rw [at_pre]
  dsimp only
  rw [if_pos (hbox 0)]
  rfl
 ·split at h
  ·cases h
  ·rename_i b1 x h1
   cases h
   obtain ⟨j,more,e1,e2,h3⟩:=rowR_shape hv hk0 hS k2 h1
   simp only [List.nil_append,Nat.zero_add] at e1 e2
   rw [e1,e2]
   have h4:=h3 (pre++[setK k (nd0 (kindC ob) ⟨#[]⟩ false 0 (j:Int))]) post [] (fun _=>rfl)
   have e3:pre++[setK k (nd0 (kindC ob) ⟨#[]⟩ false 0 (j:Int))]++more++post=pre++(setK k (nd0 (kindC ob) ⟨#[]⟩ false 0 (j:Int))::more)++post:=by simp
   rw [e3,List.length_append,List.length_singleton] at h4
   show oneS (pre++(setK k (nd0 (kindC ob) ⟨#[]⟩ false 0 (j:Int))::more)++post) (d+1) obj pre.length=_
   unfold oneS
   rw [at_pre]
   dsimp only
   rw [if_pos (hbox j),hkind j]
   show kidsS _ _ ob (Int.toNat (j:Int)) _ _=_
   rw [Int.toNat_natCast,h4,List.length_cons]
   congr 1
   omega
theorem valR_shape {t:ByteArray} (hs:t.size≤600000):∀d,ShapeAt t d (valR t d)
 | 0=>fun a b l ha h=>by
  unfold valR at h
  split at h
  ·cases h
  ·exact scalR_shape hs 0 a b l ha h
 | d+1=>fun a b l ha h=>by
  unfold valR at h
  split at h
  ·have hlt:=qAt (t:=t) (a:=a) (by omega)
   exact boxR_shape (qC6 t d) (fun a b l h=>valR_key h) (valR_shape hs d) hlt h
  ·exact scalR_shape hs (d+1) a b l ha h
theorem readR_shape {t:ByteArray} (hs:t.size≤262144) {b:Nat} {l:List Eng.Node} (h:readR t=.ok b l):oneS l 32 false 0=some l.length:=by
 unfold readR at h
 have k:=qAu t 0 (by omega)
 split at h
 ·cases h
 ·rename_i h1
  split at h
  ·cases h
  ·cases h
   have:=valR_shape (t:=t) (by omega) 32 _ _ _ k h1 ⟨#[]⟩ false [] [] ⟨rfl,.inr rfl⟩
   rw [valR_key h1,List.nil_append,List.append_nil,List.length_nil,Nat.zero_add] at this
   exact this
theorem SizeN.okN {m:Nat} (hm:m≤3000000) {n:Eng.Node} (h:SizeN m n):OkN n:=⟨by unfold SizeN at h; omega,by unfold SizeN at h; omega,by unfold SizeN at h; unfold InI64; omega⟩
end Go.Proofs.YtdcoiccdbgcpaaaDoor
