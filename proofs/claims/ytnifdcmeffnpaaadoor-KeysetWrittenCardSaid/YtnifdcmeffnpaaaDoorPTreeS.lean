/-
  Texts of a claim.
-/
import Derived.Test.YtnifdcmeffnpaaaDoorPValid
import Derived.Test.YtnifdcmeffnpaaaDoorPUtf
import Derived.Test.YtnifdcmeffnpaaaDoorJW
namespace Go.Proofs.YtnifdcmeffnpaaaDoor
open Go.Eng
set_option linter.unusedVariables false
set_option linter.unusedSimpArgs false
section
variable {t:BA} {a b:Nat} (hb:b≤t.size)
include hb
theorem ex_in {i:Int} {j:Nat} (h0:0≤i) (hj:(j:Int)=a+i) (hjb:j<b):bAt (t.extract a b) i=bAt t (j:Int):=by
 have _:=hb;rw [qDa t a b i h0 (by omega),hj]
theorem ex_out {i:Int} (h:(b:Int)≤a+i) (hab:a≤b):bAt (t.extract a b) i = -1:=by
 refine qBt ?_;rw [ByteArray.size_extract];omega
theorem many_min:∀(n i:Nat),b - (a+i)≤n→a+i≤b→qCw (t.extract a b) i+a=min (qCw t (a+i)) b
 | 0,i,h1,h2=>by
  have e:digS (t.extract a b) (i:Int)=false:=by
   unfold digS;rw [ex_out hb (i:=(i:Int)) (by omega) (by omega)];rfl
  have:=qEe t (a+i);rw [qBx e];omega
 | n+1,i,h1,h2=>by
  by_cases hlt:a+i<b
  ·have e:digS (t.extract a b) (i:Int)=digS t ((a+i:Nat):Int):=by
    unfold digS;rw [ex_in hb (i:=(i:Int)) (j:=a+i) (by omega) (by omega) hlt]
   by_cases hd:digS t ((a+i:Nat):Int)=true
   ·have ih:=many_min n (i+1) (by omega) (by omega);rw [qCf (e.trans hd),qCf hd];exact ih
   ·have hd:digS t ((a+i:Nat):Int)=false:=by simpa using hd
    rw [qBx (e.trans hd),qBx hd];omega
  ·have e:digS (t.extract a b) (i:Int)=false:=by
    unfold digS;rw [ex_out hb (i:=(i:Int)) (by omega) (by omega)];rfl
   have:=qEe t (a+i);rw [qBx e];omega
end
theorem digS_not {t:BA} {i:Nat} (h:bAt t i=46∨bAt t i=101∨bAt t i=69):digS t (i:Int)=false:=by
 unfold digS;rcases h with h | h | h <;> rw [h] <;> rfl
theorem numR_valid {t:BA} {a b:Nat} {u:Unit} (ha:a<t.size) (h:numR t a=.ok b u):qCh (t.extract a b)=true:=by
 have hadv:=numR_adv ha h;have hb:=hadv.2;unfold numR at h;cases hz:zeroR t (signS t a) with
 | bad c x=>rw [hz] at h; cases h
 | ok b1 x1 =>
  rw [hz] at h;dsimp only at h;cases hd:dotR t b1 with
  | bad c x=>rw [hd] at h; cases h
  | ok b2 x2 =>
   rw [hd] at h;dsimp only at h;have hsz:(t.extract a b).size=b - a:=by rw [ByteArray.size_extract]; omega
   have hA:signS t a=a+atA (t.extract a b):=by
    unfold signS atA;rw [ex_in hb (i:=0) (j:=a) (by omega) (by omega) (by omega)];split <;> rfl
   have hsg:signS t a≤t.size:=by unfold signS; split <;> omega
   have z1:=zeroR_adv hsg hz;have z2:=dotR_adv z1.2 hd;have z3:=powR_adv z2.2 h;generalize hs:t.extract a b=s at *
   have inn:∀ {i:Int} {j:Nat},0≤i→(j:Int)=a+i→j<b→bAt s i=bAt t (j:Int):=fun h0 hj hjb=>by rw [←hs]; exact ex_in hb h0 hj hjb
   have out:∀ {i:Int},(b:Int)≤a+i→bAt s i = -1:=fun h=>by rw [←hs]; exact ex_out hb h (by omega)
   have mm:∀i:Nat,a+i≤b→qCw s i+a=min (qCw t (a+i)) b:=fun i hi=>by rw [←hs]; exact many_min hb (b - (a+i)) i (Nat.le_refl _) hi
   have hchar:b1<b→bAt t b1=46∨bAt t b1=101∨bAt t b1=69:=by
    intro hlt;unfold dotR at hd;split at hd
    ·rename_i h46; exact .inl h46
    ·cases hd;unfold powR at h;split at h
     ·rename_i he; exact .inr he
     ·cases h; omega
   have hB:atB s+a=b1:=by
    unfold atB;rw [mm (atA s) (by omega),←hA];unfold zeroR at hz;split at hz
    ·rename_i h48;cases hz;have hdg:digS t ((signS t a:Nat):Int)=true:=by
      unfold digS;rw [h48];rfl
     rw [qCf hdg];by_cases hlt:signS t a+1<b
     ·rw [qBx (digS_not (hchar hlt))];omega
     ·have:=qEe t (signS t a+1);omega
    ·have:=qEf hsg hz;omega
   have hbad:badA s=false:=by
    unfold badA;rw [deF (show ¬atB s=atA s by omega),Bool.false_or];by_cases h48:bAt s (atA s:Int)=48
    ·have e:=inn (i:=(atA s:Int)) (j:=signS t a) (by omega) (by omega) (by omega);rw [e] at h48;unfold zeroR at hz;rw [if_pos h48] at hz;cases hz;rw [deF (show ¬atA s+1<atB s by omega),Bool.and_false]
    ·rw [deF h48,Bool.false_and]
   have hdot:dotS s=decide (bAt t b1=46∧b1<b):=by
    unfold dotS;by_cases hlt:b1<b
    ·rw [inn (i:=(atB s:Int)) (j:=b1) (by omega) (by omega) hlt];exact decide_eq_decide.2 ⟨fun h=>⟨h,hlt⟩,fun h=>h.1⟩
    ·rw [out (i:=(atB s:Int)) (by omega),deF (by omega),deF (by omega)]
   have hC:atC s+a=b2∧(dotS s=true→atK s≠atB s+1):=by
    unfold atC;unfold dotR at hd;split at hd
    ·rename_i h46;have hl46:=qA3 (t:=t) (a:=b1) (by omega);have hq:=qEf (by omega) hd;have hK:atK s+a=b2:=by
      unfold atK;rw [mm (atB s+1) (by omega),show a+(atB s+1)=b1+1 by omega,←hq.2.2];omega
     rw [hdot,deT ⟨h46,by omega⟩,if_pos rfl];exact ⟨hK,fun _=>by omega⟩
    ·rename_i h46;cases hd;rw [hdot,deF (fun h=>h46 h.1),if_neg (by decide)];exact ⟨hB,fun h=>by cases h⟩
   have hG:atG s+a=b∧(expS s=true→atF s≠atE s):=by
    unfold powR at h;split at h
    ·rename_i he;have hle:=qA3 (t:=t) (a:=b2) (by omega);have hqs:(if bAt t ((b2+1:Nat):Int)=43∨bAt t ((b2+1:Nat):Int)=45 then b2+2 else b2+1)≤t.size:=by
      split
      ·have:=qA3 (t:=t) (a:=b2+1) (by omega);omega
      ·omega
     have hq:=qEf hqs h;have hq1:b2+1<b:=by
      have:=hq.1;split at this <;> omega
     have hexp:expS s=true:=by
      unfold expS;rw [inn (i:=(atC s:Int)) (j:=b2) (by omega) (by omega) (by omega)];simpa using he
     have hE:atE s+a=if bAt t ((b2+1:Nat):Int)=43∨bAt t ((b2+1:Nat):Int)=45 then b2+2 else b2+1:=by
      unfold atE sgnS;rw [inn (i:=(atC s:Int)+1) (j:=b2+1) (by omega) (by omega) (by omega)];by_cases hsn:bAt t ((b2+1:Nat):Int)=43∨bAt t ((b2+1:Nat):Int)=45
      ·rw [if_pos (by simpa using hsn),if_pos hsn];omega
      ·rw [if_neg (by simpa using hsn),if_neg hsn];omega
     generalize (if bAt t ((b2+1:Nat):Int)=43∨bAt t ((b2+1:Nat):Int)=45 then b2+2 else b2+1)=q at *
     have hF:atF s+a=b:=by
      unfold atF;rw [mm (atE s) (by omega),show a+atE s=q by omega,←hq.2.2];omega
     unfold atG;rw [hexp,if_pos rfl];exact ⟨hF,fun _=>by omega⟩
    ·cases h;have hexp:expS s=false:=by
      unfold expS;rw [out (i:=(atC s:Int)) (by omega)];rfl
     unfold atG;rw [hexp,if_neg (by decide)];exact ⟨hC.1,fun h=>by cases h⟩
   unfold qCh;rw [hbad,deT (show atG s=s.size by omega),Bool.and_true];have e1:(dotS s && decide (atK s=atB s+1))=false:=by
    cases hds:dotS s with
    | false=>rfl
    | true=>rw [deF (hC.2 hds)]; rfl
   have e2:(expS s && decide (atF s=atE s))=false:=by
    cases hes:expS s with
    | false=>rfl
    | true=>rw [deF (hG.2 hes)]; rfl
   rw [e1,e2];rfl
theorem pB_num {n:Eng.Node} (hn:n.text.size≤3000000) (h4:n.kind=4) (hk:n.kids=0) (hv:qCh n.text=true) (hw:n.whole=(qFc n.text).2) (hi:n.int=(qFc n.text).1):pB n=true:=by
 unfold pB zao_s;rw [p_Valid _ hn,whole_j _ hn,hv,h4,hk,hw,hi];simp
theorem pB_str {n:Eng.Node} (hn:n.text.size≤3000000) (h5:n.kind=5) (hk:n.kids=0) (hw:n.whole=false) (hi:n.int=0) (hv:Lib.validD n.text.data.toList=true):pB n=true:=by
 have hu:qBd n.text=some (Lib.validD n.text.data.toList):=qAa (by omega) _;unfold pB zao_s;rw [hu,h5,hk,hw,hi,hv];rfl
theorem pB_bare {n:Eng.Node} (h1:n.kind=1∨n.kind=2∨n.kind=3) (hk:n.kids=0) (hw:n.whole=false) (hi:n.int=0) (ht:n.text=⟨#[]⟩):pB n=true:=by
 unfold pB zao_s;rw [hk,hw,hi,ht];rcases h1 with h1 | h1 | h1 <;> rw [h1] <;> rfl
theorem pB_box {n:Eng.Node} (h1:n.kind=6∨n.kind=7) (hk:0≤n.kids) (hw:n.whole=false) (hi:n.int=0) (ht:n.text=⟨#[]⟩):pB n=true:=by
 unfold pB zao_s;rw [hw,hi,ht];rcases h1 with h1 | h1
 ·rw [h1,deF (show ¬n.kids<0 by omega)];simp
 ·rw [h1,deF (show ¬n.kids<0 by omega)];simp
def KeyOK (obj:Bool) (k:BA):Prop:=Lib.validD k.data.toList=true∧(obj=true∨k=⟨#[]⟩)
theorem okB_key {obj:Bool} {k:BA} (hk:KeyOK obj k) {n:Eng.Node} (h:pB (setK k n)=true):okB obj (setK k n)=true:=by
 unfold okB;rw [h];show (true && Lib.validD k.data.toList && (obj || decide (k=(⟨#[]⟩:BA))))=true
 rw [hk.1];rcases hk.2 with h | h
 ·rw [h]; rfl
 ·rw [deT h]; simp
def LeafOK (n:Eng.Node):Prop:=n.kids=0∧n.kind<6∧∀k,pB (setK k n)=true
theorem scalR_leaf {t:BA} (hs:t.size≤600000) {a b:Nat} {l:List Eng.Node} (ha:a≤t.size) (h:qCx t a=.ok b l):∃n,l=[n]∧LeafOK n:=by
 unfold qCx at h;split at h
 ·split at h
  ·cases h
  ·rename_i b1 l1 h1;have h2:=qEs h1 (by simp);have h3:=qE8 h1 qCv.nil;have hlt:=qA3 (t:=t) (a:=a) (by omega);cases h;refine ⟨_,rfl,rfl,by show (5:Int)<6; decide,fun k=>pB_str ?_ rfl rfl rfl rfl h3.bytes⟩;show (qA4 l1).size≤_;rw [bytesI_size];have:=h2.2.2.2;simp only [List.length_nil,Nat.zero_add] at this;omega
 ·split at h
  ·rename_i hc;have hlt:=qA3 (t:=t) (a:=a) (by omega);split at h
   ·cases h
   ·rename_i b1 x1 h1;cases h;refine ⟨_,rfl,rfl,by show (4:Int)<6; decide,fun k=>pB_num ?_ rfl rfl (numR_valid hlt h1) rfl rfl⟩;show (t.extract a _).size≤_;rw [ByteArray.size_extract];omega
  ·split at h
   ·split at h
    ·cases h
    ·cases h;exact ⟨_,rfl,rfl,by show (1:Int)<6; decide,fun k=>pB_bare (.inl rfl) rfl rfl rfl rfl⟩
   ·split at h
    ·split at h
     ·cases h
     ·cases h;exact ⟨_,rfl,rfl,by show (2:Int)<6; decide,fun k=>pB_bare (.inr (.inl rfl)) rfl rfl rfl rfl⟩
    ·split at h
     ·split at h
      ·cases h
      ·cases h;exact ⟨_,rfl,rfl,by show (3:Int)<6; decide,fun k=>pB_bare (.inr (.inr rfl)) rfl rfl rfl rfl⟩
     ·cases h
def ShapeAt (t:BA) (d:Nat) (val:Nat→Rd (List Eng.Node)):Prop:=∀a b l,a≤t.size→val a=.ok b l→∀(k:BA) (obj:Bool) (pre post:List Eng.Node),KeyOK obj k→oneS (pre++qBo k l++post) d obj pre.length=some (pre.length+l.length)
theorem leaf_shape {n:Eng.Node} (hn:LeafOK n) (d:Nat) {obj:Bool} {k:BA} (hk:KeyOK obj k) (pre post:List Eng.Node):oneS (pre++[setK k n]++post) d obj pre.length=some (pre.length+1):=by
 have h1:=at_pre pre post (setK k n) [];have h2:=okB_key hk (hn.2.2 k);cases d with
 | zero =>
  unfold oneS;rw [h1];dsimp only;rw [if_pos ⟨h2,hn.2.1⟩]
 | succ d =>
  unfold oneS;rw [h1];dsimp only;rw [if_pos h2];show qD1 _ _ _ (Int.toNat n.kids) _ _=_;rw [hn.1];rfl
theorem scalR_shape {t:BA} (hs:t.size≤600000) (d:Nat):ShapeAt t d (qCx t):=by
 intro a b l ha h k obj pre post hk;obtain ⟨n,rfl,hn⟩:=scalR_leaf hs ha h;exact leaf_shape hn d hk pre post
theorem keyAt_pre (pre post:List Eng.Node) (k:BA) {l:List Eng.Node} (hl:l≠[]):qCg (pre++qBo k l++post) pre.length=k:=by
 cases l with
 | nil=>exact (hl rfl).elim
 | cons n r =>
  unfold qCg;rw [List.getD_eq_getElem?_getD];show ((pre++(setK k n::r)++post)[pre.length]?.getD _).key=k;rw [at_pre];rfl
theorem itemR_shape {t:BA} {val:Nat→Rd (List Eng.Node)} (hv:Adv t val) (hk0:∀a b l,val a=.ok b l→qBo ⟨#[]⟩ l=l) {obj:Bool} {names:List BA} {a b:Nat} {x:BA × List Eng.Node} (ha:a≤t.size) (h:qEl t val obj names a=.ok b x) :
  ∃a' l,a'≤t.size∧val a'=.ok b l∧x.2=qBo x.1 l∧l≠[]∧KeyOK obj x.1∧(obj=true→¬x.1∈names):=by
 unfold qEl at h;split at h
 ·rename_i hobj;split at h
  ·have:=qA3 (t:=t) (a:=a) (by omega);split at h
   ·cases h
   ·rename_i b1 l h1;have h2:=qEs h1 (by simp);have hvl:=qE8 h1 qCv.nil;split at h
    ·cases h
    ·rename_i hmem;split at h
     ·rename_i hc;have h3:=qA3 (t:=t) (a:=qAz t b1) (by omega);have h4:=qBp t b1;have h6:=qA7 t (qAz t b1+1) (by omega);split at h
      ·cases h
      ·rename_i h7;have h8:=hv _ _ _ h6 h7;cases h;exact ⟨_,_,h6,h7,rfl,h8.2.2.1,⟨hvl.bytes,.inl hobj⟩,fun _=>hmem⟩
     ·cases h
  ·cases h
 ·rename_i hobj;split at h
  ·cases h
  ·rename_i h7;have h8:=hv _ _ _ ha h7;cases h;exact ⟨_,_,ha,h7,(hk0 _ _ _ h7).symm,h8.2.2.1,⟨rfl,.inr rfl⟩,fun h=>(hobj h).elim⟩
theorem rowR_shape {t:BA} {d:Nat} {val:Nat→Rd (List Eng.Node)} (hv:Adv t val) (hk0:∀a b l,val a=.ok b l→qBo ⟨#[]⟩ l=l) (hS:ShapeAt t d val) {obj:Bool}:∀ {m a k:Nat} {acc:List Eng.Node} {names:List BA} {b:Nat} {x:Nat × List Eng.Node},a≤t.size→rowR t val obj m a k acc names=.ok b x →
  ∃(j:Nat) (more:List Eng.Node),x.1=k+j∧x.2=acc++more∧∀(pre post:List Eng.Node) (nm:List BA),(obj=true→nm=names)→qD1 (pre++more++post) (oneS (pre++more++post) d obj) obj j pre.length nm=some (pre.length+more.length)
 | 0,a,k,acc,names,b,x,ha,h=>by cases h
 | m+1,a,k,acc,names,b,x,ha,h=>by
  unfold rowR at h;split at h
  ·cases h
  ·rename_i b1 y h1;obtain ⟨a',l,ha',hl,hy,hne,hkey,hmem⟩:=itemR_shape hv hk0 ha h1;have hadv:=itemR_adv hv ha h1;have hlen:y.2.length=l.length:=by rw [hy,qG6]
   have one:∀pre post,oneS (pre++y.2++post) d obj pre.length=some (pre.length+y.2.length)∧qCg (pre++y.2++post) pre.length=y.1:=fun pre post=>by
    rw [hlen,hy];exact ⟨hS _ _ _ ha' hl _ obj pre post hkey,keyAt_pre pre post _ hne⟩
   have k1:=qBp t b1;have k2:=qA7 t b1 hadv.2.1;have ncond:∀(pre post:List Eng.Node) (nm:List BA),(obj=true→nm=names)→¬(obj=true∧qCg (pre++y.2++post) pre.length∈nm):=fun pre post nm hnm h=>by
    rw [(one pre post).2,hnm h.1] at h;exact hmem h.1 h.2
   split at h
   ·cases h;refine ⟨1,y.2,rfl,rfl,fun pre post nm hnm=>?_⟩;unfold qD1;rw [(one pre post).1];dsimp only;rw [if_neg (ncond pre post nm hnm)];rfl
   ·split at h
    ·rename_i hcm;have h3:=qA3 (t:=t) (a:=qAz t b1) (by omega);have k4:=qA7 t (qAz t b1+1) (by omega);obtain ⟨j,more,e1,e2,h4⟩:=rowR_shape hv hk0 hS k4 h;refine ⟨j+1,y.2++more,by omega,by rw [e2,List.append_assoc],fun pre post nm hnm=>?_⟩;have o1:=one pre (more++post);have n1:=ncond pre (more++post) nm hnm;have h5:=h4 (pre++y.2) post (nm++[y.1]) (fun ho=>by rw [hnm ho]);have e3:pre++(y.2++more)++post=pre++y.2++(more++post):=by simp
     have e4:pre++y.2++more++post=pre++y.2++(more++post):=by simp
     rw [e4,List.length_append] at h5;rw [e3];unfold qD1;rw [o1.1];dsimp only;rw [if_neg n1,o1.2,h5,List.length_append];congr 1
     omega
    ·cases h
theorem boxR_shape {t:BA} {d:Nat} {val:Nat→Rd (List Eng.Node)} (hv:Adv t val) (hk0:∀a b l,val a=.ok b l→qBo ⟨#[]⟩ l=l) (hS:ShapeAt t d val) {ob:Bool} {a b:Nat} {l:List Eng.Node} (ha:a<t.size) (h:boxR t val ob a=.ok b l)
  (k:BA) (obj:Bool) (pre post:List Eng.Node) (hk:KeyOK obj k):oneS (pre++qBo k l++post) (d+1) obj pre.length=some (pre.length+l.length):=by
 have k2:=qA7 t (a+1) (by omega);have hbox:∀n:Nat,okB obj (setK k (nd0 (qB7 ob) ⟨#[]⟩ false 0 (n:Int)))=true:=fun n=>okB_key hk (pB_box (by cases ob <;> first | exact .inl rfl | exact .inr rfl) (by show (0:Int)≤(n:Int); omega) rfl rfl rfl)
 have hkind:∀n:Nat,decide ((setK k (nd0 (qB7 ob) ⟨#[]⟩ false 0 (n:Int))).kind=7)=ob:=fun n=>by cases ob <;> rfl
 unfold boxR at h;split at h
 ·cases h;show oneS (pre++[setK k (nd0 (qB7 ob) ⟨#[]⟩ false 0 ((0:Nat):Int))]++post) (d+1) obj pre.length=_;unfold oneS;rw [at_pre];dsimp only;rw [if_pos (hbox 0)];rfl
 ·split at h
  ·cases h
  ·rename_i b1 x h1;cases h;obtain ⟨j,more,e1,e2,h3⟩:=rowR_shape hv hk0 hS k2 h1;simp only [List.nil_append,Nat.zero_add] at e1 e2;rw [e1,e2];have h4:=h3 (pre++[setK k (nd0 (qB7 ob) ⟨#[]⟩ false 0 (j:Int))]) post [] (fun _=>rfl);have e3:pre++[setK k (nd0 (qB7 ob) ⟨#[]⟩ false 0 (j:Int))]++more++post=pre++(setK k (nd0 (qB7 ob) ⟨#[]⟩ false 0 (j:Int))::more)++post:=by simp
   rw [e3,List.length_append,List.length_singleton] at h4;show oneS (pre++(setK k (nd0 (qB7 ob) ⟨#[]⟩ false 0 (j:Int))::more)++post) (d+1) obj pre.length=_;unfold oneS;rw [at_pre];dsimp only;rw [if_pos (hbox j),hkind j];show qD1 _ _ ob (Int.toNat (j:Int)) _ _=_;rw [Int.toNat_natCast,h4,List.length_cons];congr 1
   omega
theorem valR_shape {t:BA} (hs:t.size≤600000):∀d,ShapeAt t d (valR t d)
 | 0=>fun a b l ha h=>by
  unfold valR at h;split at h
  ·cases h
  ·exact scalR_shape hs 0 a b l ha h
 | d+1=>fun a b l ha h=>by
  unfold valR at h;split at h
  ·have hlt:=qA3 (t:=t) (a:=a) (by omega);exact boxR_shape (qEc t d) (fun a b l h=>valR_key h) (valR_shape hs d) hlt h
  ·exact scalR_shape hs (d+1) a b l ha h
theorem readR_shape {t:BA} (hs:t.size≤262144) {b:Nat} {l:List Eng.Node} (h:readR t=.ok b l):oneS l 32 false 0=some l.length:=by
 unfold readR at h;have k:=qA7 t 0 (by omega);split at h
 ·cases h
 ·rename_i h1;split at h
  ·cases h
  ·cases h;have:=valR_shape (t:=t) (by omega) 32 _ _ _ k h1 ⟨#[]⟩ false [] [] ⟨rfl,.inr rfl⟩;rw [valR_key h1,List.nil_append,List.append_nil,List.length_nil,Nat.zero_add] at this;exact this
theorem qG3.okN {m:Nat} (hm:m≤3000000) {n:Eng.Node} (h:qG3 m n):OkN n:=⟨by unfold qG3 at h; omega,by unfold qG3 at h; omega,by unfold qG3 at h; unfold qAj; omega⟩
end Go.Proofs.YtnifdcmeffnpaaaDoor
namespace Go.Proofs.YtnifdcmeffnpaaaDoor
open Go.Eng
set_option linter.unusedVariables false
set_option linter.unusedSimpArgs false
def hexD (n:Int):Int:=if n<10 then 48+n else 87+n
def escB (c:Int):List Int :=
 if c=34∨c=92 then [92,c] else if c=8 then [92,98] else if c=12 then [92,102] else if c=10 then [92,110] else if c=13 then [92,114] else if c=9 then [92,116]
 else if c<32 then [92,117,48,48,hexD (c / 16),hexD (c % 16)] else [c]
def escL (l:List Int):List Int:=l.flatMap escB
def quoL (s:BA):List Int:=34::(escL (qAh s)++[34])
theorem escB_len (c:Int):1≤(escB c).length∧(escB c).length≤6:=by
 unfold escB;repeat' split
 all_goals simp
theorem escL_len:∀l:List Int,(escL l).length≤6*l.length
 | []=>Nat.le_refl _
 | c::l=>by
  have h1:=escB_len c;have h2:=escL_len l;show (escB c++escL l).length≤_;simp only [List.length_append,List.length_cons];omega
theorem qAp (s:BA):(qAh s).length=s.size:=by
 simp [qAh]
theorem qDg {s:BA} {i:Nat} (h:i<s.size):(qAh s)[i]?=some (bAt s i):=by
 rw [bAt_in h];unfold qAh;have h':i<s.data.toList.length:=by rw [Array.length_toList]; exact h
 rw [List.getElem?_map,List.getElem?_eq_getElem h'];rfl
theorem qC8 {s:BA} {i:Nat} (h:i<s.size):(qAh s).drop i=bAt s i::(qAh s).drop (i+1):=by
 have hl:i<(qAh s).length:=by rw [qAp]; exact h
 have:=qDg h;rw [List.getElem?_eq_getElem hl,snJ] at this;rw [List.drop_eq_getElem_cons hl,this]
theorem bytesL_app (a b:BA):qAh (a++b)=qAh a++qAh b:=by
 unfold qAh;rw [ByteArray.data_append,Array.toList_append,List.map_append]
theorem bytesL_ext (s:BA) (a b:Nat):qAh (s.extract a b)=((qAh s).take b).drop a:=by
 unfold qAh;rw [ByteArray.data_extract,Array.toList_extract,List.extract_eq_drop_take',List.map_drop,List.map_take]
theorem bytesL_range (s:BA):∀x∈qAh s,0≤x∧x<256:=by
 intro x hx;simp only [qAh,List.mem_map] at hx;obtain ⟨b,_,rfl⟩:=hx;have:=b.toNat_lt;omega
theorem bytesI_of (s:BA):qA4 (qAh s)=s:=by
 rw [bytesI_eq];unfold qAh;rw [List.map_map];have:((fun n:Int=>UInt8.ofNat n.toNat) ∘ fun b:UInt8=>(b.toNat:Int))=id:=by
  funext b
  show UInt8.ofNat ((b.toNat:Int)).toNat=b;rw [Int.toNat_natCast];exact UInt8.ofNat_toNat
 rw [this,List.map_id]
theorem bytesL_of {l:List Int} (h:∀x∈l,0≤x∧x<256):qAh (qA4 l)=l:=by
 rw [bytesI_eq];unfold qAh;show List.map _ (List.map (fun n:Int=>UInt8.ofNat n.toNat) l).toArray.toList=l;rw [List.map_map];conv=>rhs; rw [←List.map_id l]
 refine List.map_congr_left fun x hx=>?_
 have hx:=h x hx;show ((UInt8.ofNat x.toNat).toNat:Int)=x;have:(UInt8.ofNat x.toNat).toNat=x.toNat:=by
  rw [UInt8.toNat_ofNat'];exact Nat.mod_eq_of_lt (by omega)
 rw [this];omega
theorem escB_range {c:Int} (h:0≤c∧c<256):∀x∈escB c,0≤x∧x<256:=by
 unfold escB hexD;repeat' split
 all_goals intro x hx; simp at hx; omega
theorem escL_range {l:List Int} (h:∀x∈l,0≤x∧x<256):∀x∈escL l,0≤x∧x<256:=by
 intro x hx;unfold escL at hx;rw [List.mem_flatMap] at hx;obtain ⟨c,hc,hx⟩:=hx;exact escB_range (h c hc) x hx
theorem quoL_range (s:BA):∀x∈quoL s,0≤x∧x<256:=by
 intro x hx;simp only [quoL,List.mem_cons,List.mem_append,List.not_mem_nil,or_false] at hx;rcases hx with rfl | hx | rfl
 ·omega
 ·exact escL_range (bytesL_range s) x hx
 ·omega
theorem quoL_len (s:BA):(quoL s).length≤6*s.size+2:=by
 have:=escL_len (qAh s);rw [qAp] at this;simp only [quoL,List.length_cons,List.length_append,List.length_nil];omega
def hexT:BA:=⟨#[48,49,50,51,52,53,54,55,56,57,97,98,99,100,101,102]⟩
theorem p_cc (b:qG9):zch_s b=some ⟨true,b.buf⟩:=by
 obtain ⟨a,l⟩:=b;unfold zch_s;cases a <;> rfl
theorem p_ws (a:Bool) (buf:List Int) (s:BA) (h:buf.length+s.size≤140737488355328):zcg_s ⟨a,buf⟩ s=some (⟨true,buf++qAh s⟩,(s.size:Int),()):=by
 unfold zcg_s;rw [p_cc,obS];exact qAa h _
theorem p_wb (a:Bool) (buf:List Int) (c:Int) (h:buf.length≤140737488355000):zcf_s ⟨a,buf⟩ c=some (⟨true,buf++[c]⟩,()):=by
 unfold zcf_s;rw [p_cc,obS];exact qAa (by simp; omega) _
def escT:BA:=⟨#[8,12,10,13,9,34,92]⟩
def escU:BA:=⟨#[98,102,110,114,116,34,92]⟩
def escS (r:Int):BA:=(⟨#[92]⟩:BA)++(escU.extract (Int.toNat r) (Int.toNat (r+1)))
def escV (c:Int):BA:=((⟨#[92,117,48,48]⟩:BA)++(hexT.extract (Int.toNat (c / 16)) (Int.toNat (((c / 16)+1) % 256))))++(hexT.extract (Int.toNat (qBg .u8 c 15)) (Int.toNat (((qBg .u8 c 15)+1) % 256)))
noncomputable def escChk (c:Int):Bool :=
 match zcj_s escT c with
 | some r=>if 0≤r then decide (r+1≤7) && decide (qAh (escS r)=escB c) else
   decide (0≤qBg .u8 c 15∧qBg .u8 c 15≤((qBg .u8 c 15)+1) % 256∧((qBg .u8 c 15)+1) % 256≤16) && decide (0≤c / 16∧c / 16≤((c / 16)+1) % 256∧((c / 16)+1) % 256≤16) && decide (qAh (escV c)=escB c)
 | none=>false
set_option maxRecDepth 100000 in
theorem escChk_all:∀c:Fin 256,c.val<32∨c.val=34∨c.val=92→escChk (c.val:Int)=true:=by decide +kernel
theorem esc_run {c:Int} (h0:0≤c∧c<256) (hc:c<32∨c=34∨c=92):∃r,zcj_s escT c=some r ∧
  ((0≤r∧r+1≤7∧qAh (escS r)=escB c)∨(r<0∧(0≤qBg .u8 c 15∧qBg .u8 c 15≤((qBg .u8 c 15)+1) % 256∧((qBg .u8 c 15)+1) % 256≤16)∧(0≤c / 16∧c / 16≤((c / 16)+1) % 256∧((c / 16)+1) % 256≤16)∧qAh (escV c)=escB c)):=by
 have h:=escChk_all ⟨c.toNat,by omega⟩ (by simp only; omega);simp only at h;rw [Int.toNat_of_nonneg h0.1] at h;unfold escChk at h;cases hr:zcj_s escT c with
 | none=>rw [hr] at h; cases h
 | some r =>
  rw [hr] at h;dsimp only at h;refine ⟨r,rfl,?_⟩;by_cases h1:0≤r
  ·rw [if_pos h1,Bool.and_eq_true,decide_eq_true_eq,decide_eq_true_eq] at h;exact .inl ⟨h1,h⟩
  ·rw [if_neg h1,Bool.and_eq_true,Bool.and_eq_true,decide_eq_true_eq,decide_eq_true_eq,decide_eq_true_eq] at h;exact .inr ⟨by omega,h.1.1,h.1.2,h.2⟩
theorem qD9 (a b:BA):(a++b).size=a.size+b.size:=by
 rw [ByteArray.size_append]
theorem escS_size {c r:Int} (h:qAh (escS r)=escB c):(escS r).size≤6:=by
 rw [←qAp,h];exact (escB_len c).2
theorem escV_size {c:Int} (h:qAh (escV c)=escB c):(escV c).size≤6:=by
 rw [←qAp,h];exact (escB_len c).2
theorem quo_step {s:BA} (hs:s.size≤3000000) {x f:Nat} (hx:x<s.size) (hf:f≤x) (buf:List Int) (hb:buf.length+6*(s.size - f)≤140737488355000) :
  qD8 s (f:Int) (s.size:Int) (x:Int) true buf=if bAt s x<32∨bAt s x=34∨bAt s x=92 then some (.inl (((x+1:Nat):Int),((x+1:Nat):Int),true,buf++qAh (s.extract f x)++escB (bAt s x))) else some (.inl ((f:Int),((x+1:Nat):Int),true,buf)):=by
 have hr:=qGx s x;have hn:=bAt_nn (s:=s) (i:=(x:Int)) (by omega) (by omega);unfold qD8;rw [deT (by omega),cnT,qAa (by omega)];generalize bAt s (x:Int)=c at *
 have e1:(((decide ((32:Int)≤c)) && (!decide (c=(34:Int)))) && (!decide (c=(92:Int))))=!decide (c<32∨c=34∨c=92):=by
  rw [Bool.eq_iff_iff];simp only [Bool.and_eq_true,Bool.not_eq_true',decide_eq_true_eq,decide_eq_false_iff_not];omega
 rw [e1];by_cases h:c<32∨c=34∨c=92
 ·rw [deT h,Bool.not_true,cnF,if_pos h,qAa (by omega)];have hz:(s.extract f x).size=x - f:=by rw [ByteArray.size_extract]; omega
  rw [show Int.toNat (f:Int)=f from rfl,show Int.toNat (x:Int)=x from rfl,p_ws true buf _ (by omega),obS,qAa (by unfold qAj; omega)];obtain ⟨r,h1,h2⟩:=esc_run (c:=c) (by omega) h;rw [show (⟨#[8,12,10,13,9,34,92]⟩:BA)=escT from rfl,h1,obS];have hbl:(buf++qAh (s.extract f x)).length≤140737488354994:=by
   rw [List.length_append,qAp]; omega
  rcases h2 with ⟨h3,h4,h5⟩ | ⟨h3,h4,h5,h6⟩
  ·have hsz:=escS_size h5;rw [deT h3,cnT,qAa (by unfold qAj; omega),qAa ⟨h3,by omega,h4⟩];have hss:((⟨#[92]⟩:BA)++((⟨#[98,102,110,114,116,34,92]⟩:BA).extract (Int.toNat r) (Int.toNat (r+(1:Int)))))=escS r:=rfl;rw [hss,qAa (by rw [←qD9,hss]; omega),p_ws _ _ _ (by omega),obS,h5];exact qAa (by unfold qAj; omega) _
  ·have hsz:=escV_size h6;rw [deF (by omega),cnF,qAa (by omega),qAa (by omega)];refine (qAa h5 _).trans ?_;have hvv:(((⟨#[92,117,48,48]⟩:BA)++((⟨#[48,49,50,51,52,53,54,55,56,57,97,98,99,100,101,102]⟩:BA).extract (Int.toNat (c / 16)) (Int.toNat (((c / 16)+(1:Int)) % 256))))++((⟨#[48,49,50,51,52,53,54,55,56,57,97,98,99,100,101,102]⟩:BA).extract (Int.toNat (qBg .u8 c (15:Int))) (Int.toNat (((qBg .u8 c (15:Int))+(1:Int)) % 256))))=escV c:=rfl;rw [qAa (by rw [←hvv,qD9,qD9] at hsz; omega)];refine (qAa h4 _).trans ?_;rw [qAa (by rw [←qD9,hvv]; omega),hvv,p_ws _ _ _ (by omega),obS,h6];exact qAa (by unfold qAj; omega) _
 ·rw [deF h,Bool.not_false,cnT,if_neg h];exact qAa (by unfold qAj; omega) _
theorem take_snoc {s:BA} {x f:Nat} (hx:x<s.size) (hf:f≤x):((qAh s).take (x+1)).drop f=((qAh s).take x).drop f++[bAt s x]:=by
 rw [List.take_add_one,qDg hx];show (_++[bAt s x]).drop f=_;rw [List.drop_append_of_le_length (by rw [List.length_take,qAp]; omega)]
theorem quo_loop {s:BA} (hs:s.size≤3000000):∀(j x f:Nat) (buf:List Int),x+j=s.size→f≤x→buf.length+6*(s.size - f)≤140737488355000 →
  ∃(f':Nat) (buf':List Int),f'≤s.size∧zap_p0 s (f:Int) (s.size:Int) (x:Int) true buf=some ((f':Int),true,buf') ∧
   buf'++qAh (s.extract f' s.size)=buf++(((qAh s).take x).drop f++escL ((qAh s).drop x))∧buf'.length+6*(s.size - f')≤buf.length+6*(s.size - f)
 | 0,x,f,buf,h,hf,hb=>by
  refine ⟨f,buf,by omega,?_,?_,Nat.le_refl _⟩
  ·unfold zap_p0;refine qAq ?_;unfold qD8;rw [deF (by simp only; omega),cnF]
  ·have hx:x=s.size:=by omega
   have hnil:(qAh s).drop x=[]:=List.drop_eq_nil_of_le (by rw [qAp]; omega);rw [bytesL_ext,hnil,hx];show _=buf++(_++[]);rw [List.append_nil]
 | j+1,x,f,buf,h,hf,hb=>by
  have hst:=quo_step hs (x:=x) (f:=f) (by omega) hf buf hb;have hd:=qC8 (s:=s) (i:=x) (by omega);by_cases hc:bAt s x<32∨bAt s x=34∨bAt s x=92
  ·rw [if_pos hc] at hst;have hz:(s.extract f x).size=x - f:=by rw [ByteArray.size_extract]; omega
   have he:=escB_len (bAt s x);have hl:(buf++qAh (s.extract f x)++escB (bAt s x)).length=buf.length+(x - f)+(escB (bAt s x)).length:=by
    rw [List.length_append,List.length_append,qAp,hz]
   obtain ⟨f',buf',g1,g2,g3,g4⟩:=quo_loop hs j (x+1) (x+1) (buf++qAh (s.extract f x)++escB (bAt s x)) (by omega) (Nat.le_refl _) (by rw [hl]; omega);refine ⟨f',buf',g1,?_,?_,by rw [hl] at g4; omega⟩
   ·rw [←g2];unfold zap_p0;exact qAy hst
   ·rw [g3,hd,bytesL_ext];have:((qAh s).take (x+1)).drop (x+1)=[]:=List.drop_eq_nil_of_le (by rw [List.length_take]; omega);rw [this];show _=buf++(_++(escB (bAt s x)++escL ((qAh s).drop (x+1))));simp only [List.append_assoc,List.nil_append]
  ·rw [if_neg hc] at hst;obtain ⟨f',buf',g1,g2,g3,g4⟩:=quo_loop hs j (x+1) f buf (by omega) (by omega) hb;refine ⟨f',buf',g1,?_,?_,g4⟩
   ·rw [←g2];unfold zap_p0;exact qAy hst
   ·rw [g3,hd,take_snoc (by omega) hf];have:escB (bAt s x)=[bAt s x]:=by
     unfold escB;rw [if_neg (by omega),if_neg (by omega),if_neg (by omega),if_neg (by omega),if_neg (by omega),if_neg (by omega),if_neg (by omega)]
    show _=buf++(_++(escB (bAt s x)++escL ((qAh s).drop (x+1))));rw [this];simp only [List.append_assoc]
theorem p_quote (a:Bool) (buf:List Int) (s:BA) (hs:s.size≤3000000) (hb:buf.length≤140737450000000):zap_s ⟨a,buf⟩ s=some ⟨true,buf++quoL s⟩:=by
 obtain ⟨f',buf',g1,g2,g3,g4⟩:=quo_loop hs s.size 0 0 (buf++[34]) (by omega) (by omega) (by simp; omega);rw [show ((0:Nat):Int)=0 from rfl] at g2;unfold zap_s;rw [p_wb _ _ _ (by omega),obS,g2,obS];have hz:(s.extract f' s.size).size=s.size - f':=by rw [ByteArray.size_extract]; omega
 simp only [List.length_append,List.length_singleton] at g4;have h1:((s.extract f' s.size)++(⟨#[34]⟩:BA)).size=s.size - f'+1:=by rw [qD9,hz]; rfl
 rw [qAa (by omega)];simp only [Int.toNat_natCast];rw [qAa (by rw [←qD9,h1]; omega),p_ws _ _ _ (by rw [h1]; omega),obS,bytesL_app,←List.append_assoc,g3];simp only [List.take_zero,List.drop_nil,List.nil_append,List.drop_zero];congr 2
 show buf++[34]++escL (qAh s)++qAh ⟨#[34]⟩=buf++quoL s;rw [show qAh (⟨#[34]⟩:BA)=[34] from rfl];simp [quoL]
end Go.Proofs.YtnifdcmeffnpaaaDoor
namespace Go.Proofs.YtnifdcmeffnpaaaDoor
open Go.Eng
set_option linter.unusedVariables false
set_option linter.unusedSimpArgs false
def Has (t:BA):Nat→List Int→Prop
 | a,[]=>a≤t.size
 | a,c::L=>bAt t (a:Int)=c∧Has t (a+1) L
theorem Has.le {t:BA}:∀ {L:List Int} {a:Nat},Has t a L→a+L.length≤t.size
 | [],a,h=>h
 | c::L,a,h=>by
  have:=Has.le h.2;rw [List.length_cons];omega
theorem Has.append {t:BA}:∀ {L M:List Int} {a:Nat},Has t a (L++M)↔Has t a L∧Has t (a+L.length) M
 | [],M,a=>by
  show Has t a M↔a≤t.size∧Has t (a+0) M;exact ⟨fun h=>⟨by have:=h.le; omega,h⟩,fun h=>h.2⟩
 | c::L,M,a=>by
  show (_∧Has t (a+1) (L++M))↔(_∧Has t (a+1) L)∧Has t (a+(L.length+1)) M;rw [Has.append (L:=L),show a+(L.length+1)=a+1+L.length by omega,and_assoc]
theorem has_self {t:BA}:∀(j a:Nat),a+j=t.size→Has t a ((qAh t).drop a)
 | 0,a,h=>by
  rw [List.drop_eq_nil_of_le (by rw [qAp]; omega)];show a≤t.size;omega
 | j+1,a,h=>by
  rw [qC8 (by omega)];exact ⟨rfl,has_self j (a+1) (by omega)⟩
theorem has_all (t:BA):Has t 0 (qAh t):=by
 have:=has_self (t:=t) t.size 0 (by omega);rwa [List.drop_zero] at this
inductive Spells (t s:BA):Nat→Nat→Nat→Nat→Prop
 | nil (a p:Nat):Spells t s a a p p
 | raw {a b p q:Nat}:p<s.size→bAt t (a:Int)=bAt s (p:Int)→32≤bAt s (p:Int)→bAt s (p:Int)<128→bAt s (p:Int)≠34→bAt s (p:Int)≠92→Spells t s (a+1) b (p+1) q→Spells t s a b p q
 | seq {a b p q:Nat}:p<s.size→128≤by8 s p→seqK s p=0→(∀k,k<seqW s p→by8 t (a+k)=by8 s (p+k))→a+seqW s p≤t.size→Spells t s (a+seqW s p) b (p+seqW s p) q→Spells t s a b p q
 | esc {a a' b p q:Nat} {u:Int}:bAt t (a:Int)=92→escR t a=.ok a' u→((qAh s).drop p).take (utfL u).length=utfL u→Spells t s a' b (p+(utfL u).length) q→Spells t s a b p q
theorem take_drop (l:List Int) (p n:Nat):(l.drop p).take n++l.drop (p+n)=l.drop p:=by
 rw [←List.drop_drop,List.take_append_drop]
theorem bytesL_seq {t s:BA} {a p w:Nat} (h:∀k,k<w→by8 t (a+k)=by8 s (p+k)) (ha:a+w≤t.size) (hp:p+w≤s.size):qAh (t.extract a (a+w))=((qAh s).drop p).take w:=by
 have hl:(qAh (t.extract a (a+w))).length=w:=by rw [qAp,ByteArray.size_extract]; omega
 refine List.ext_getElem ?_ fun i h1 h2=>?_
 ·rw [hl,List.length_take,List.length_drop,qAp];omega
 ·have hi:i<w:=by omega
  have e1:=qDg (s:=t.extract a (a+w)) (i:=i) (by rw [ByteArray.size_extract]; omega);rw [List.getElem?_eq_getElem h1,snJ,qDa t a (a+w) (i:Int) (by omega) (by omega)] at e1;have e2:=qDg (s:=s) (i:=p+i) (by omega);rw [List.getElem?_eq_getElem (by rw [qAp]; omega),snJ] at e2;rw [List.getElem_take,List.getElem_drop,e1,e2];have b1:=qEy (t:=t) (i:=a+i) (by omega);have b2:=qEy (t:=s) (i:=p+i) (by omega);have:=h i hi;rw [show (a:Int)+(i:Int)=((a+i:Nat):Int) by omega];omega
theorem quo_run {t s:BA} {a b p q:Nat} (h:Spells t s a b p q):q=s.size→p≤q→bAt t (b:Int)=34→∀(n:Nat) (acc:List Int),t.size - a<n→a≤b∧quoR t n a acc=.ok (b+1) (acc++(qAh s).drop p):=by
 induction h with
 | nil a p =>
  intro hq hp hb n acc hn;refine ⟨Nat.le_refl _,?_⟩;obtain ⟨n,rfl⟩:∃m,n=m+1:=⟨n - 1,by omega⟩;unfold quoR;rw [if_neg (by omega),if_pos hb,List.drop_eq_nil_of_le (by rw [qAp]; omega),List.append_nil]
 | @raw a b p q hp he h1 h2 h3 h4 hs ih =>
  intro hq hpq hb n acc hn;have ha:=qA3 (t:=t) (a:=a) (by omega);obtain ⟨n,rfl⟩:∃m,n=m+1:=⟨n - 1,by omega⟩;obtain ⟨i1,i2⟩:=ih hq (by omega) hb n (acc++[bAt t (a:Int)]) (by omega);refine ⟨by omega,?_⟩;unfold quoR;rw [if_neg (by omega),if_neg (by omega),if_neg (by omega),if_pos (by omega),i2,qC8 hp,he,List.append_assoc];rfl
 | @seq a b p q hp h8 hk hsame hle hs ih =>
  intro hq hpq hb n acc hn;have hw:=qFd hp h8 hk;have hx:=seqK_ext (s:=t) (b:=a) hp h8 hk (fun k hk'=>hsame k hk') hle;have h0:=hsame 0 (by omega);simp only [Nat.add_zero] at h0;have ha8:=qEy (t:=t) (i:=a) (by omega);obtain ⟨n,rfl⟩:∃m,n=m+1:=⟨n - 1,by omega⟩;obtain ⟨i1,i2⟩:=ih hq (by omega) hb n (acc++qAh (t.extract a (a+seqW t a))) (by omega);refine ⟨by omega,?_⟩;unfold quoR;rw [if_neg (by omega),if_neg (by omega),if_neg (by omega),if_neg (by omega),if_pos hx.1,hx.2];rw [hx.2] at i2;rw [i2,bytesL_seq hsame hle (by omega),List.append_assoc,take_drop]
 | @esc a a' b p q u h92 he ht hs ih =>
  intro hq hpq hb n acc hn;have hadv:=escR_ok he;have hul:=utfL_len u;have hlen:p+(utfL u).length≤s.size:=by
   have:=congrArg List.length ht;rw [List.length_take,List.length_drop,qAp] at this;omega
  obtain ⟨n,rfl⟩:∃m,n=m+1:=⟨n - 1,by omega⟩;obtain ⟨i1,i2⟩:=ih hq (by omega) hb n (acc++utfL u) (by omega);refine ⟨by omega,?_⟩;unfold quoR;rw [if_neg (by omega),if_neg (by omega),if_pos h92,he];dsimp only;have e:utfL u++(qAh s).drop (p+(utfL u).length)=(qAh s).drop p:=by
   have:=take_drop (qAh s) p (utfL u).length;rw [ht] at this;exact this
  rw [i2,List.append_assoc,e]
def QOK (q:BA→List Int):Prop:=∀(s t:BA) (a:Nat),Lib.validD s.data.toList=true→Has t a (q s)→bAt t (a:Int)=34∧quoR t (t.size+1) (a+1) []=.ok (a+(q s).length) (qAh s)
theorem qok_of {q:BA→List Int} {m:BA→List Int} (hq:∀s,q s=34::(m s++[34])) (h:∀(s t:BA) (a:Nat),Lib.validD s.data.toList=true→Has t a (m s)→Spells t s a (a+(m s).length) 0 s.size):QOK q:=by
 intro s t a hv hh;rw [hq] at hh;obtain ⟨h1,h2⟩:=hh;rw [Has.append] at h2;have h3:=h s t (a+1) hv h2.1;have hle:=h2.1.le;have h4:=(quo_run h3 rfl (Nat.zero_le _) h2.2.1 (t.size+1) [] (by omega)).2;rw [List.nil_append,List.drop_zero] at h4;refine ⟨h1,?_⟩;rw [h4,hq,List.length_cons,List.length_append,List.length_singleton];congr 1
 omega
theorem hexS_D {n:Int} (h:0≤n∧n<16):hexS (hexD n)=n:=by
 unfold hexS hexD;repeat' split
 all_goals omega
theorem escR_two {t:BA} {a:Nat} {c:Int} (h1:bAt t ((a+1:Nat):Int)=c) (h0:0≤c) (hu:c≠117) (hs:0≤qEz c):escR t a=.ok (a+2) (qEz c):=by
 unfold escR;rw [h1,if_neg (by omega),if_neg hu,if_neg (by omega)]
theorem fourR_says {t:BA} {f a:Nat} {d0 d1 d2 d3:Int} (h0:hexS (bAt t (a:Int))=d0) (h1:hexS (bAt t ((a+1:Nat):Int))=d1) (h2:hexS (bAt t ((a+1+1:Nat):Int))=d2) (h3:hexS (bAt t ((a+1+1+1:Nat):Int))=d3)
  (p0:0≤d0) (p1:0≤d1) (p2:0≤d2) (p3:0≤d3) (half:Bool) (hh:half=true→d0=13∧12≤d1) (hn:half=false→¬(d0=13∧12≤d1)):qFw t half f 4 0 a 0=.ok (a+4) (4096*d0+256*d1+16*d2+d3):=by
 have nn:∀ {i:Nat} {d:Int},hexS (bAt t (i:Int))=d→0≤d→¬bAt t (i:Int)<0:=fun {i d} h hd hlt=>by
  unfold hexS at h;rw [if_neg (by omega),if_neg (by omega),if_neg (by omega)] at h;omega
 have hb:∀(i:Nat) (u d:Int),0≤d→(i=0→half=true→d=13)→(i=1→half=true→12≤d)→(i=1→half=false→¬(u=13∧12≤d))→¬qF7 half i u d:=by
  intro i u d hd q1 q2 q3 hbad;unfold qF7 at hbad;rcases hbad with h | ⟨hh',h⟩ | ⟨hh',h1,h2,h3⟩
  ·omega
  ·rcases h with ⟨h1,h2⟩ | ⟨h1,h2⟩
   ·exact h2 (q1 h1 hh')
   ·have:=q2 h1 hh'; omega
  ·exact q3 h1 hh' ⟨h2,h3⟩
 unfold qFw;rw [if_neg (nn h0 p0),h0,if_neg (hb 0 0 d0 p0 (fun _ h=>(hh h).1) (fun h=>by omega) (fun h=>by omega))];unfold qFw;rw [if_neg (nn h1 p1),h1,if_neg (hb 1 _ d1 p1 (fun h=>by omega) (fun _ h=>(hh h).2) (fun _ h hc=>hn h ⟨by omega,hc.2⟩))];unfold qFw;rw [if_neg (nn h2 p2),h2,if_neg (hb 2 _ d2 p2 (fun h=>by omega) (fun h=>by omega) (fun h=>by omega))];unfold qFw;rw [if_neg (nn h3 p3),h3,if_neg (hb 3 _ d3 p3 (fun h=>by omega) (fun h=>by omega) (fun h=>by omega))];unfold qFw;congr 1
 omega
theorem escR_unit {t:BA} {a:Nat} {u:Int} (hu:bAt t ((a+1:Nat):Int)=117) (hf:qFw t false a 4 0 (a+2) 0=.ok (a+6) u) (hs:u<55296∨57343<u):escR t a=.ok (a+6) u:=by
 unfold escR;rw [hu,if_neg (by decide),if_pos rfl,hf];dsimp only;rw [if_pos hs]
theorem utfL_one {c:Int} (h:c<128):utfL c=[c]:=by unfold utfL; rw [if_pos h]
theorem drop_take_one {s:BA} {p:Nat} (hp:p<s.size):((qAh s).drop p).take 1=[bAt s (p:Int)]:=by
 rw [qC8 hp];rfl
theorem has_seq {t s:BA}:∀(w a p:Nat) (R:List Int),p+w≤s.size→(∀k,k<w→128≤by8 s (p+k))→Has t a (escL ((qAh s).drop p))→(∀k,k<w→by8 t (a+k)=by8 s (p+k))∧a+w≤t.size∧Has t (a+w) (escL ((qAh s).drop (p+w)))
 | 0,a,p,R,hp,h8,h=>⟨fun k hk=>by omega,by have:=h.le; omega,h⟩
 | w+1,a,p,R,hp,h8,h=>by
  have h80:=h8 0 (by omega);simp only [Nat.add_zero] at h80;have hb:=qEy (t:=s) (i:=p) (by omega);rw [qC8 (by omega)] at h;have e:escL (bAt s (p:Int)::(qAh s).drop (p+1))=bAt s (p:Int)::escL ((qAh s).drop (p+1)):=by
   show escB (bAt s (p:Int))++_=_;unfold escB;rw [if_neg (by omega),if_neg (by omega),if_neg (by omega),if_neg (by omega),if_neg (by omega),if_neg (by omega),if_neg (by omega)];rfl
  rw [e] at h;obtain ⟨h1,h2⟩:=h;have ha:=qA3 (t:=t) (a:=a) (by omega);have ht:=qEy (t:=t) (i:=a) ha;obtain ⟨i1,i2,i3⟩:=has_seq w (a+1) (p+1) R (by omega) (fun k hk=>by rw [show p+1+k=p+(k+1) by omega]; exact h8 (k+1) (by omega)) h2;refine ⟨fun k hk=>?_,by omega,by rw [show a+(w+1)=a+1+w by omega,show p+(w+1)=p+1+w by omega]; exact i3⟩;cases k with
  | zero=>simp only [Nat.add_zero]; omega
  | succ k =>
   have:=i1 k (by omega);rw [show a+(k+1)=a+1+k by omega,show p+(k+1)=p+1+k by omega];exact this
theorem contN_high {n:Nat} {b:Nat→Nat}:∀ {m i lo hi:Nat},128≤lo→qGn n b m i lo hi=0→∀k,i≤k→k<i+m→128≤b k
 | 0,_,_,_,_,_,k,h1,h2=>by omega
 | m+1,i,lo,hi,hlo,h,k,h1,h2=>by
  unfold qGn at h;split at h
  ·cases h
  ·split at h
   ·cases h
   ·by_cases hk:k=i
    ·subst hk; omega
    ·exact contN_high (by decide) h k (by omega) (by omega)
theorem accLo_ge {x:Nat} (h:x=0∨x=1∨x=2∨x=3∨x=4):128≤Lib.accLo x:=by
 rcases h with h | h | h | h | h <;> rw [h] <;> decide
theorem seq_high {s:BA} {p:Nat} (hp:p<s.size) (h8:128≤by8 s p) (hk:seqK s p=0):∀k,k<seqW s p→128≤by8 s (p+k):=by
 intro k hkw;by_cases h0:k=0
 ·subst h0; exact h8
 ·unfold seqK at hk;unfold seqW at hkw;split at hk
  ·cases hk
  ·rename_i h1;have hf:=firstT_low ⟨by8 s p,by8_lt s p⟩ h8;simp only at hf;refine contN_high ?_ hk k (by omega) (by omega);refine accLo_ge ?_;rcases Lib.firstT_cases (by8 s p) with g | g | g | g | g | g | g | g | g <;> rw [g] at h1 hf ⊢ <;> first | omega | (exact (h1 rfl).elim) | (exact (hf rfl).elim)
theorem esc_spells {t s:BA}:∀(j a p:Nat),s.size - p≤j→p≤s.size→Lib.validD (s.data.toList.drop p)=true→Has t a (escL ((qAh s).drop p))→Spells t s a (a+(escL ((qAh s).drop p)).length) p s.size
 | 0,a,p,h1,h2,hv,hh=>by
  have:p=s.size:=by omega
  subst this;rw [List.drop_eq_nil_of_le (by rw [qAp]; omega)];exact Spells.nil a s.size
 | j+1,a,p,h1,h2,hv,hh=>by
  by_cases hp:p<s.size
  ·have hb:=qEy (t:=s) (i:=p) hp;by_cases h8:by8 s p<128
   ·rw [validD_low hp h8] at hv;have hdrop:=qC8 hp;have hE:escL ((qAh s).drop p)=escB (bAt s (p:Int))++escL ((qAh s).drop (p+1)):=by rw [hdrop]; rfl
    rw [hE] at hh ⊢;rw [Has.append] at hh;obtain ⟨g1,g2⟩:=hh;have ih:=esc_spells j (a+(escB (bAt s (p:Int))).length) (p+1) (by omega) (by omega) hv g2;rw [List.length_append,←Nat.add_assoc];have e1:=drop_take_one hp;generalize hc:bAt s (p:Int)=c at *
    have hcr:0≤c∧c<128:=by omega
    have two:∀x:Int,escB c=[92,x]→0≤x→x≠117→qEz x=c→Spells t s a (a+(escB c).length+(escL ((qAh s).drop (p+1))).length) p s.size:=fun x hx h0 hu hsx=>by
     rw [hx] at g1 ih ⊢;obtain ⟨k1,k2,_⟩:=g1;refine Spells.esc (u:=qEz x) k1 (escR_two k2 h0 hu (by omega)) ?_ ?_
     ·rw [hsx,utfL_one (by omega)];exact e1
     ·rw [hsx,utfL_one (by omega)];exact ih
    by_cases c1:c=34∨c=92
    ·refine two c (by unfold escB; rw [if_pos c1]) (by omega) (by omega) ?_;unfold qEz;rw [if_pos (by omega)]
    ·by_cases c2:c=8
     ·exact two 98 (by unfold escB; rw [if_neg c1,if_pos c2]) (by decide) (by decide) (by rw [c2]; decide)
     ·by_cases c3:c=12
      ·exact two 102 (by unfold escB; rw [if_neg c1,if_neg c2,if_pos c3]) (by decide) (by decide) (by rw [c3]; decide)
      ·by_cases c4:c=10
       ·exact two 110 (by unfold escB; rw [if_neg c1,if_neg c2,if_neg c3,if_pos c4]) (by decide) (by decide) (by rw [c4]; decide)
       ·by_cases c5:c=13
        ·exact two 114 (by unfold escB; rw [if_neg c1,if_neg c2,if_neg c3,if_neg c4,if_pos c5]) (by decide) (by decide) (by rw [c5]; decide)
        ·by_cases c6:c=9
         ·exact two 116 (by unfold escB; rw [if_neg c1,if_neg c2,if_neg c3,if_neg c4,if_neg c5,if_pos c6]) (by decide) (by decide) (by rw [c6]; decide)
         ·by_cases c7:c<32
          ·have hx:escB c=[92,117,48,48,hexD (c / 16),hexD (c % 16)]:=by unfold escB; rw [if_neg c1,if_neg c2,if_neg c3,if_neg c4,if_neg c5,if_neg c6,if_pos c7]
           rw [hx] at g1 ih ⊢;obtain ⟨k1,k2,k3,k4,k5,k6,_⟩:=g1;have hf:=fourR_says (t:=t) (f:=a) (a:=a+2) (d0:=0) (d1:=0) (d2:=c / 16) (d3:=c % 16) (by rw [show ((a+2:Nat):Int)=((a+1+1:Nat):Int) by omega,k3]; rfl) (by rw [show ((a+2+1:Nat):Int)=((a+1+1+1:Nat):Int) by omega,k4]; rfl)
            (by rw [show ((a+2+1+1:Nat):Int)=((a+1+1+1+1:Nat):Int) by omega,k5]; exact hexS_D (by omega)) (by rw [show ((a+2+1+1+1:Nat):Int)=((a+1+1+1+1+1:Nat):Int) by omega,k6]; exact hexS_D (by omega))
            (by omega) (by omega) (by omega) (by omega) false (fun h=>by cases h) (fun _=>by omega)
           rw [show 4096*(0:Int)+256*0+16*(c / 16)+c % 16=c by omega,show a+2+4=a+6 by omega] at hf;refine Spells.esc (u:=c) k1 (escR_unit k2 hf (by omega)) ?_ ?_
           ·rw [utfL_one (by omega)];exact e1
           ·rw [utfL_one (by omega)];exact ih
          ·have hx:escB c=[c]:=by unfold escB; rw [if_neg c1,if_neg c2,if_neg c3,if_neg c4,if_neg c5,if_neg c6,if_neg c7]
           rw [hx] at g1 ih ⊢;exact Spells.raw hp (by rw [hc]; exact g1.1) (by omega) (by omega) (by omega) (by omega) ih
   ·have hv2:=qGu hp (by omega:128≤by8 s p);rw [hv] at hv2;by_cases hk:seqK s p=0
    ·rw [if_pos hk] at hv2;have hw:=qFd hp (by omega) hk;obtain ⟨i1,i2,i3⟩:=has_seq (t:=t) (s:=s) (seqW s p) a p [] (by omega) (seq_high hp (by omega) hk) hh;have ih:=esc_spells j (a+seqW s p) (p+seqW s p) (by omega) (by omega) hv2.symm i3;have hlen:∀(w p:Nat),p+w≤s.size→(∀k,k<w→128≤by8 s (p+k))→(escL ((qAh s).drop p)).length=w+(escL ((qAh s).drop (p+w))).length:=by
      intro w;induction w with
      | zero=>intro p _ _; simp
      | succ w ihw =>
       intro p hp' h8';have h80:=h8' 0 (by omega);simp only [Nat.add_zero] at h80;have hb':=qEy (t:=s) (i:=p) (by omega);rw [qC8 (by omega)];have e:escL (bAt s (p:Int)::(qAh s).drop (p+1))=bAt s (p:Int)::escL ((qAh s).drop (p+1)):=by
        show escB (bAt s (p:Int))++_=_;unfold escB;rw [if_neg (by omega),if_neg (by omega),if_neg (by omega),if_neg (by omega),if_neg (by omega),if_neg (by omega),if_neg (by omega)];rfl
       rw [e,List.length_cons,ihw (p+1) (by omega) (fun k hk=>by rw [show p+1+k=p+(k+1) by omega]; exact h8' (k+1) (by omega)),show p+1+w=p+(w+1) by omega];omega
     rw [hlen (seqW s p) p (by omega) (seq_high hp (by omega) hk),←Nat.add_assoc];exact Spells.seq hp (by omega) hk i1 i2 ih
    ·rw [if_neg hk] at hv2;cases hv2
  ·have:p=s.size:=by omega
   subst this;rw [List.drop_eq_nil_of_le (by rw [qAp]; omega)];exact Spells.nil a s.size
theorem quoL_ok:QOK quoL:=qok_of (m:=fun s=>escL (qAh s)) (fun s=>rfl) fun s t a hv hh=>by
 have:=esc_spells (t:=t) (s:=s) s.size a 0 (by omega) (by omega) (by rw [List.drop_zero]; exact hv) (by rw [List.drop_zero]; exact hh);rwa [List.drop_zero] at this
theorem oneS_ok {v:List Eng.Node} (hv:OkL v) {d:Nat} {obj:Bool} {a e:Nat} (h:oneS v d obj a=some e):∃n,v[a]?=some n∧n∈v∧a<v.length∧v.getD a (ET.dft .node)=n∧okB obj n=true∧pB n=true∧0≤n.kids∧(0<n.kids→6≤n.kind)∧n.kind≤7 ∧
  ((d=0∧n.kind<6∧e=a+1)∨∃d',d=d'+1∧qD1 v (oneS v d' (decide (n.kind=7))) (decide (n.kind=7)) n.kids.toNat (a+1) []=some e):=by
 by_cases ha:a<v.length
 ·obtain ⟨n,hn,hmem,hget⟩:=nd_some ha;have hp:=(pB_j (hv.2 n hmem)).2;have key:okB obj n=true→pB n=true:=fun h=>by unfold okB at h; simp only [Bool.and_eq_true] at h; exact h.1.1
  cases d with
  | zero =>
   unfold oneS at h;rw [hn] at h;dsimp only at h;split at h
   ·rename_i hc;cases h;have hp:=hp (key hc.1);exact ⟨n,hn,hmem,ha,hget,hc.1,key hc.1,hp.1,hp.2.1,hp.2.2,.inl ⟨rfl,hc.2,rfl⟩⟩
   ·cases h
  | succ d =>
   unfold oneS at h;rw [hn] at h;dsimp only at h;split at h
   ·rename_i hc;have hp:=hp (key hc);exact ⟨n,hn,hmem,ha,hget,hc,key hc,hp.1,hp.2.1,hp.2.2,.inr ⟨d,rfl,h⟩⟩
   ·cases h
 ·have:=qDf v d obj a e h;omega
end Go.Proofs.YtnifdcmeffnpaaaDoor
