/-
  Texts of a claim.
-/
import Derived.Test.YtpobbbpphnnnhaaGreatDoorEngI
namespace Go.Eng
set_option linter.unusedVariables false
set_option linter.unusedSimpArgs false
def Hold (a:Act) (G:GL):Prop:=∀g∈G,a.tmps[g.1]?=some (.bool g.2)
def oldSl (a:Act):List (Nat × GL × SV)→List (Nat × Prop × SV)
 | []=>[]
 | (i,G,v)::r=>(i,Hold a G,v)::oldSl a r
def qE2 (S:QS) (a:Act):St:=⟨oldSl a S.sl,S.hp⟩
theorem nbeq {i j:Nat}:Nat.beq i j=true↔i=j:=by simp
theorem qFq {i j:Nat} (h:¬i=j):Nat.beq i j=false:=by
 cases hb:Nat.beq i j
 ·rfl
 ·exact (h (nbeq.1 hb)).elim
theorem qGi (a:Act):∀(l:List (Nat × GL × SV)) (i:Nat),getE (oldSl a l) i=(getQ l i).map fun e=>(Hold a e.1,e.2)
 | [],i=>rfl
 | (j,G,v)::r,i=>by
  simp only [oldSl,getE,getQ];by_cases h:j=i
  ·subst h;simp
  ·rw [beqF h,qFq h];simp only [cnF,qGi a r i]
theorem Hold.nil (a:Act):Hold a []:=fun g hg=>by simp at hg
theorem Hold.cons {a:Act} {g:Nat × Bool} {G:GL} (h1:a.tmps[g.1]?=some (.bool g.2)) (h2:Hold a G):Hold a (g::G):=fun x hx=>by
 rcases List.mem_cons.1 hx with rfl | hx
 ·exact h1
 ·exact h2 x hx
theorem qGk {g:Nat × Bool}:∀ {G:GL},memG g G=true→g∈G
 | [],h=>by simp [memG] at h
 | x::r,h=>by
  simp only [memG] at h;by_cases h1:g.1=x.1
  ·by_cases h2:g.2=x.2
   ·exact List.mem_cons.2 (.inl (Prod.ext h1 h2))
   ·have e:bq g.2 x.2=false:=by
     cases hb:bq g.2 x.2
     ·rfl
     ·exact (h2 (bq_iff.1 hb)).elim
    rw [nbeq.2 h1,e] at h;simp only [cnT,cnF] at h;exact List.mem_cons.2 (.inr (qGk h))
  ·rw [qFq h1] at h;simp only [cnF] at h;exact List.mem_cons.2 (.inr (qGk h))
theorem subG_hold {a:Act} {A B:GL} (hA:Hold a A) (hB:Hold a B):∀ {G:GL},subG A B G=true→Hold a G
 | [],_=>Hold.nil a
 | g::r,h=>by
  simp only [subG] at h;cases h1:memG g A with
  | true =>
   rw [h1] at h;exact Hold.cons (hA g (qGk h1)) (subG_hold hA hB h)
  | false =>
   rw [h1] at h;simp only [cnF] at h;cases h2:memG g B with
   | true =>
    rw [h2] at h;exact Hold.cons (hB g (qGk h2)) (subG_hold hA hB h)
   | false=>rw [h2] at h; simp at h
structure Read (So:St) (S:QS) (D:GL→Prop):Prop where
 hp:So.hp=S.hp
 arg:∀ {act:Prop} {A:GL} {x:Arg} {v:SV},(act→D A)→argQ S A x=some v→∃p,argE So act x=some (p,v)∧p
 pick:∀ {A:GL} {j:Nat} {cb b:Bool},argQ S A (.t j)=some (.c (.o (.val (.bool cb))))→D A→cb=b→D ((j,b)::A)
 one:∀ {A:GL} {j:Nat} {cb b:Bool},memG (j,b) S.kn=true→argQ S A (.t j)=some (.c (.o (.val (.bool cb))))→(D A→cb=b)∧∀k,getQ S.sl k=none→getE So.sl k=none
section
variable {S:QS} {a:Act} {A:GL} {So:St} {D:GL→Prop}
theorem argQ_rel {A:GL} {act:Prop} (hk:Hold a S.kn) (hact:act→Hold a A) {x:Arg} {v:SV} (h:argQ S A x=some v):∃p,argE (qE2 S a) act x=some (p,v)∧p:=by
 cases x with
 | v x =>
  simp only [argQ,snJ] at h;subst h;exact ⟨True,rfl,tV⟩
 | t i =>
  simp only [argQ] at h;split at h
  ·rename_i G u hg;cases hs:subG A S.kn G with
   | false=>rw [hs] at h; simp at h
   | true =>
    rw [hs] at h;simp only [cnT,snJ] at h;subst h;refine ⟨act→Hold a G,?_,fun ha=>subG_hold (hact ha) hk hs⟩;simp only [argE,qE2,qGi,hg,Option.map_some]
  ·cases h
def RelS:RR→RQ→Prop
 | _,.no=>True
 | .still p v,.still ps v'=>v=v'∧(AllP ps→p)
 | .quiet p v,.quiet ps v'=>v=v'∧(AllP ps→p)
 | .ok p v hp,.ok ps v' hp'=>v=v'∧hp=hp'∧(AllP ps→p)
 | _,_=>False
def RelR (act:Prop):RR→RQ→Prop
 | _,.no=>True
 | .still p v,.still ps v'=>v=v'∧((act→AllP ps)→p)
 | .quiet p v,.quiet ps v'=>v=v'∧((act→AllP ps)→p)
 | .ok p v hp,.ok ps v' hp'=>v=v'∧hp=hp'∧((act→AllP ps)→p)
 | _,_=>False
theorem relR_no {act:Prop} (r:RR):RelR act r .no:=by cases r <;> trivial
theorem qE3 {p act:Prop} (hp:p) {r:RR} {q:RQ} (h:RelS r q):RelR act (owe p act r) q:=by
 cases q <;> cases r <;> simp only [RelS,RelR,owe] at * <;> first | trivial | exact h.elim | skip
 ·exact ⟨h.1,fun hh=>⟨hp,fun ha=>h.2 (hh ha)⟩⟩
 ·exact ⟨h.1,fun hh=>⟨hp,fun ha=>h.2 (hh ha)⟩⟩
 ·exact ⟨h.1,h.2.1,fun hh=>⟨hp,fun ha=>h.2.2 (hh ha)⟩⟩
theorem qE6:∀q:RQ,RelS q.toR q
 | .no=>trivial
 | .still _ _=>⟨rfl,fun h=>h⟩
 | .quiet _ _=>⟨rfl,fun h=>h⟩
 | .ok _ _ _=>⟨rfl,rfl,fun h=>h⟩
theorem qEv {act p:Prop} {v:SV} (hp:p):RelR act (.still p v) (.still [] v):=⟨rfl,fun _=>hp⟩
theorem fit_rel (raw:Bool) (k:IntKind) (x:Int):RelS (fit raw k x) (fitQ raw k x):=by
 cases k <;> cases raw <;> simp [fit,fitQ,ret1,rv1,RelS,AllP]
theorem quot_rel (raw:Bool) (k:IntKind) (x y:Int):RelS (quot raw k x y) (quotQ raw k x y):=by
 cases k <;> cases raw <;> simp [quot,quotQ,ret1,rv1,RelS,AllP]
theorem remd_rel (raw:Bool) (k:IntKind) (x y:Int):RelS (remd raw k x y) (remdQ raw k x y):=by
 cases raw <;> simp [remd,remdQ,ret1,rv1,RelS,AllP]
theorem bin_rel (raw:Bool) (op:BinOp) (u v:Value):RelS (binR raw op u v) (binQ raw op u v):=by
 cases u <;> cases v <;> first
  | (simp only [binR,binQ,RelS]; done)
  | skip
 ·rename_i k x k' y;simp only [binR,binQ];cases op <;> simp only
  case shl =>
   have:=fit_rel raw k (x*2 ^ (min y.toNat k.bits));revert this;cases fit raw k (x*2 ^ (min y.toNat k.bits)) <;> cases fitQ raw k (x*2 ^ (min y.toNat k.bits)) <;> intro this <;> simp only [RelS] at * <;> first | trivial | exact this.elim | skip
   exact ⟨this.1,fun hp=>⟨hp.1,this.2 hp.2⟩⟩
  case shr=>exact ⟨rfl,fun h=>h.1⟩
  all_goals
   cases decide (k=k')
   ·trivial
   ·first
    | exact fit_rel raw k _
    | exact quot_rel raw k _ _
    | exact remd_rel raw k _ _
    | exact ⟨rfl,fun _=>trivial⟩
    | trivial
 ·rename_i x y;simp only [binR,binQ];cases op <;> simp only <;> first | trivial | exact ⟨rfl,fun h=>h.1⟩ | exact ⟨rfl,fun _=>trivial⟩
theorem mm_rel (mx:Bool) (u v:Value):RelS (mmR mx u v) (mmQ mx u v):=by
 cases u <;> cases v <;> first | (simp only [mmR,mmQ,RelS]; done) | exact ⟨rfl,fun _=>trivial⟩
theorem beq_rel (neg:Bool) (u v:Value):RelS (beqR neg u v) (beqQ neg u v):=by
 cases u <;> cases v <;> first | (simp only [beqR,beqQ,RelS]; done) | exact ⟨rfl,fun _=>trivial⟩
theorem un_rel (op:UnOp) (u:Value):RelS (unR op u) (unQ op u):=by
 cases u <;> first
  | (simp only [unR,unQ,RelS]; done)
  | skip
 ·cases op <;> first | trivial | exact ⟨rfl,fun _=>trivial⟩
 ·cases op <;> first | trivial | exact fit_rel false _ _
theorem qFk (i j:Nat):(i == j)=Nat.beq i j:=by
 by_cases h:i=j
 ·rw [nbeq.2 h]; simpa using h
 ·rw [qFq h]; simpa using h
theorem rowLoad_rel {t:ET} (l:List t.T) (i off:Nat) (n:Option Nat):RelS (rowLoad t l i off n) (rowLoadQ t l i off n):=by
 cases n with
 | none =>
  simp only [rowLoad,rowLoadQ];cases (t.enc (l.getD i t.dft))[off]?
  ·trivial
  ·exact ⟨rfl,fun h=>h.1⟩
 | some m =>
  simp only [rowLoad,rowLoadQ];cases Nat.ble (off+m) t.sz
  ·trivial
  ·exact ⟨rfl,fun h=>h.1⟩
theorem cellsLoad_rel (l:List S0) (off:Nat) (n:Option Nat):RelS (qFl l off n) (cellsLoadQ l off n):=by
 cases n with
 | none =>
  simp only [qFl,cellsLoadQ];cases l[off]?
  ·trivial
  ·exact ⟨rfl,fun _=>trivial⟩
 | some m =>
  simp only [qFl,cellsLoadQ];cases Nat.ble (off+m) l.length
  ·trivial
  ·exact ⟨rfl,fun _=>trivial⟩
theorem load_rel (hp:List SB) (n:Option Nat) (x:S0):RelS (loadR hp n x) (loadQ hp n x):=by
 cases x <;> simp only [loadR,loadQ] <;> try first | trivial | exact qE6 _
 ·rename_i h off;cases hp[h]? with
  | none=>trivial
  | some sb =>
   cases sb <;> simp only <;> try trivial
   exact cellsLoad_rel _ _ _
 ·rename_i h i sz off;cases hp[h]? with
  | none=>trivial
  | some sb =>
   cases sb <;> simp only [qFk] <;> try trivial
   ·rename_i t e l;cases Nat.beq sz t.sz
    ·trivial
    ·exact rowLoad_rel _ _ _ _
   ·rename_i t l;cases Nat.beq sz t.sz
    ·trivial
    ·exact rowLoad_rel _ _ _ _
theorem one_of {x:S0} (h:oneB x=true):x.one:=by
 cases x <;> simp only [S0.one]
 rename_i v;cases v <;> simp_all [oneB,Value.oneCell']
theorem allOne_of:∀ {l:List S0},allOneB l=true→allOne l
 | [],_=>trivial
 | x::r,h=>by
  simp only [allOneB] at h;cases hx:oneB x with
  | true=>rw [hx] at h; exact ⟨one_of hx,allOne_of h⟩
  | false=>rw [hx] at h; simp at h
theorem store_rel (hp:List SB) (n:Nat) (l:List S0) (x:S0):RelS (storeR hp n l x) (storeQ hp n l x):=by
 cases x <;> simp only [storeR,storeQ] <;> try first | trivial | exact qE6 _
 ·rename_i h off;cases hp[h]? with
  | none=>trivial
  | some sb =>
   cases sb <;> simp only [qFk] <;> try trivial
   rename_i e cs;cases Nat.beq l.length n <;> simp only [cnT,cnF,Bool.false_and,Bool.true_and]
   ·trivial
   ·cases Nat.ble (off+n) cs.length <;> simp only [cnT,cnF]
    ·trivial
    ·cases ho:allOneB l
     ·trivial
     ·exact ⟨rfl,rfl,fun _=>allOne_of ho⟩
 ·rename_i h i sz off;cases hp[h]? with
  | none=>trivial
  | some sb =>
   cases sb <;> simp only [qFk] <;> try trivial
   rename_i t e cs;cases Nat.beq sz t.sz <;> simp only [cnT,cnF,Bool.false_and,Bool.true_and]
   ·trivial
   ·cases Nat.beq l.length n <;> simp only [cnT,cnF,Bool.false_and,Bool.true_and]
    ·trivial
    ·cases Nat.ble (off+n) t.sz <;> simp only [cnT,cnF]
     ·trivial
     ·cases vals (setL ((t.enc (cs.getD i t.dft)).map S0.val) off l) with
      | none=>trivial
      | some vs =>
       simp only;cases t.dec vs with
       | none=>trivial
       | some y=>exact ⟨rfl,rfl,fun h=>h.1⟩
theorem faddr_rel (hp:List SB) (off:Nat) (x:S0):RelS (faddrR hp off x) (faddrQ hp off x):=by
 cases x <;> simp only [faddrR,faddrQ] <;> try first | trivial | exact qE6 _
 ·rename_i h o;cases hp[h]? with
  | none=>trivial
  | some sb =>
   cases sb <;> simp only <;> try trivial
   exact ⟨rfl,fun _=>trivial⟩
 ·rename_i h i sz o;cases hp[h]? with
  | none=>trivial
  | some sb =>
   cases sb <;> simp only <;> first | trivial | exact ⟨rfl,fun h=>h.1⟩
theorem iaddr_rel (hp:List SB) (sz:Nat) (x:S0) (i:Int):RelS (iaddrR hp sz x i) (iaddrQ hp sz x i):=by
 cases x <;> simp only [iaddrR,iaddrQ] <;> try first | trivial | exact qE6 _
 rename_i h;cases hp[h]? with
 | none=>trivial
 | some sb =>
  cases sb <;> simp only [qFk] <;> try trivial
  ·rename_i t e l;cases Nat.beq sz t.sz
   ·trivial
   ·exact ⟨rfl,fun h=>h.1⟩
  ·rename_i t l;cases Nat.beq sz t.sz
   ·trivial
   ·exact ⟨rfl,fun h=>h.1⟩
  ·rename_i k lo n s;cases Nat.beq sz s
   ·trivial
   ·cases Nat.blt (bif Nat.beq s 0 then hp.length else k) hp.length
    ·trivial
    ·exact ⟨rfl,fun h=>h.1⟩
  ·rename_i k n s;cases Nat.beq sz s
   ·trivial
   ·cases Nat.blt k hp.length
    ·trivial
    ·exact ⟨rfl,fun h=>h.1⟩
theorem sub_rel (hp:List SB) (sz:Nat) (x:S0) (lo:Option Int) (hi:Int):RelS (subR hp sz x lo hi) (subQ hp sz x lo hi):=by
 cases x <;> simp only [subR,subQ] <;> try first | trivial | exact qE6 _
 rename_i h;cases hp[h]? with
 | none=>trivial
 | some sb =>
  cases sb <;> simp only <;> try trivial
  ·rename_i t e l;rw [qFk];cases Nat.beq sz t.sz
   ·trivial
   ·cases lo <;> exact ⟨rfl,rfl,fun h=>h.1⟩
  ·rename_i t l;rw [qFk];cases Nat.beq sz t.sz
   ·trivial
   ·cases lo <;> exact ⟨rfl,rfl,fun h=>h.1⟩
  ·rename_i k lo0 n s;cases baseLen hp k with
   | none=>trivial
   | some x =>
    simp only [qFk];cases Nat.beq sz s
    ·trivial
    ·cases Nat.beq sz x.2
     ·trivial
     ·exact ⟨rfl,rfl,fun h=>h.1⟩
theorem apart_eq (x y:S0):apart0 x y=apartQ x y:=by
 cases x <;> cases y <;> simp only [apart0,apartQ]
 rename_i i j;by_cases h:i=j
 ·rw [nbeq.2 h]; simpa using h
 ·rw [qFq h]; simpa using h
theorem qGf:∀ {l m:List Prop},AllP (l++m)→AllP l∧AllP m
 | [],_,h=>⟨trivial,h⟩
 | _::_,_,h=>⟨⟨h.1,(qGf h.2).1⟩,(qGf h.2).2⟩
theorem append_rel (hp:List SB) (e sz bytes:Nat) (zero:List Value) (s x:S0):RelS (appendR hp e sz bytes zero s x) (appendQ hp e sz bytes zero s x):=by
 simp only [appendR,appendQ,apart_eq];cases apartQ s x
 ·trivial
 ·simp only [cnT];have nilCase:RelS (match etOf zero with
    | some t=>bif sz == t.sz then (match srcL hp t x with
     | some m=>RR.ok (AllP (srcO hp x)∧m.length≤9223372036854775807∧m.length*bytes≤140737488355328) (.c (.o (.own hp.length))) (hp++[.row t e m])
     | none=>.no) else .no
    | none=>(qGt hp e sz bytes (.val (.slice none 0 0)) x).toR) (match etOf zero with
    | some t=>bif Nat.beq sz t.sz then (match srcL hp t x with
     | some m=>RQ.ok (srcO hp x++[m.length≤9223372036854775807∧m.length*bytes≤140737488355328]) (.c (.o (.own hp.length))) (hp++[.row t e m])
     | none=>.no) else .no
    | none=>qGt hp e sz bytes (.val (.slice none 0 0)) x):=by
   cases etOf zero with
   | none=>exact qE6 _
   | some t =>
    simp only [qFk];cases Nat.beq sz t.sz
    ·trivial
    ·simp only [cnT];cases srcL hp t x
     ·trivial
     ·exact ⟨rfl,rfl,fun h=>⟨(qGf h).1,(qGf h).2.1⟩⟩
  cases s <;> (try simp only) <;> try first | trivial | exact qE6 _
  ·rename_i v;cases v <;> (try simp only) <;> try first | trivial | exact qE6 _
   rename_i ad n c;cases ad <;> (try simp only) <;> try first | trivial | exact qE6 _
   cases n <;> (try simp only) <;> try first | trivial | exact qE6 _
   cases c <;> (try simp only) <;> try first | exact nilCase | trivial | exact qE6 _
  ·rename_i h;cases hp[h]? with
   | none=>trivial
   | some sb =>
    cases sb <;> simp only <;> try trivial
    rename_i t e' l;simp only [qFk];cases Nat.beq sz t.sz
    ·trivial
    ·cases Nat.beq e e'
     ·trivial
     ·simp only [Bool.and_self,cnT];cases srcL hp t x
      ·trivial
      ·exact ⟨rfl,rfl,fun h=>⟨(qGf h).1,(qGf h).2.1⟩⟩
theorem field_rel {act p:Prop} (hp:p) (l:List S0) (off:Nat) (n:Option Nat):RelR act (fieldR p l off n) (fieldQ l off n):=by
 cases n with
 | none =>
  simp only [fieldR,fieldQ];cases l[off]?
  ·trivial
  ·exact qEv hp
 | some m =>
  simp only [fieldR,fieldQ];cases Nat.ble (off+m) l.length
  ·trivial
  ·exact qEv hp
theorem fill_rel {act:Prop} (R:Read So S D) (hact:act→D A):∀ {ps:List (Nat × Nat × Arg)} {l m:List S0},fillQ S A ps l=some m→∃p,fillL So act ps l=some (p,m)∧p
 | [],l,m,h=>by
  simp only [fillQ,snJ] at h;subst h;exact ⟨True,rfl,tV⟩
 | (off,sz,x)::r,l,m,h=>by
  simp only [fillQ] at h;split at h
  ·rename_i v hv;obtain ⟨p,hp1,hp2⟩:=R.arg (act:=act) hact hv;split at h
   ·rename_i cs hcs;cases h1:Nat.beq cs.length sz with
    | false=>rw [h1] at h; simp at h
    | true =>
     rw [h1] at h;simp only [cnT] at h;cases h2:Nat.ble (off+sz) l.length with
     | false=>rw [h2] at h; simp at h
     | true =>
      rw [h2] at h;simp only [cnT] at h;obtain ⟨q,hq1,hq2⟩:=fill_rel R hact h;refine ⟨p∧q,?_,hp2,hq2⟩;simp only [fillL,hp1,hcs,qFk,h1,h2,Bool.and_self,cnT,hq1]
   ·cases h
  ·cases h
theorem qGg {act:Prop} (R:Read So S D) (hact:act→D A):∀ {xs:List Arg} {l:List SV},argsQ S A xs=some l→∃p,argsE So act xs=some (p,l)∧p
 | [],l,h=>by
  simp only [argsQ,snJ] at h;subst h;exact ⟨True,rfl,tV⟩
 | x::r,l,h=>by
  simp only [argsQ] at h;split at h
  ·rename_i v m h1 h2;simp only [snJ] at h;subst h;obtain ⟨p,hp1,hp2⟩:=R.arg (act:=act) hact h1;obtain ⟨q,hq1,hq2⟩:=qGg R hact h2;exact ⟨p∧q,by simp only [argsE,hp1,hq1],hp2,hq2⟩
  ·cases h
theorem bound_rel {act:Prop} (R:Read So S D) (hact:act→D A) {d n:Int} {x:Option Arg} (h:boundQ S A d x=some n):∃p,bound So act d x=some (p,n)∧p:=by
 cases x with
 | none =>
  simp only [boundQ,snJ] at h;subst h;exact ⟨True,rfl,tV⟩
 | some x =>
  simp only [boundQ] at h;split at h
  ·rename_i k m hm;simp only [snJ] at h;subst h;obtain ⟨p,hp1,hp2⟩:=R.arg (act:=act) hact hm;exact ⟨p,by simp only [bound,hp1],hp2⟩
  ·cases h
theorem prim_rel (R:Read So S D) (Γ:Nat→Option Con) (pr:Pr):RelR (D A) (runP Γ So (D A) pr) (primQ S A pr):=by
 have ar:∀ {x:Arg} {v:SV},argQ S A x=some v→∃p,argE So (D A) x=some (p,v)∧p:=fun h=>R.arg id h
 have hhp:=R.hp;cases pr <;> simp only [primQ]
 case bad=>trivial
 case floA=>exact relR_no _
 case floI=>exact relR_no _
 case floC=>exact relR_no _
 case ext x xs =>
  split
  ·rename_i l hl;obtain ⟨p,h1,h2⟩:=qGg (act:=D A) R id hl;simp only [runP,h1,hhp];exact qE3 h2 (qE6 _)
  ·trivial
 case mv x =>
  split
  ·rename_i v hv;obtain ⟨p,h1,h2⟩:=ar hv;simp only [runP,h1,hhp];exact qEv h2
  ·trivial
 case strc x =>
  split
  ·rename_i v hv;obtain ⟨p,h1,h2⟩:=ar hv;simp only [runP,h1,hhp];exact qEv h2
  ·trivial
 case pick c x y =>
  cases c with
  | v u=>simp only [primQ]; trivial
  | t j =>
   simp only [primQ];split
   ·rename_i cb hc;obtain ⟨p,h1,h2⟩:=ar hc;split
    ·rename_i xb yb hx hy;obtain ⟨p1,h3,h4⟩:=R.arg (act:=D A∧cb=true) (fun h=>R.pick hc h.1 h.2) hx;obtain ⟨p2,h5,h6⟩:=R.arg (act:=D A∧cb=false) (fun h=>R.pick hc h.1 h.2) hy;simp only [runP,h1,h3,h5,pickB,ret1,hhp];exact ⟨rfl,fun _=>⟨h2,h4,h6⟩⟩
    ·rename_i xb hx hy;cases hm:memG (j,true) S.kn with
     | false=>trivial
     | true =>
      simp only [cnT];cases hg:gone S y with
      | false=>trivial
      | true =>
       simp only [cnT,rv1];cases y with
       | v u=>simp [gone] at hg
       | t k =>
        simp only [gone,Option.isNone_iff_eq_none] at hg;obtain ⟨p1,h3,h4⟩:=R.arg (act:=D A∧cb=true) (fun h=>R.pick hc h.1 h.2) hx;have hk:=(R.one hm hc).2 k hg;have h5:argE So (D A∧cb=false) (.t k)=none:=by simp only [argE,hk]
        simp only [runP,h1,h3,h5];exact ⟨rfl,fun _=>⟨h2,(R.one hm hc).1,fun _=>h4⟩⟩
    ·rename_i yb hx hy;cases hm:memG (j,false) S.kn with
     | false=>trivial
     | true =>
      simp only [cnT];cases hg:gone S x with
      | false=>trivial
      | true =>
       simp only [cnT,rv1];cases x with
       | v u=>simp [gone] at hg
       | t k =>
        simp only [gone,Option.isNone_iff_eq_none] at hg;obtain ⟨p1,h3,h4⟩:=R.arg (act:=D A∧cb=false) (fun h=>R.pick hc h.1 h.2) hy;have hk:=(R.one hm hc).2 k hg;have h5:argE So (D A∧cb=true) (.t k)=none:=by simp only [argE,hk]
        simp only [runP,h1,h3,h5];exact ⟨rfl,fun _=>⟨h2,(R.one hm hc).1,fun _=>h4⟩⟩
    ·trivial
   ·trivial
 case bin raw op x y =>
  split
  ·rename_i u v hu hv;obtain ⟨p,h1,h2⟩:=ar hu;obtain ⟨q,h3,h4⟩:=ar hv;simp only [runP,h1,h3,hhp];exact qE3 ⟨h2,h4⟩ (bin_rel _ _ _ _)
  ·trivial
 case un op x =>
  split
  ·rename_i u hu;obtain ⟨p,h1,h2⟩:=ar hu;simp only [runP,h1,hhp];exact qE3 h2 (un_rel _ _)
  ·trivial
 case mm mx x y =>
  split
  ·rename_i u v hu hv;obtain ⟨p,h1,h2⟩:=ar hu;obtain ⟨q,h3,h4⟩:=ar hv;simp only [runP,h1,h3,hhp];exact qE3 ⟨h2,h4⟩ (mm_rel _ _ _)
  ·trivial
 case beq neg x y =>
  split
  ·rename_i u v hu hv;obtain ⟨p,h1,h2⟩:=ar hu;obtain ⟨q,h3,h4⟩:=ar hv;simp only [runP,h1,h3,hhp];exact qE3 ⟨h2,h4⟩ (beq_rel _ _ _)
  ·trivial
 case conv raw k x =>
  split
  ·rename_i k' n hu;obtain ⟨p,h1,h2⟩:=ar hu;simp only [runP,h1,hhp];exact qE3 h2 (fit_rel _ _ _)
  ·trivial
 case alloc e zero =>
  simp only [runP,hhp];exact ⟨rfl,rfl,fun _=>trivial⟩
 case box e n x =>
  split
  ·rename_i v hv;obtain ⟨p,h1,h2⟩:=ar hv;split
   ·rename_i l hl;simp only [runP,h1,hl,hhp];exact ⟨rfl,rfl,fun _=>h2⟩
   ·trivial
  ·trivial
 case build zero parts =>
  split
  ·rename_i l hl;obtain ⟨p,h1,h2⟩:=fill_rel (act:=D A) R id hl;simp only [runP,h1,hhp];exact qEv h2
  ·trivial
 case bslice e sz n zero parts =>
  cases ht:etOf zero with
  | none =>
   simp only;split
   ·rename_i l hl;obtain ⟨p,h1,h2⟩:=fill_rel (act:=D A) R id hl;split
    ·rename_i v hp' hnew;simp only [runP,ht,h1,hhp,hnew];exact ⟨rfl,rfl,fun _=>h2⟩
    ·trivial
   ·trivial
  | some t =>
   simp only;cases hsz:Nat.beq sz t.sz with
   | false=>trivial
   | true =>
    simp only [cnT];split
    ·rename_i l hl;obtain ⟨p,h1,h2⟩:=fill_rel (act:=D A) R id hl;split
     ·rename_i vs hvs;split
      ·rename_i m hm;simp only [runP,ht,qFk,hsz,cnT,h1,hvs,hm,hhp];exact ⟨rfl,rfl,fun _=>h2⟩
      ·trivial
     ·trivial
    ·trivial
 case load n x =>
  split
  ·rename_i u hu;obtain ⟨p,h1,h2⟩:=ar hu;simp only [runP,h1,hhp];exact qE3 h2 (load_rel _ _ _)
  ·trivial
 case store n x y =>
  split
  ·rename_i d v hd hv;obtain ⟨p,h1,h2⟩:=ar hd;obtain ⟨q,h3,h4⟩:=ar hv;split
   ·rename_i l hl;simp only [runP,h1,h3,hl,hhp];exact qE3 ⟨h2,h4⟩ (store_rel _ _ _ _)
   ·trivial
  ·trivial
 case faddr off x =>
  split
  ·rename_i u hu;obtain ⟨p,h1,h2⟩:=ar hu;simp only [runP,h1,hhp];exact qE3 h2 (faddr_rel _ _ _)
  ·trivial
 case field off n x =>
  split
  ·rename_i u hu;obtain ⟨p,h1,h2⟩:=ar hu;simp only [runP,h1,hhp];exact field_rel h2 _ _ _
  ·trivial
 case iaddr sz x y =>
  split
  ·rename_i u k i hu hv;obtain ⟨p,h1,h2⟩:=ar hu;obtain ⟨q,h3,h4⟩:=ar hv;simp only [runP,h1,h3,hhp];exact qE3 ⟨h2,h4⟩ (iaddr_rel _ _ _ _)
  ·trivial
 case index x y =>
  split
  ·rename_i u k i hu hv;obtain ⟨p,h1,h2⟩:=ar hu;obtain ⟨q,h3,h4⟩:=ar hv;simp only [runP,h1,h3,hhp];exact ⟨rfl,fun hh=>⟨⟨h2,h4⟩,fun ha=>(hh ha).1⟩⟩
  ·trivial
 case sub sz x lo hi =>
  cases sz with
  | none =>
   simp only [primQ];split
   ·rename_i s hs;obtain ⟨p,h1,h2⟩:=ar hs;split
    ·rename_i l h hl hh;obtain ⟨q,h3,h4⟩:=bound_rel (act:=D A) R id hl;obtain ⟨r,h5,h6⟩:=bound_rel (act:=D A) R id hh;simp only [runP,h1,h3,h5,hhp];exact ⟨rfl,fun hh=>⟨⟨h2,h4,h6⟩,fun ha=>(hh ha).1⟩⟩
    ·trivial
   ·trivial
  | some sz =>
   simp only [primQ];split
   ·rename_i s hs;obtain ⟨p,h1,h2⟩:=ar hs;split
    ·rename_i n hn;split
     ·rename_i l h hl hh;obtain ⟨q,h3,h4⟩:=bound_rel (act:=D A) R id hl;obtain ⟨r,h5,h6⟩:=bound_rel (act:=D A) R id hh;simp only [runP,h1,hhp,hn,h3,h5];exact qE3 ⟨h2,h4,h6⟩ (sub_rel _ _ _ _ _)
     ·trivial
    ·trivial
   ·trivial
 case lenS x =>
  split
  ·rename_i v hv;obtain ⟨p,h1,h2⟩:=ar hv;simp only [runP,h1,hhp];exact qEv h2
  ·trivial
 case len x =>
  split
  ·rename_i s hs;obtain ⟨p,h1,h2⟩:=ar hs;split
   ·rename_i n hn;simp only [runP,h1,hhp,hn];exact qEv h2
   ·trivial
  ·trivial
 case append e sz bytes zero x y =>
  split
  ·rename_i u v hu hv;obtain ⟨p,h1,h2⟩:=ar hu;obtain ⟨q,h3,h4⟩:=ar hv;simp only [runP,h1,h3,hhp];exact qE3 ⟨h2,h4⟩ (append_rel _ _ _ _ _ _ _)
  ·trivial
 case extract x i =>
  split
  ·rename_i l hl;obtain ⟨p,h1,h2⟩:=ar hl;split
   ·rename_i y hy;simp only [runP,h1,hy,hhp];exact qEv h2
   ·trivial
  ·trivial
 case call f xs=>trivial
 case callL f xs=>trivial
 case callV x xs=>trivial
 case panic x=>trivial
theorem read_old (hk:Hold a S.kn) (hsl:∀i G v,getQ S.sl i=some (G,v)→Hold a G→∃ρ,a.tmps[i]?=some (v.den ρ)):Read (qE2 S a) S (Hold a):=by
 have key:∀ {A:GL} {j:Nat} {cb:Bool},argQ S A (.t j)=some (.c (.o (.val (.bool cb))))→Hold a A→a.tmps[j]?=some (.bool cb):=fun {A j cb} hc hA=>by
  simp only [argQ] at hc;split at hc
  ·rename_i G u hg;cases hs:subG A S.kn G with
   | false=>rw [hs] at hc; simp at hc
   | true =>
    rw [hs] at hc;simp only [cnT,snJ] at hc;subst hc;obtain ⟨ρ,hr⟩:=hsl j G _ hg (subG_hold hA hk hs);exact hr
  ·cases hc
 refine ⟨rfl,fun hact h=>argQ_rel hk hact h,fun {A j cb b} hc hA hb=>Hold.cons (by rw [key hc hA,hb]) hA,fun {A j cb b} hm hc=>⟨fun hA=>?_,fun k hk'=>?_⟩⟩
 ·have h1:=key hc hA;have h2:=hk _ (qGk hm);simp only at h2;rw [h1] at h2;simpa using h2
 ·simp only [qE2,qGi,hk',Option.map_none]
end
end Go.Eng
