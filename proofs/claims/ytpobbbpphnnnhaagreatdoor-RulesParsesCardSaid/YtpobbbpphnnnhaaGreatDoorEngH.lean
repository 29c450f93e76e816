/-
  Texts of a claim.
-/
import Derived.Deep.Quiet
import Derived.IntWalk
import Derived.Laws.Bits64
import Derived.Laws.Strings
import Derived.Laws.CopyRow
import Derived.Laws.Cells
import Derived.Test.YtpobbbpphnnnhaaGreatDoorEngS
namespace Go.Proofs.YtpobbbpphnnnhaaGreatDoor
open Go.Eng
set_option linter.unusedVariables false
set_option linter.unusedSimpArgs false
inductive Trees (v:List Eng.Node):Nat→Nat→Nat→Prop
 | nil (a:Nat):a≤v.length→Trees v 0 a a
 | cons {k a b e:Nat} (n:Eng.Node):v[a]?=some n→0≤n.kids→Trees v n.kids.toNat (a+1) b→Trees v k b e→Trees v (k+1) a e
def Tree (v:List Eng.Node) (a e:Nat):Prop:=Trees v 1 a e
theorem Trees.le {v:List Eng.Node} {k a e:Nat} (h:Trees v k a e):a+k≤e∧e≤v.length:=by
 induction h with
 | nil a ha=>exact ⟨by omega,ha⟩
 | cons n hn h0 h1 h2 i1 i2=>exact ⟨by omega,i2.2⟩
theorem Tree.mk {v:List Eng.Node} {a e:Nat} {n:Eng.Node} (h1:v[a]?=some n) (h2:0≤n.kids) (h3:Trees v n.kids.toNat (a+1) e):Tree v a e:=Trees.cons n h1 h2 h3 (Trees.nil e h3.le.2)
end Go.Proofs.YtpobbbpphnnnhaaGreatDoor
namespace Go.Eng
set_option linter.unusedVariables false
set_option linter.unusedSimpArgs false
def Cls (E:Env) (ρ:Nat→Value) (hp:List SB) (w:World):Prop:=HpSat E.X E.w0 w ρ hp∧Stays E.X E.w0 w
def qEz (ρ:Nat→Value) (S:St) (a:Act):Prop :=
 ∀i c v,getE S.sl i=some (c,v)→(c→a.tmps[i]?=some (v.den ρ))∧(¬c→a.tmps[i]?=some undef)∧(c→v.lt S.hp.length)
def OpOK (E:Env) (ρ:Nat→Value) (S:St) (a:Act) (o:Oper):RR→Prop
 | .no=>True
 | .quiet p v=>p→v.lt S.hp.length∧∀w,Cls E ρ S.hp w→o.quietAt E.P a (Cls E ρ S.hp) w (v.den ρ)
 | .still p v=>p→v.lt S.hp.length∧∀w0,Cls E ρ S.hp w0→∀w,(execOp a.eval o).run E.P w=.ok (.value (v.den ρ)) w
 | .ok p v hp'=>p→v.lt hp'.length∧S.hp.length≤hp'.length∧∀w,Cls E ρ S.hp w→∀(K:Act→World→Prop) (Q:Exit→Act→World→Prop),
   (∀ρ' w',(∀i<S.hp.length,ρ' i=ρ i)→Cls E ρ' hp' w'→K (a.put o.dst (v.den ρ')) w')→o.wp E.P a w K Q
 | .any p k=>p→∀w,Cls E ρ S.hp w→∀(K:Act→World→Prop) (Q:Exit→Act→World→Prop),(∀b w',Cls E ρ S.hp w'→K (a.put o.dst (.float k b)) w')→o.wp E.P a w K Q
theorem qBi {E:Env} {ρ:Nat→Value} {S:St} {a:Act} {o:Oper} {p act:Prop} (hact:act) {r:RR} (h:p→OpOK E ρ S a o r):OpOK E ρ S a o (owe p act r):=by
 cases r with
 | no=>trivial
 | ok q v hp'=>exact fun hp=>h hp.1 (hp.2 hact)
 | quiet q v=>exact fun hp=>h hp.1 (hp.2 hact)
 | still q v=>exact fun hp=>h hp.1 (hp.2 hact)
 | any q k=>exact fun hp=>h hp.1 (hp.2 hact)
section
variable {E:Env} {ρ:Nat→Value} {S:St} {a:Act} {o:Oper} {act:Prop}
theorem qAh (hs:qEz ρ S a) (hact:act) {x:Operand} {y:Arg} (hx:arg x=some y) {p:Prop} {v:SV} (h:argE S act y=some (p,v)) (hp:p) :
  a.eval x=v.den ρ∧v.lt S.hp.length:=by
 cases x with
 | tmp t =>
  simp only [arg,snJ] at hx;subst hx;simp only [argE] at h;split at h
  ·rename_i c u hg;simp only [snJ,Prod.mk.injEq] at h;obtain ⟨rfl,rfl⟩:=h;obtain ⟨h1,_,h3⟩:=hs t c u hg;refine ⟨?_,h3 (hp hact)⟩;simp only [Act.eval];have:=h1 (hp hact);simp [Array.getD_eq_getD_getElem?,this]
  ·cases h
 | const c =>
  simp only [arg,snJ] at hx;subst hx;simp only [argE,snJ,Prod.mk.injEq] at h;obtain ⟨_,rfl⟩:=h;exact ⟨rfl,tV⟩
 | global g=>simp [arg] at hx
 | func f =>
  simp only [arg,snJ] at hx;subst hx;simp only [argE,snJ,Prod.mk.injEq] at h;obtain ⟨_,rfl⟩:=h;exact ⟨rfl,tV⟩
theorem qCz {p:Prop} {v:SV} (hlt:p→v.lt S.hp.length) (h:p→∀w,Cls E ρ S.hp w→(execOp a.eval o).run E.P w=.ok (.value (v.den ρ)) w):OpOK E ρ S a o (.quiet p v) :=
 fun hp=>⟨hlt hp,fun w hw=>by unfold Oper.quietAt; rw [h hp w hw]; exact ⟨rfl,rfl⟩⟩
theorem qAo {p:Prop} {v:SV} (hlt:p→v.lt S.hp.length) (h:p→∀w0,Cls E ρ S.hp w0→∀w,(execOp a.eval o).run E.P w=.ok (.value (v.den ρ)) w):OpOK E ρ S a o (.still p v) :=
 fun hp=>⟨hlt hp,h hp⟩
theorem wrap_fit {raw:Bool} {k:IntKind} {x:Int} {p:Prop} {v:SV} (h:fit raw k x=.still p v) (hp:p):v=.c (.o (.val (.int k (k.wrap x)))):=by
 unfold fit ret1 at h;cases k <;> cases raw <;> simp only [cnT,cnF,RR.still.injEq,reduceCtorEq] at h <;> obtain ⟨rfl,rfl⟩:=h
 ·rw [IntWalk.i32_in _ hp]
 ·rfl
 ·rw [IntWalk.i64_in _ hp]
 ·rfl
 all_goals simp [IntKind.wrap,IntKind.bits,IntKind.signed]
theorem fit_quiet {raw:Bool} {k:IntKind} {x:Int}:(∃p v,fit raw k x=.still p v)∨fit raw k x=.no:=by
 unfold fit ret1;cases k <;> cases raw <;> first | exact .inr rfl | exact .inl ⟨_,_,rfl⟩
theorem fit_ok {raw:Bool} {k:IntKind} {x:Int} (h:∀w,(execOp a.eval o).run E.P w=.ok (.value (.int k (k.wrap x))) w):OpOK E ρ S a o (fit raw k x):=by
 rcases fit_quiet (raw:=raw) (k:=k) (x:=x) with ⟨p,v,hf⟩ | hf
 ·rw [hf];refine qAo (fun hp=>?_) (fun hp w0 _ w=>?_)
  ·rw [wrap_fit hf hp]; trivial
  ·rw [wrap_fit hf hp]; exact h w
 ·rw [hf]; trivial
theorem run_binInt (w:World) (op:BinOp) (t ty:TypeId) (x y:Operand) (k:IntKind) (m n:Int) (hx:a.eval x=.int k m) (hy:a.eval y=.int k n) (ho:o.op=.binOp op t x y ty)
  (h1:op≠.shl) (h2:op≠.shr) :
  (execOp a.eval o).run E.P w=((match op with
   | .add | .sub | .mul=>Op.intArith op k m n
   | .quo | .rem=>Op.intDiv op k m n
   | .and | .or | .xor | .andNot=>Op.intBits op k m n
   | _=>Op.intCmp op m n).run E.P w).andThen fun v w'=>.ok (.value v) w':=by
 unfold execOp;simp only [ho,hx,hy];cases op <;> simp_all [eqGuard,binOp]
theorem qB4 {p:Prop} {v:Value} (h:p→∀w,(execOp a.eval o).run E.P w=.ok (.value v) w):OpOK E ρ S a o (ret1 p v) :=
 qAo (fun _=>trivial) (fun hp w0 _ w=>h hp w)
theorem binInt_ok (raw:Bool) (op:BinOp) (t ty:TypeId) (x y:Operand) (k k':IntKind) (m n:Int) (hx:a.eval x=.int k m) (hy:a.eval y=.int k' n) (ho:o.op=.binOp op t x y ty) :
  OpOK E ρ S a o (binR raw op (.int k m) (.int k' n)):=by
 by_cases hs:op=.shl
 ·subst hs;simp only [binR];rcases fit_quiet (raw:=raw) (k:=k) (x:=m*2 ^ (min n.toNat k.bits)) with ⟨p,v,hf⟩ | hf
  ·rw [hf];refine qAo (fun hp=>?_) (fun hp w0 _ w=>?_)
   ·rw [wrap_fit hf hp.2]; trivial
   ·rw [wrap_fit hf hp.2];have:¬n<0:=by omega
    unfold execOp;simp [ho,hx,hy,eqGuard,binOp,Op.shift,this,SV.den,SC.den,S0.den]
  ·rw [hf]; trivial
 by_cases hs':op=.shr
 ·subst hs';simp only [binR];refine qB4 fun hp w=>?_
  have:¬n<0:=by omega
  unfold execOp;simp only [ho,hx,hy,eqGuard,binOp,Op.shift,this];have hpos:(0:Int)≤2 ^ min n.toNat k.bits:=Int.pow_nonneg (by omega);simp [Int.fdiv_eq_ediv_of_nonneg _ hpos]
 by_cases hk:k=k'
 ·subst hk;have hr:=fun w=>run_binInt (E:=E) w op t ty x y k m n hx hy ho hs hs'
  cases op <;> simp only [binR,decide_true,cnT] <;> first | exact absurd rfl hs | exact absurd rfl hs' | skip
  case add=>exact fit_ok fun w=>by rw [hr w]; simp [Op.intArith]
  case sub=>exact fit_ok fun w=>by rw [hr w]; simp [Op.intArith]
  case mul=>exact fit_ok fun w=>by rw [hr w]; simp [Op.intArith]
  case quo =>
   unfold quot;cases k <;> try trivial
   case i64 =>
    cases raw
    ·exact qB4 fun hp w=>by
      rw [hr w];have h0:¬n=0:=by omega
      simp [Op.intDiv,h0,IntWalk.i64_quo m n hp]
    ·exact qB4 fun hp w=>by
      rw [hr w];simp [Op.intDiv,hp.1,IntWalk.i64_in _ hp.2]
   case u8 =>
    exact qB4 fun hp w=>by
      rw [hr w];have h0:¬n=0:=by omega
      simp [Op.intDiv,h0,IntWalk.u8_quo m n hp]
   case u32 =>
    exact qB4 fun hp w=>by
      rw [hr w];have h0:¬n=0:=by omega
      simp [Op.intDiv,h0,IntWalk.u32_quo m n hp]
   case u64 =>
    exact qB4 fun hp w=>by
      rw [hr w];have h0:¬n=0:=by omega
      simp [Op.intDiv,h0,IntWalk.u64_quo m n hp]
  case rem =>
   unfold remd;cases raw
   ·exact qB4 fun hp w=>by
     rw [hr w];have h0:¬n=0:=by omega
     simp [Op.intDiv,h0,Int.tmod_eq_emod_of_nonneg hp.1]
   ·exact qB4 fun hp w=>by
     rw [hr w];simp [Op.intDiv,hp]
  case and=>exact qB4 fun _ w=>by rw [hr w]; simp [Op.intBits,qCw]
  case or=>exact qB4 fun _ w=>by rw [hr w]; simp [Op.intBits,qBy]
  case xor=>exact qB4 fun _ w=>by rw [hr w]; simp [Op.intBits,bitXor]
  case andNot=>exact qB4 fun _ w=>by rw [hr w]; simp [Op.intBits,bitNot]
  case eql=>exact qB4 fun _ w=>by rw [hr w]; simp [Op.intCmp]; rfl
  case neq=>exact qB4 fun _ w=>by rw [hr w]; simp [Op.intCmp]; rfl
  case lss=>exact qB4 fun _ w=>by rw [hr w]; simp [Op.intCmp]
  case leq=>exact qB4 fun _ w=>by rw [hr w]; simp [Op.intCmp]
  case gtr=>exact qB4 fun _ w=>by rw [hr w]; simp [Op.intCmp]
  case geq=>exact qB4 fun _ w=>by rw [hr w]; simp [Op.intCmp]
 ·cases op <;> simp only [binR,deF hk,cnF] <;> first | trivial | exact absurd rfl hs | exact absurd rfl hs'
theorem str_beq (x y:BA):(x.toList == y.toList)=decide (x=y):=by
 have e:∀z:BA,z.toList=z.data.toList:=fun z=>ByteArray.toList_eq z
 rw [Bool.eq_iff_iff];simp only [beq_iff_eq,decide_eq_true_eq,e];constructor
 ·intro h;have:x.data=y.data:=Array.toList_inj.1 h;cases x; cases y; simp_all
 ·rintro rfl; rfl
theorem binStr_ok (raw:Bool) (op:BinOp) (t ty:TypeId) (x y:Operand) (m n:BA) (hx:a.eval x=.string m) (hy:a.eval y=.string n) (ho:o.op=.binOp op t x y ty) :
  OpOK E ρ S a o (binR raw op (.string m) (.string n)):=by
 have hr:∀w,(execOp a.eval o).run E.P w=((Op.stringOp op m n).run E.P w).andThen fun v w'=>.ok (.value v) w':=fun w=>by
  unfold execOp;simp only [ho,hx,hy];cases op <;> simp [eqGuard,binOp]
 cases op <;> simp only [binR] <;> first | trivial | skip
 case add =>
  refine qB4 fun hp w=>?_
  rw [hr w];have:¬(IntKind.i64.max<((m.size+n.size:Nat):Int)):=by simp only [IntKind.max,IntKind.signed,IntKind.bits]; simp; omega
  simp only [Op.stringOp,gt_iff_lt,this];simp
 all_goals
  refine qB4 fun hp w=>?_
  rw [hr w];simp [Op.stringOp,str_beq,sLt]
theorem bin_ok (raw:Bool) (op:BinOp) (t ty:TypeId) (x y:Operand) (u v:Value) (hx:a.eval x=u) (hy:a.eval y=v) (ho:o.op=.binOp op t x y ty) :
  OpOK E ρ S a o (binR raw op u v):=by
 unfold binR;split
 ·exact binInt_ok raw op t ty x y _ _ _ _ hx hy ho
 ·exact binStr_ok raw op t ty x y _ _ hx hy ho
 ·trivial
theorem mm_ok (mx:Bool) {c:Call} {x y:Operand} (u v:Value) (hc:c.callee=.builtin (bif mx then .max else .min)) (ha:c.args = #[x,y]) (hx:a.eval x=u) (hy:a.eval y=v) (ho:o.op=.call c):OpOK E ρ S a o (mmR mx u v):=by
 unfold mmR;split
 ·rename_i k m k' n;refine qB4 fun _ w=>?_
  unfold execOp;simp only [ho,resolve,hc];cases mx <;> simp [invoke,builtin,ha,hx,hy,Builtin.min_,Builtin.max_,Builtin.min2,Builtin.max2]
 ·trivial
theorem run_equal_bool {P:Program} (w:World) {t:TypeId} (m n:Bool) (h:P.underlying t=some .bool):(Op.equal t (.bool m) (.bool n)).run P w=.ok (m == n) w:=by
 have:∀d,(Op.equalIn (d+1) t (.bool m) (.bool n)).run P w=.ok (m == n) w:=fun d=>by simp [Op.equalIn,run_underlying h]
 exact this 9999
theorem beq_ok (neg:Bool) (t ty:TypeId) (x y:Operand) (u v:Value) (hu:E.P.underlying t=some .bool) (hx:a.eval x=u) (hy:a.eval y=v) (ho:o.op=.binOp (bif neg then .neq else .eql) t x y ty) :
  OpOK E ρ S a o (beqR neg u v):=by
 unfold beqR;split
 ·rename_i m n;refine qB4 fun _ w=>?_
  unfold execOp;simp only [ho,hx,hy];cases neg <;> simp [eqGuard,binOp,run_equal_bool w m n hu]
 ·trivial
theorem un_ok (op:UnOp) (t:TypeId) (x:Operand) (u:Value) (hx:a.eval x=u) (ho:o.op=.unOp op t x):OpOK E ρ S a o (unR op u):=by
 unfold unR;split
 ·cases op <;> first | trivial | skip
  refine fit_ok fun w=>?_
  unfold execOp;simp [ho,hx,Op.unary,Op.intArith]
 ·cases op <;> first | trivial | skip
  refine qB4 fun _ w=>?_
  unfold execOp;simp [ho,hx,Op.unary]
 ·trivial
end
end Go.Eng
namespace Go.Eng
set_option linter.unusedVariables false
set_option linter.unusedSimpArgs false
def Same (w w':World) (k:Nat):Prop:=w'.heap[k]?=w.heap[k]?
theorem Same.cell {w w':World} {a:Addr} (h:Same w w' a.block):w'.cell? a=w.cell? a:=World.cell?_of_block h
theorem fp1_own {v:Value} {k:Nat} (h:v.ownBlock=some k):fp1 v=some k:=by
 cases v <;> simp only [Value.ownBlock,reduceCtorEq] at h
 rename_i a _ _;cases a <;> simp_all [Value.ownBlock,fp1]
theorem fp_own {v:Value} {k:Nat} (h:v.ownBlock=some k):k∈fp v:=by
 cases v <;> simp only [Value.ownBlock,reduceCtorEq] at h
 rename_i a _ _;cases a <;> simp_all [Value.ownBlock,fp,fp1]
theorem qGs.keep {X:Nat→Prop} {w0 w w':World} {v:Value}:∀ {m:MapC},qGs X w0 w v m→(∀k,fp1 v=some k→Same w w' k)→qGs X w0 w' v m
 | none,h,_=>h
 | some m,⟨b,es,c,hv,hb,he,hx⟩,hk=>⟨b,es,c,hv,(hk b (by rw [hv]; rfl)).trans hb,he,hx⟩
theorem qEu {w w':World} {e size n:Nat} {v:Value} {xs:List Value} (h:w.ownsRow 0 e size v n xs) (hk:∀k,v.ownBlock=some k→Same w w' k):w'.ownsRow 0 e size v n xs:=by
 refine ⟨h.1,?_⟩;rcases h.2 with hn | ⟨g,cap,cur,rfl,hb,hg,rest⟩
 ·exact .inl hn
 ·exact .inr ⟨g,cap,cur,rfl,hb,(hk g rfl).trans hg,rest⟩
theorem RowAt.keep {X:Nat→Prop} {w0 w w':World} {q:QK} {v:Value} {l:List q.T} (h:RowAt X w0 w q v l) (hk:∀k,fp1 v=some k→Same w w' k):RowAt X w0 w' q v l:=by
 obtain ⟨⟨e,h1⟩,h2⟩:=h;exact ⟨⟨e,qEu h1 fun k hv=>hk k (fp1_own hv)⟩,h2⟩
theorem qA7.keep {X:Nat→Prop} {w0 w w':World}:∀ {ks:List NK} {x:NT ks} {vs:List Value},qA7 X w0 w ks x vs→(∀k∈vs.filterMap fp1,Same w w' k)→qA7 X w0 w' ks x vs
 | [],_,_,h,_=>h
 | .int _::r,x,_,h,hk=>qA7.keep (ks:=r) (x:=x.2) h hk
 | .bool::r,x,_,h,hk=>qA7.keep (ks:=r) (x:=x.2) h hk
 | .str::r,x,_,h,hk=>qA7.keep (ks:=r) (x:=x.2) h hk
 | .map::r,x,_,⟨v,vs',rfl,h1,h2⟩,hk=>by
  refine ⟨v,vs',rfl,h1.keep fun k hf=>hk k ?_,qA7.keep (ks:=r) (x:=x.2) h2 fun k hf=>hk k ?_⟩
  ·simp only [List.filterMap_cons,hf,List.mem_cons,true_or]
  ·simp only [List.filterMap_cons];split
   ·exact hf
   ·exact List.mem_cons.2 (.inr hf)
 | .rw _::r,x,_,⟨v,vs',rfl,h1,h2⟩,hk=>by
  refine ⟨v,vs',rfl,h1.keep fun k hf=>hk k ?_,qA7.keep (ks:=r) (x:=x.2) h2 fun k hf=>hk k ?_⟩
  ·simp only [List.filterMap_cons,hf,List.mem_cons,true_or]
  ·simp only [List.filterMap_cons];split
   ·exact hf
   ·exact List.mem_cons.2 (.inr hf)
theorem qA3.keep {X:Nat→Prop} {w0 w w':World} {ks:List NK}:∀ {l:List (NT ks)} {rs:List (List Value)},qA3 X w0 w ks l rs→(∀k∈rs.flatMap (fun r=>r.filterMap fp1),Same w w' k)→qA3 X w0 w' ks l rs
 | [],[],h,_=>trivial
 | x::l,r::rs,h,hk=>⟨h.1.keep fun k hf=>hk k (by simp only [List.flatMap_cons,List.mem_append]; exact .inl hf),qA3.keep h.2 fun k hf=>hk k (by simp only [List.flatMap_cons,List.mem_append]; exact .inr hf)⟩
 | [],_::_,h,_=>h.elim
 | _::_,[],h,_=>h.elim
theorem fpI_own {v:Value} {k:Nat} (h:v.ownBlock=some k):k∈fpI v:=by
 cases v <;> simp only [Value.ownBlock,reduceCtorEq] at h
 rename_i a _ _;cases a <;> simp_all [Value.ownBlock,fpI,fp1]
theorem BagOK.keep {X:Nat→Prop} {w0 w w':World} {ks:List NK} {e:Nat} {l:List (NT ks)} {u:Value} {rs:List (List Value)} (h:BagOK X w0 w ks e l u rs) (hk:∀k∈fp (bagV u rs),Same w w' k)
  (hs:∀ {n:Nat} {v:Value} {xs:List Value},w.ownsRow 0 e ks.length v n xs→(∀k,v.ownBlock=some k→Same w w' k)→w'.ownsRow 0 e ks.length v n xs):BagOK X w0 w' ks e l u rs:=by
 rw [fp_bag] at hk;exact ⟨hs h.row fun k hf=>hk k (List.mem_append.2 (.inl (fpI_own hf))),h.excl,h.refs.keep fun k hf=>hk k (List.mem_append.2 (.inr hf)),h.uniq,h.alone,h.pos⟩
theorem SB.sat_keep {X:Nat→Prop} {w0 w w':World} {ρ:Nat→Value} {v:Value} {sb:SB} (h:sb.sat X w0 w ρ v)
  (hv:∀k,k<w0.heap.size→¬X k→Same w w' k) (hz:∀k,Froz w k→Same w w' k) (hl:sb.ex=true→∀k,k∈fp v→Same w w' k):sb.sat X w0 w' ρ v:=by
 cases sb with
 | cells e l =>
  obtain ⟨b,rfl,hb,hx⟩:=h;exact ⟨b,rfl,(hl rfl b (List.mem_singleton.2 rfl)).trans hb,hx⟩
 | row t e l =>
  obtain ⟨h1,h2⟩:=h;exact ⟨qEu h1 fun k hk=>hl rfl k (fp_own hk),h2⟩
 | view t l =>
  obtain ⟨a,cap,rfl,hcap,h1⟩:=h;refine ⟨a,cap,rfl,hcap,fun j u hu=>?_⟩;obtain ⟨ad,had,h2,h3⟩:=h1 j u hu;have hs:Same w w' ad.block:=by
   rcases h3 with ⟨h3,h4⟩ | h3
   ·exact hv _ h3 h4
   ·exact hz _ h3
  refine ⟨ad,had,?_,h3.imp id fun ⟨C,e,k,hb⟩=>⟨C,e,k,hs.trans hb⟩⟩;rw [Same.cell (w:=w) (a:=ad.add j)]
  ·exact h2
  ·have:(ad.add j).block=ad.block:=by unfold Addr.add; split <;> rfl
   rw [this];exact hs
 | part k lo n sz=>exact h
 | slc k n sz=>exact h
 | clo f k l=>exact h
 | map m=>exact qGs.keep h fun k hk=>hl rfl k (by
   cases v <;> simp only [fp1,reduceCtorEq] at hk <;> simp_all [fp,fp1])
 | bag ks e l =>
  obtain ⟨u,rs,rfl,h1⟩:=h;exact ⟨u,rs,rfl,h1.keep (hl rfl) qEu⟩
 | dead=>trivial
theorem SB.sat_ren {X:Nat→Prop} {w0 w:World} {ρ ρ':Nat→Value} {v:Value} {sb:SB} {n:Nat} (h:sb.sat X w0 w ρ v) (hlt:sb.lt n) (hr:∀i<n,ρ' i=ρ i):sb.sat X w0 w ρ' v:=by
 cases sb with
 | cells e l =>
  obtain ⟨b,hv,hb,hx⟩:=h;refine ⟨b,hv,?_,hx⟩;rw [hb,show l.map (S0.den ρ')=l.map (S0.den ρ) from List.map_congr_left fun y hy=>S0.den_congr hr (hlt y hy)]
 | row t e l=>exact h
 | view t l=>exact h
 | part k lo n sz=>exact (show qDa (ρ' k) v lo n sz from by rw [hr k hlt]; exact h)
 | slc k n sz=>exact (show ∃b,ρ' k=_∧_ from by rw [hr k hlt]; exact h)
 | clo f k l =>
  have h:v=_:=h;show v=_;rw [h,show (l.take k).map (S0.den ρ')=(l.take k).map (S0.den ρ) from List.map_congr_left fun y hy=>S0.den_congr hr (hlt y (List.mem_of_mem_take hy)),show (l.drop k).map (S0.den ρ')=(l.drop k).map (S0.den ρ) from List.map_congr_left fun y hy=>S0.den_congr hr (hlt y (List.mem_of_mem_drop hy))]
 | map m=>exact h
 | bag ks e l=>exact h
 | dead=>trivial
theorem Stays.keep {X:Nat→Prop} {w0 w w':World} (h:Stays X w0 w) (ho:w'.os=w.os) (hu:w'.output=w.output) (hs:w.heap.size≤w'.heap.size)
  (hk:∀k,k<w0.heap.size→¬X k→Same w w' k):Stays X w0 w' :=
 ⟨ho.trans h.os,hu.trans h.output,Nat.le_trans h.size hs,fun k h1 h2=>(hk k h1 h2).trans (h.block k h1 h2)⟩
theorem HpSat.push {X:Nat→Prop} {w0 w w':World} {ρ ρ':Nat→Value} {hp:List SB} (h:HpSat X w0 w ρ hp) (sb:SB)
  (hr:∀i<hp.length,ρ' i=ρ i)
  (hv:∀k,k<w0.heap.size→¬X k→Same w w' k) (hz:∀k,Froz w k→Same w w' k)
  (hl:∀(i:Nat) (sb:SB) (k:Nat),hp[i]?=some sb→sb.ex=true→k∈fp (ρ i)→Same w w' k)
  (hsat:sb.sat X w0 w' ρ' (ρ' hp.length)) (hlt:sb.lt (hp.length+1))
  (href:qD1 (ρ' hp.length))
  (hnew:sb.ex=true→∀b,b∈fp (ρ' hp.length)→∀(i:Nat) (sb':SB),hp[i]?=some sb'→sb'.ex=true→¬b∈fp (ρ i)) :
  HpSat X w0 w' ρ' (hp++[sb]):=by
 have key:∀(i:Nat) (sb':SB),(hp++[sb])[i]?=some sb'→(i<hp.length∧hp[i]?=some sb')∨(i=hp.length∧sb'=sb):=by
  intro i sb' hi;by_cases hlt:i<hp.length
  ·rw [List.getElem?_append_left hlt] at hi;exact .inl ⟨hlt,hi⟩
  ·rw [List.getElem?_append_right (by omega)] at hi;by_cases h0:i - hp.length=0
   ·rw [h0] at hi;simp at hi;exact .inr ⟨by omega,hi.symm⟩
   ·rw [List.getElem?_eq_none (by simp; omega)] at hi;cases hi
 refine ⟨fun i hi=>?_,fun i sb' hi=>?_,fun i sb' hi=>?_,?_,h.tab⟩
 ·simp at hi;by_cases h0:i=hp.length
  ·subst h0; exact href
  ·rw [hr i (by omega)]; exact h.ref i (by omega)
 ·rcases key i sb' hi with ⟨h1,h2⟩ | ⟨rfl,rfl⟩
  ·rw [hr i h1];exact SB.sat_ren (SB.sat_keep (h.sat i sb' h2) hv hz fun hx k hk=>hl i sb' k h2 hx hk) (h.lt i sb' h2) hr
  ·exact hsat
 ·rcases key i sb' hi with ⟨h1,h2⟩ | ⟨rfl,rfl⟩
  ·exact SB.lt_mono (by simp) (h.lt i sb' h2)
  ·simpa using hlt
 ·intro i j sb1 sb2 b hij hi hj e1 e2 f1 f2;rcases key i sb1 hi with ⟨h1,h2⟩ | ⟨rfl,rfl⟩ <;> rcases key j sb2 hj with ⟨h3,h4⟩ | ⟨rfl,rfl⟩
  ·rw [hr i h1] at f1;rw [hr j h3] at f2;exact h.apart i j sb1 sb2 b hij h2 h4 e1 e2 f1 f2
  ·rw [hr i h1] at f1;exact hnew e2 b f2 i sb1 h2 e1 f1
  ·rw [hr j h3] at f2;exact hnew e1 b f1 j sb2 h4 e2 f2
  ·exact hij rfl
theorem HpSat.turn {X:Nat→Prop} {w0 w w':World} {ρ:Nat→Value} {hp:List SB} (h:HpSat X w0 w ρ hp) (i:Nat) (old sb:SB) (hi:hp[i]?=some old) (hox:sb.ex=true→old.ex=true)
  (hv:∀k,k<w0.heap.size→¬X k→Same w w' k) (hz:∀k,Froz w k→Same w w' k)
  (hl:∀(j:Nat) (sb:SB) (k:Nat),j≠i→hp[j]?=some sb→sb.ex=true→k∈fp (ρ j)→Same w w' k)
  (hsat:sb.sat X w0 w' ρ (ρ i)) (hlt:sb.lt hp.length):HpSat X w0 w' ρ (hp.set i sb):=by
 have hlen:i<hp.length:=by
  rcases Nat.lt_or_ge i hp.length with h' | h'
  ·exact h'
  ·rw [List.getElem?_eq_none h'] at hi; cases hi
 have key:∀(j:Nat) (sb':SB),(hp.set i sb)[j]?=some sb'→(j≠i∧hp[j]?=some sb')∨(j=i∧sb'=sb):=by
  intro j sb' hj;by_cases hji:j=i
  ·subst hji;rw [List.getElem?_set_self hlen] at hj;exact .inr ⟨rfl,by simpa using hj.symm⟩
  ·rw [List.getElem?_set_ne (Ne.symm hji)] at hj;exact .inl ⟨hji,hj⟩
 refine ⟨fun j hj=>h.ref j (by simpa using hj),fun j sb' hj=>?_,fun j sb' hj=>?_,?_,h.tab⟩
 ·rcases key j sb' hj with ⟨h1,h2⟩ | ⟨rfl,rfl⟩
  ·exact SB.sat_keep (h.sat j sb' h2) hv hz fun hx k hk=>hl j sb' k h1 h2 hx hk
  ·exact hsat
 ·rw [List.length_set];rcases key j sb' hj with ⟨h1,h2⟩ | ⟨rfl,rfl⟩
  ·exact h.lt j sb' h2
  ·exact hlt
 ·intro j k sb1 sb2 b hjk hj hk e1 e2 f1 f2;rcases key j sb1 hj with ⟨h1,h2⟩ | ⟨rfl,rfl⟩ <;> rcases key k sb2 hk with ⟨h3,h4⟩ | ⟨rfl,rfl⟩
  ·exact h.apart j k sb1 sb2 b hjk h2 h4 e1 e2 f1 f2
  ·exact h.apart j k sb1 old b hjk h2 hi e1 (hox e2) f1 f2
  ·exact h.apart j k old sb2 b hjk hi h4 (hox e1) e2 f1 f2
  ·exact hjk rfl
theorem Same.alloc {w:World} {o:Obj} {k:Nat} (h:k<w.heap.size):Same w (w.alloc o) k:=by
 show (w.heap.push o)[k]?=w.heap[k]?;rw [Array.getElem?_push,if_neg (by omega)]
theorem Froz.lt {w:World} {k:Nat} (h:Froz w k):k<w.heap.size:=by
 obtain ⟨C,e,i,h⟩:=h;exact (Array.getElem?_eq_some_iff.1 h).1
theorem Froz.no {w:World} {k:Nat} {o:Obj} (h:w.heap[k]?=some o) (ho:∀C e i,o≠.cells C e (i,i+1)):¬Froz w k:=fun ⟨C,e,i,h'⟩=>by
 rw [h] at h';exact ho C e i (Option.some.inj h')
theorem ownsRow_thaw {w:World} {e size n:Nat} {v:Value} {xs:List Value} (h:w.ownsRow 0 e size v n xs) {b:Nat} (hb:v.ownBlock=some b):¬Froz w b:=by
 rcases h.2 with ⟨rfl,_⟩ | ⟨g,cap,cur,rfl,_,hg,_⟩
 ·cases hb
 ·cases hb;exact Froz.no hg (by intros; simp)
theorem qGs.fp_lt3 {X:Nat→Prop} {w0 w:World} {v:Value} {k:Nat}:∀ {m:MapC},qGs X w0 w v m→fp1 v=some k→k<w.heap.size∧Excl X w0 k∧¬Froz w k
 | none,h,hk=>by rw [h] at hk; cases hk
 | some m,⟨b,es,c,hv,hb,_,hx⟩,hk=>by
  rw [hv] at hk;cases hk;exact ⟨(Array.getElem?_eq_some_iff.1 hb).1,hx,Froz.no hb (by intros; simp)⟩
theorem RowAt.fp_lt3 {X:Nat→Prop} {w0 w:World} {q:QK} {v:Value} {l:List q.T} {k:Nat} (h:RowAt X w0 w q v l) (hk:fp1 v=some k):k<w.heap.size∧Excl X w0 k∧¬Froz w k:=by
 obtain ⟨⟨e,h1⟩,h2⟩:=h;rcases h1.2 with ⟨hv,_⟩ | ⟨g,cap,cur,hv,_,hg,_⟩
 ·rw [hv] at hk; cases hk
 ·rw [hv] at hk;cases hk;exact ⟨(Array.getElem?_eq_some_iff.1 hg).1,h2 _ (by rw [hv]; rfl),Froz.no hg (by intros; simp)⟩
theorem qA7.fp_lt3 {X:Nat→Prop} {w0 w:World} {k:Nat}:∀ {ks:List NK} {x:NT ks} {vs:List Value},qA7 X w0 w ks x vs→k∈vs.filterMap fp1→k<w.heap.size∧Excl X w0 k∧¬Froz w k
 | [],_,_,h,hk=>by
  simp only [qA7] at h;subst h;simp at hk
 | .int _::r,x,_,h,hk=>qA7.fp_lt3 (ks:=r) (x:=x.2) h hk
 | .bool::r,x,_,h,hk=>qA7.fp_lt3 (ks:=r) (x:=x.2) h hk
 | .str::r,x,_,h,hk=>qA7.fp_lt3 (ks:=r) (x:=x.2) h hk
 | .map::r,x,_,⟨v,vs',rfl,h1,h2⟩,hk=>by
  simp only [List.filterMap_cons] at hk;split at hk
  ·exact qA7.fp_lt3 (ks:=r) (x:=x.2) h2 hk
  ·rename_i b hb;rcases List.mem_cons.1 hk with rfl | hk
   ·exact h1.fp_lt3 hb
   ·exact qA7.fp_lt3 (ks:=r) (x:=x.2) h2 hk
 | .rw _::r,x,_,⟨v,vs',rfl,h1,h2⟩,hk=>by
  simp only [List.filterMap_cons] at hk;split at hk
  ·exact qA7.fp_lt3 (ks:=r) (x:=x.2) h2 hk
  ·rename_i b hb;rcases List.mem_cons.1 hk with rfl | hk
   ·exact h1.fp_lt3 hb
   ·exact qA7.fp_lt3 (ks:=r) (x:=x.2) h2 hk
theorem qA3.fp_lt3 {X:Nat→Prop} {w0 w:World} {k:Nat} {ks:List NK}:∀ {l:List (NT ks)} {rs:List (List Value)},qA3 X w0 w ks l rs→k∈rs.flatMap (fun r=>r.filterMap fp1)→k<w.heap.size∧Excl X w0 k∧¬Froz w k
 | [],[],h,hk=>by simp at hk
 | x::l,r::rs,h,hk=>by
  simp only [List.flatMap_cons,List.mem_append] at hk;rcases hk with hk | hk
  ·exact h.1.fp_lt3 hk
  ·exact qA3.fp_lt3 h.2 hk
 | [],_::_,h,_=>h.elim
 | _::_,[],h,_=>h.elim
theorem BagOK.fp_lt3 {X:Nat→Prop} {w0 w:World} {ks:List NK} {e:Nat} {l:List (NT ks)} {u:Value} {rs:List (List Value)} {k:Nat} (h:BagOK X w0 w ks e l u rs) (hk:k∈fp (bagV u rs)):k<w.heap.size∧Excl X w0 k∧¬Froz w k:=by
 rw [fp_bag,List.mem_append] at hk;rcases hk with hk | hk
 ·rcases h.row.2 with ⟨hv,_⟩ | ⟨g,cap,cur,hv,_,hg,_⟩
  ·rw [hv] at hk; simp [fpI,fp1] at hk
  ·have:=h.excl g (by rw [hv]; rfl);rw [hv] at hk;simp only [fpI,fp1,Option.toList_some,List.mem_singleton] at hk;subst hk;exact ⟨(Array.getElem?_eq_some_iff.1 hg).1,this,Froz.no hg (by intros; simp)⟩
 ·exact h.refs.fp_lt3 hk
theorem HpSat.fp_lt3 {X:Nat→Prop} {w0 w:World} {ρ:Nat→Value} {hp:List SB} (h:HpSat X w0 w ρ hp) {i:Nat} {sb:SB} {k:Nat} (hi:hp[i]?=some sb) (hx:sb.ex=true) (hk:k∈fp (ρ i)):k<w.heap.size∧Excl X w0 k∧¬Froz w k:=by
 have hs:=h.sat i sb hi;cases sb with
 | cells e l =>
  obtain ⟨b,hv,hb,hx⟩:=hs;rw [hv] at hk;simp only [fp,fp1,Option.toList_some,List.mem_singleton] at hk;subst hk;exact ⟨(Array.getElem?_eq_some_iff.1 hb).1,hx,Froz.no hb (by intros; simp)⟩
 | row t e l =>
  obtain ⟨h1,h2⟩:=hs;rcases h1.2 with ⟨hv,_⟩ | ⟨g,cap,cur,hv,_,hg,_⟩
  ·rw [hv] at hk; simp [fp,fp1] at hk
  ·rw [hv] at hk;simp only [fp,fp1,Option.toList_some,List.mem_singleton] at hk;subst hk;exact ⟨(Array.getElem?_eq_some_iff.1 hg).1,h2 _ (by rw [hv]; rfl),Froz.no hg (by intros; simp)⟩
 | map m =>
  cases m with
  | none =>
   have hv:ρ i=.map none:=hs;rw [hv] at hk;simp [fp,fp1] at hk
  | some m =>
   obtain ⟨b,es,c,hv,hb,_,hx⟩:=hs;rw [hv] at hk;simp only [fp,fp1,Option.toList_some,List.mem_singleton] at hk;subst hk;exact ⟨(Array.getElem?_eq_some_iff.1 hb).1,hx,Froz.no hb (by intros; simp)⟩
 | bag ks e l =>
  obtain ⟨u,rs,hv,h1⟩:=hs;rw [hv] at hk;exact h1.fp_lt3 hk
 | view t l=>cases hx
 | part k lo n sz=>cases hx
 | slc k n sz=>cases hx
 | clo f k l=>cases hx
 | dead=>cases hx
theorem HpSat.fp_lt {X:Nat→Prop} {w0 w:World} {ρ:Nat→Value} {hp:List SB} (h:HpSat X w0 w ρ hp) {i:Nat} {sb:SB} {k:Nat} (hi:hp[i]?=some sb) (hx:sb.ex=true) (hk:k∈fp (ρ i)):k<w.heap.size∧Excl X w0 k :=
 ⟨(h.fp_lt3 hi hx hk).1,(h.fp_lt3 hi hx hk).2.1⟩
theorem HpSat.thaw {X:Nat→Prop} {w0 w:World} {ρ:Nat→Value} {hp:List SB} (h:HpSat X w0 w ρ hp) {i:Nat} {sb:SB} {k:Nat} (hi:hp[i]?=some sb) (hx:sb.ex=true) (hk:k∈fp (ρ i)):¬Froz w k:=(h.fp_lt3 hi hx hk).2.2
theorem qA3.fp_lt {X:Nat→Prop} {w0 w:World} {k:Nat} {ks:List NK} {l:List (NT ks)} {rs:List (List Value)} (h:qA3 X w0 w ks l rs) (hk:k∈rs.flatMap (fun r=>r.filterMap fp1)):k<w.heap.size∧Excl X w0 k :=
 ⟨(h.fp_lt3 hk).1,(h.fp_lt3 hk).2.1⟩
theorem qA7.fp_lt {X:Nat→Prop} {w0 w:World} {k:Nat} {ks:List NK} {x:NT ks} {vs:List Value} (h:qA7 X w0 w ks x vs) (hk:k∈vs.filterMap fp1):k<w.heap.size∧Excl X w0 k :=
 ⟨(h.fp_lt3 hk).1,(h.fp_lt3 hk).2.1⟩
theorem HpSat.alloc {X:Nat→Prop} {w0 w:World} {ρ:Nat→Value} {hp:List SB} (h:HpSat X w0 w ρ hp) (hf:Stays X w0 w) (o:Obj) (sb:SB) (v:Value)
  (hfp:fp v=[w.heap.size]) (hsat:∀ρ',(∀i<hp.length,ρ' i=ρ i)→ρ' hp.length=v→sb.sat X w0 (w.alloc o) ρ' v) (hlt:sb.lt (hp.length+1)) (href:qD1 v) :
  ∃ρ',(∀i<hp.length,ρ' i=ρ i)∧ρ' hp.length=v∧HpSat X w0 (w.alloc o) ρ' (hp++[sb]):=by
 have hr:∀i<hp.length,(fun i=>if i=hp.length then v else ρ i) i=ρ i:=fun i hi=>by
  have:¬i=hp.length:=by omega
  simp [this]
 refine ⟨fun i=>if i=hp.length then v else ρ i,hr,by simp,?_⟩;refine h.push sb hr (fun k h1 _=>Same.alloc (Nat.lt_of_lt_of_le h1 hf.size)) (fun k hk=>Same.alloc hk.lt) (fun i sb' k hi hx hk=>Same.alloc (h.fp_lt3 hi hx hk).1) ?_ hlt (by simpa using href) ?_
 ·have:=hsat _ hr (by simp);simpa using this
 ·intro _ b hb i sb' hi hx hk;simp only [if_true] at hb;rw [hfp] at hb;have:=(h.fp_lt3 hi hx hk).1;simp at hb;omega
theorem Stays.alloc {X:Nat→Prop} {w0 w:World} (h:Stays X w0 w) (o:Obj):Stays X w0 (w.alloc o) :=
 h.keep rfl rfl (by simp) fun k h1 _=>Same.alloc (Nat.lt_of_lt_of_le h1 h.size)
theorem qCm {w:World} {g k:Nat} {cs:Array Value} (h:g≠k):Same w (w.setRow g cs) k:=setRow_other w g k cs (Ne.symm h)
theorem Stays.setRow {X:Nat→Prop} {w0 w:World} (h:Stays X w0 w) {g:Nat} (hx:Excl X w0 g) (cs:Array Value):Stays X w0 (w.setRow g cs) :=
 h.keep rfl rfl (by simp) fun k h1 h2=>qCm fun e=>by
  subst e;rcases hx with hx | hx
  ·omega
  ·exact h2 hx
theorem HpSat.setRow {X:Nat→Prop} {w0 w:World} {ρ:Nat→Value} {hp:List SB} (h:HpSat X w0 w ρ hp) {i:Nat} {old:SB} (sb:SB) {g:Nat} {cs:Array Value} (hi:hp[i]?=some old) (hox:old.ex=true)
  (hg:fp (ρ i)=[g]) (hsat:sb.sat X w0 (w.setRow g cs) ρ (ρ i)) (hlt:sb.lt hp.length):HpSat X w0 (w.setRow g cs) ρ (hp.set i sb):=by
 have hgm:g∈fp (ρ i):=by rw [hg]; exact List.mem_singleton.2 rfl
 have hx:=(h.fp_lt3 hi hox hgm).2;refine h.turn i old sb hi (fun _=>hox) (fun k h1 h2=>qCm fun e=>?_) (fun k hk=>qCm fun e=>h.thaw hi hox hgm (e ▸ hk)) (fun j sb' k hj hjs hx' hk=>qCm fun e=>?_) hsat hlt
 ·subst e;rcases hx with hx | hx
  ·omega
  ·exact h2 hx
 ·subst e;exact h.apart j i sb' old g hj hjs hi hx' hox hk hgm
theorem HpSat.kill {X:Nat→Prop} {w0 w:World} {ρ:Nat→Value} {hp:List SB} (h:HpSat X w0 w ρ hp) (i:Nat):HpSat X w0 w ρ (hp.set i .dead):=by
 by_cases hlen:i<hp.length
 ·refine h.turn i (hp[i]) .dead (by simp [hlen]) (fun e=>by cases e) (fun k _ _=>rfl) (fun _ _=>rfl) (fun _ _ k _ _ _ _=>rfl) trivial trivial
 ·rw [List.set_eq_of_length_le (by omega)];exact h
theorem HpSat.more {X:Nat→Prop} {w0 w:World} {ρ:Nat→Value} {hp:List SB} (h:HpSat X w0 w ρ hp) (sb:SB) (v:Value) (href:qD1 v)
  (hsat:∀ρ',(∀i<hp.length,ρ' i=ρ i)→sb.sat X w0 w ρ' v) (hlt:sb.lt (hp.length+1))
  (hnew:sb.ex=true→∀b,b∈fp v→∀(i:Nat) (sb':SB),hp[i]?=some sb'→sb'.ex=true→¬b∈fp (ρ i)) :
  ∃ρ',(∀i<hp.length,ρ' i=ρ i)∧ρ' hp.length=v∧HpSat X w0 w ρ' (hp++[sb]):=by
 have hr:∀i<hp.length,(fun i=>if i=hp.length then v else ρ i) i=ρ i:=fun i hi=>by
  have:¬i=hp.length:=by omega
  simp [this]
 refine ⟨fun i=>if i=hp.length then v else ρ i,hr,by simp,?_⟩;refine h.push sb hr (fun k _ _=>rfl) (fun _ _=>rfl) (fun _ _ k _ _ _=>rfl) ?_ hlt (by simpa using href) ?_
 ·have:=hsat _ hr;simpa using this
 ·simpa using hnew
end Go.Eng
