import Derived.Deep.Quiet
import Derived.IntWalk
import Derived.Laws.Bits64
import Derived.Laws.Strings
import Derived.Laws.CopyRow
import Derived.Laws.Cells
import Derived.MapKept
import Derived.ChangeMaps5
import Derived.Carry
import Derived.Test.YtngikdcgcakaaaaDoorEngS
set_option linter.unusedSimpArgs false
set_option linter.unusedVariables false
namespace Go.Proofs.YtngikdcgcakaaaaDoor
open Go.Eng
inductive Trees (v:List Eng.Node):Nat->Nat->Nat->Prop
 | nil (a:Nat):a<=v.length->Trees v 0 a a
 | cons {k a b e:Nat} (n:Eng.Node):v[a]?=some n->0<=n.kids->Trees v n.kids.toNat (a+1) b->Trees v k b e->Trees v (k+1) a e
def Tree(v:List Eng.Node)(a e:Nat):Prop:=Trees v 1 a e
theorem Trees.le{v:List Eng.Node}{k a e:Nat}(h:Trees v k a e):a+k<=e/\e<=v.length:=by
 induction h with
 | nil a ha=>exact⟨by omega,ha⟩
 | cons n hn h0 h1 h2 i1 i2=>exact⟨by omega,i2.2⟩
theorem Trees.zero{v:List Eng.Node}{a e:Nat}(h:Trees v 0 a e):e=a:=by
 cases h;rfl
theorem Trees.succ{v:List Eng.Node}{k a e:Nat}(h:Trees v (k+1) a e):∃n b,v[a]?=some n/\0<=n.kids/\Trees v n.kids.toNat (a+1) b/\Trees v k b e:=by
 cases h with
 | cons n hn h0 h1 h2=>exact⟨n,_,hn,h0,h1,h2⟩
theorem Trees.det{v:List Eng.Node}{k a e:Nat}(h:Trees v k a e):∀ {e'},Trees v k a e'->e=e':=by
 induction h with
 | nil a ha=>intro e' h';exact h'.zero.symm
 | cons n hn h0 h1 h2 i1 i2 =>
  intro e' h';obtain⟨n',b',hn',_,g1,g2⟩:=h'.succ;rw[hn] at hn';cases hn';have:=i1 g1;subst this;exact i2 g2
theorem Trees.app{v:List Eng.Node}{k a b:Nat}(h:Trees v k a b):∀ {m e},Trees v m b e->Trees v (m+k) a e:=by
 induction h with
 | nil a ha=>intro m e h';exact h'
 | cons n hn h0 h1 h2 i1 i2 =>
  intro m e h';exact Trees.cons n hn h0 h1 (i2 h')
theorem Trees.one{v:List Eng.Node}{k a e:Nat}(h:Trees v (k+1) a e):∃b,Tree v a b/\Trees v k b e:=by
 obtain⟨n,b,h1,h2,h3,h4⟩:=h.succ;exact⟨b,Trees.cons n h1 h2 h3 (Trees.nil b h3.le.2),h4⟩
theorem Tree.node{v:List Eng.Node}{a e:Nat}(h:Tree v a e):∃n,v[a]?=some n/\0<=n.kids/\Trees v n.kids.toNat (a+1) e:=by
 obtain⟨n,b,h1,h2,h3,h4⟩:=Trees.succ h;have:=h4.zero;subst this;exact⟨n,h1,h2,h3⟩
theorem Tree.mk{v:List Eng.Node}{a e:Nat}{n:Eng.Node}(h1:v[a]?=some n)(h2:0<=n.kids)(h3:Trees v n.kids.toNat (a+1) e):Tree v a e:=Trees.cons n h1 h2 h3 (Trees.nil e h3.le.2)
def placesT(v:List Eng.Node):Nat->Nat->List Nat->Nat->Prop
 | 0,a,l,e=>l=[]/\e=a
 | k+1,a,l,e=>∃b r,l=a::r/\Tree v a b/\placesT v k b r e
theorem Trees.places{v:List Eng.Node}:∀ {k a e:Nat},Trees v k a e->∃l,placesT v k a l e
 | 0,a,e,h=>⟨[],rfl,h.zero⟩
 | k+1,a,e,h=>by
  obtain⟨b,h1,h2⟩:=h.one;obtain⟨l,hl⟩:=h2.places;exact⟨a::l,b,l,rfl,h1,hl⟩
theorem placesT.len{v:List Eng.Node}:∀ {k a e:Nat} {l:List Nat},placesT v k a l e->l.length=k
 | 0,a,e,l,h=>by rw[h.1];rfl
 | k+1,a,e,l,h=>by
  obtain⟨b,r,rfl,_,h2⟩:=h;simp[h2.len]
end Go.Proofs.YtngikdcgcakaaaaDoor
namespace Go.Eng
def Cls(E:Env)(Z:Nat->Value)(hp:List SB)(w:World):Prop:=HpSat E.X E.w0 w Z hp/\Stays E.X E.w0 w
def qCv(Z:Nat->Value)(S:St)(a:Act):Prop :=
 ∀i c v,getE S.sl i=some (c,v)->(c->a.tmps[i]?=some (v.den Z))/\(¬c->a.tmps[i]?=some undef)/\(c->v.lt S.hp.length)
def OpOK(E:Env)(Z:Nat->Value)(S:St)(a:Act)(o:Oper):RR->Prop
 | .no=>True
 | .quiet p v=>p->v.lt S.hp.length/\∀w,Cls E Z S.hp w->o.quietAt E.P a (Cls E Z S.hp) w (v.den Z)
 | .still p v=>p->v.lt S.hp.length/\∀w0,Cls E Z S.hp w0->∀w,(execOp a.eval o).run E.P w=.ok (.value (v.den Z)) w
 | .ok p v hp'=>p->v.lt hp'.length/\S.hp.length<=hp'.length/\∀w,Cls E Z S.hp w->∀(K:Act->World->Prop) (Q:Exit->Act->World->Prop),
   (∀Z' w',(∀i<S.hp.length,Z' i=Z i)->Cls E Z' hp' w'->K (a.put o.dst (v.den Z')) w')->o.wp E.P a w K Q
 | .any p k=>p->∀w,Cls E Z S.hp w->∀(K:Act->World->Prop) (Q:Exit->Act->World->Prop),(∀b w',Cls E Z S.hp w'->K (a.put o.dst (.float k b)) w')->o.wp E.P a w K Q
theorem qA0{E:Env}{Z:Nat->Value}{S:St}{a:Act}{o:Oper}{p act:Prop}(hact:act){r:RR}(h:p->OpOK E Z S a o r):OpOK E Z S a o (owe p act r):=by
 cases r with
 | no=>trivial
 | ok q v hp'=>exact λhp=>h hp.1 (hp.2 hact)
 | quiet q v=>exact λhp=>h hp.1 (hp.2 hact)
 | still q v=>exact λhp=>h hp.1 (hp.2 hact)
 | any q k=>exact λhp=>h hp.1 (hp.2 hact)
section
variable {E:Env} {Z:Nat->Value} {S:St} {a:Act} {o:Oper} {act:Prop}
theorem qAc(hs:qCv Z S a)(hact:act){x:Operand}{y:Arg}(hx:arg x=some y){p:Prop}{v:SV}(h:argE S act y=some (p,v))(hp:p) :
  a.eval x=v.den Z/\v.lt S.hp.length:=by
 cases x with
 | tmp t =>
  simp only[arg,snJ] at hx;subst hx;simp only[argE] at h;split at h
  ·rename_i c u hg;simp only[snJ,Prod.mk.injEq] at h;obtain⟨rfl,rfl⟩:=h;obtain⟨h1,_,h3⟩:=hs t c u hg;refine⟨?_,h3 (hp hact)⟩;simp only[Act.eval];have:=h1 (hp hact);simp[Array.getD_eq_getD_getElem?,this]
  ·cases h
 | const c =>
  simp only[arg,snJ] at hx;subst hx;simp only[argE,snJ,Prod.mk.injEq] at h;obtain⟨_,rfl⟩:=h;exact⟨rfl,tV⟩
 | global g =>
  simp only[arg,snJ] at hx;subst hx;simp only[argE,snJ,Prod.mk.injEq] at h;obtain⟨_,rfl⟩:=h;exact⟨rfl,tV⟩
 | func f =>
  simp only[arg,snJ] at hx;subst hx;simp only[argE,snJ,Prod.mk.injEq] at h;obtain⟨_,rfl⟩:=h;exact⟨rfl,tV⟩
theorem qBf{p:Prop}{v:SV}(hlt:p->v.lt S.hp.length)(h:p->∀w,Cls E Z S.hp w->(execOp a.eval o).run E.P w=.ok (.value (v.den Z)) w):OpOK E Z S a o (.quiet p v) :=
 λhp=>⟨hlt hp,λw hw=>by unfold Oper.quietAt;rw[h hp w hw];exact⟨rfl,rfl⟩⟩
theorem qAe{p:Prop}{v:SV}(hlt:p->v.lt S.hp.length)(h:p->∀w0,Cls E Z S.hp w0->∀w,(execOp a.eval o).run E.P w=.ok (.value (v.den Z)) w):OpOK E Z S a o (.still p v) :=
 λhp=>⟨hlt hp,h hp⟩
theorem wrap_fit{raw:Bool}{k:IntKind}{x:Int}{p:Prop}{v:SV}(h:fit raw k x=.still p v)(hp:p):v=.c (.o (.val (.int k (k.wrap x)))):=by
 unfold fit ret1 at h;cases k <;> cases raw <;> simp only[cnT,cnF,RR.still.injEq,reduceCtorEq] at h <;> obtain⟨rfl,rfl⟩:=h
 ·rw[IntWalk.i32_in _ hp]
 ·rfl
 ·rw[IntWalk.i64_in _ hp]
 ·rfl
 all_goals simp[IntKind.wrap,IntKind.bits,IntKind.signed]
theorem fit_quiet{raw:Bool}{k:IntKind}{x:Int}:(∃p v,fit raw k x=.still p v)\/fit raw k x=.no:=by
 unfold fit ret1;cases k <;> cases raw <;> first | exact .inr rfl | exact .inl ⟨_,_,rfl⟩
theorem fit_ok{raw:Bool}{k:IntKind}{x:Int}(h:∀w,(execOp a.eval o).run E.P w=.ok (.value (.int k (k.wrap x))) w):OpOK E Z S a o (fit raw k x):=by
 rcases fit_quiet (raw:=raw) (k:=k) (x:=x) with⟨p,v,hf⟩ | hf
 ·rw[hf];refine qAe (λhp=>?_) (λhp w0 _ w=>?_)
  ·rw[wrap_fit hf hp];trivial
  ·rw[wrap_fit hf hp];exact h w
 ·rw[hf];trivial
theorem run_binInt(w:World)(op:BinOp)(t ty:TypeId)(x y:Operand)(k:IntKind)(m n:Int)(hx:a.eval x=.int k m)(hy:a.eval y=.int k n)(ho:o.op=.binOp op t x y ty)
  (h1:op≠.shl) (h2:op≠.shr) :
  (execOp a.eval o).run E.P w=((match op with
   | .add | .sub | .mul=>Op.intArith op k m n
   | .quo | .rem=>Op.intDiv op k m n
   | .and | .or | .xor | .andNot=>Op.intBits op k m n
   | _=>Op.intCmp op m n).run E.P w).andThen λv w'=>.ok (.value v) w':=by
 unfold execOp;simp only[ho,hx,hy];cases op <;> simp_all [eqGuard,binOp]
theorem qBd{p:Prop}{v:Value}(h:p->∀w,(execOp a.eval o).run E.P w=.ok (.value v) w):OpOK E Z S a o (ret1 p v) :=
 qAe (λ_=>trivial) (λhp w0 _ w=>h hp w)
theorem binInt_ok(raw:Bool)(op:BinOp)(t ty:TypeId)(x y:Operand)(k k':IntKind)(m n:Int)(hx:a.eval x=.int k m)(hy:a.eval y=.int k' n)(ho:o.op=.binOp op t x y ty) :
  OpOK E Z S a o (binR raw op (.int k m) (.int k' n)):=by
 by_cases hs:op=.shl
 ·subst hs;simp only[binR];rcases fit_quiet (raw:=raw) (k:=k) (x:=m*2 ^ (min n.toNat k.bits)) with⟨p,v,hf⟩ | hf
  ·rw[hf];refine qAe (λhp=>?_) (λhp w0 _ w=>?_)
   ·rw[wrap_fit hf hp.2];trivial
   ·rw[wrap_fit hf hp.2];have:¬n<0:=by omega
    unfold execOp;simp[ho,hx,hy,eqGuard,binOp,Op.shift,this,SV.den,SC.den,S0.den]
  ·rw[hf];trivial
 by_cases hs':op=.shr
 ·subst hs';simp only[binR];refine qBd λhp w=>?_
  have:¬n<0:=by omega
  unfold execOp;simp only[ho,hx,hy,eqGuard,binOp,Op.shift,this];have hpos:(0:Int)<=2 ^ min n.toNat k.bits:=Int.pow_nonneg (by omega);simp[Int.fdiv_eq_ediv_of_nonneg _ hpos]
 by_cases hk:k=k'
 ·subst hk;have hr:=λw=>run_binInt (E:=E) w op t ty x y k m n hx hy ho hs hs'
  cases op <;> simp only[binR,decide_true,cnT] <;> first | exact absurd rfl hs | exact absurd rfl hs' | skip
  case add=>exact fit_ok λw=>by rw[hr w];simp[Op.intArith]
  case sub=>exact fit_ok λw=>by rw[hr w];simp[Op.intArith]
  case mul=>exact fit_ok λw=>by rw[hr w];simp[Op.intArith]
  case quo =>
   unfold quot;cases k <;> try trivial
   case i64 =>
    cases raw
    ·exact qBd λhp w=>by
      rw[hr w];have h0:¬n=0:=by omega
      simp[Op.intDiv,h0,IntWalk.i64_quo m n hp]
    ·exact qBd λhp w=>by
      rw[hr w];simp[Op.intDiv,hp.1,IntWalk.i64_in _ hp.2]
   case u8 =>
    exact qBd λhp w=>by
      rw[hr w];have h0:¬n=0:=by omega
      simp[Op.intDiv,h0,IntWalk.u8_quo m n hp]
   case u32 =>
    exact qBd λhp w=>by
      rw[hr w];have h0:¬n=0:=by omega
      simp[Op.intDiv,h0,IntWalk.u32_quo m n hp]
   case u64 =>
    exact qBd λhp w=>by
      rw[hr w];have h0:¬n=0:=by omega
      simp[Op.intDiv,h0,IntWalk.u64_quo m n hp]
  case rem =>
   unfold remd;cases raw
   ·exact qBd λhp w=>by
     rw[hr w];have h0:¬n=0:=by omega
     simp[Op.intDiv,h0,Int.tmod_eq_emod_of_nonneg hp.1]
   ·exact qBd λhp w=>by
     rw[hr w];simp[Op.intDiv,hp]
  case and=>exact qBd λ_ w=>by rw[hr w];simp[Op.intBits,bitAnd]
  case or=>exact qBd λ_ w=>by rw[hr w];simp[Op.intBits,bitOr]
  case xor=>exact qBd λ_ w=>by rw[hr w];simp[Op.intBits,bitXor]
  case andNot=>exact qBd λ_ w=>by rw[hr w];simp[Op.intBits,bitNot]
  case eql=>exact qBd λ_ w=>by rw[hr w];simp[Op.intCmp];rfl
  case neq=>exact qBd λ_ w=>by rw[hr w];simp[Op.intCmp];rfl
  case lss=>exact qBd λ_ w=>by rw[hr w];simp[Op.intCmp]
  case leq=>exact qBd λ_ w=>by rw[hr w];simp[Op.intCmp]
  case gtr=>exact qBd λ_ w=>by rw[hr w];simp[Op.intCmp]
  case geq=>exact qBd λ_ w=>by rw[hr w];simp[Op.intCmp]
 ·cases op <;> simp only[binR,deF hk,cnF] <;> first | trivial | exact absurd rfl hs | exact absurd rfl hs'
theorem str_beq(x y:BA):(x.toList == y.toList)=decide (x=y):=by
 have e:∀z:BA,z.toList=z.data.toList:=λz=>ByteArray.toList_eq z
 rw[Bool.eq_iff_iff];simp only[beq_iff_eq,decide_eq_true_eq,e];constructor
 ·intro h;have:x.data=y.data:=Array.toList_inj.1 h;cases x;cases y;simp_all
 ·rintro rfl;rfl
theorem binStr_ok(raw:Bool)(op:BinOp)(t ty:TypeId)(x y:Operand)(m n:BA)(hx:a.eval x=.string m)(hy:a.eval y=.string n)(ho:o.op=.binOp op t x y ty) :
  OpOK E Z S a o (binR raw op (.string m) (.string n)):=by
 have hr:∀w,(execOp a.eval o).run E.P w=((Op.stringOp op m n).run E.P w).andThen λv w'=>.ok (.value v) w':=λw=>by
  unfold execOp;simp only[ho,hx,hy];cases op <;> simp[eqGuard,binOp]
 cases op <;> simp only[binR] <;> first | trivial | skip
 case add =>
  refine qBd λhp w=>?_
  rw[hr w];have:¬(IntKind.i64.max<((m.size+n.size:Nat):Int)):=by simp only[IntKind.max,IntKind.signed,IntKind.bits];simp;omega
  simp only[Op.stringOp,gt_iff_lt,this];simp
 all_goals
  refine qBd λhp w=>?_
  rw[hr w];simp[Op.stringOp,str_beq,sLt]
theorem bin_ok(raw:Bool)(op:BinOp)(t ty:TypeId)(x y:Operand)(u v:Value)(hx:a.eval x=u)(hy:a.eval y=v)(ho:o.op=.binOp op t x y ty) :
  OpOK E Z S a o (binR raw op u v):=by
 unfold binR;split
 ·exact binInt_ok raw op t ty x y _ _ _ _ hx hy ho
 ·exact binStr_ok raw op t ty x y _ _ hx hy ho
 ·trivial
theorem mm_ok(mx:Bool){c:Call}{x y:Operand}(u v:Value)(hc:c.callee=.builtin (bif mx then .max else .min))(ha:c.args = #[x,y])(hx:a.eval x=u)(hy:a.eval y=v)(ho:o.op=.call c):OpOK E Z S a o (mmR mx u v):=by
 unfold mmR;split
 ·rename_i k m k' n;refine qBd λ_ w=>?_
  unfold execOp;simp only[ho,resolve,hc];cases mx <;> simp[invoke,builtin,ha,hx,hy,Builtin.min_,Builtin.max_,Builtin.min2,Builtin.max2]
 ·trivial
theorem run_equal_bool{P:Program}(w:World){t:TypeId}(m n:Bool)(h:P.underlying t=some .bool):(Op.equal t (.bool m) (.bool n)).run P w=.ok (m == n) w:=by
 have:∀d,(Op.equalIn (d+1) t (.bool m) (.bool n)).run P w=.ok (m == n) w:=λd=>by simp[Op.equalIn,run_underlying h]
 exact this 9999
theorem beq_ok(neg:Bool)(t ty:TypeId)(x y:Operand)(u v:Value)(hu:E.P.underlying t=some .bool)(hx:a.eval x=u)(hy:a.eval y=v)(ho:o.op=.binOp (bif neg then .neq else .eql) t x y ty) :
  OpOK E Z S a o (beqR neg u v):=by
 unfold beqR;split
 ·rename_i m n;refine qBd λ_ w=>?_
  unfold execOp;simp only[ho,hx,hy];cases neg <;> simp[eqGuard,binOp,run_equal_bool w m n hu]
 ·trivial
theorem un_ok(op:UnOp)(t:TypeId)(x:Operand)(u:Value)(hx:a.eval x=u)(ho:o.op=.unOp op t x):OpOK E Z S a o (unR op u):=by
 unfold unR;split
 ·cases op <;> first | trivial | skip
  ·refine fit_ok λw=>?_
   unfold execOp;simp[ho,hx,Op.unary,Op.intArith]
  ·refine qBd λ_ w=>?_
   unfold execOp;simp[ho,hx,Op.unary,Op.intBits,bitXor]
 ·cases op <;> first | trivial | skip
  refine qBd λ_ w=>?_
  unfold execOp;simp[ho,hx,Op.unary]
 ·trivial
end
def Same(w w':World)(k:Nat):Prop:=w'.heap[k]?=w.heap[k]?
theorem Same.cell{w w':World}{a:Addr}(h:Same w w' a.block):w'.cell? a=w.cell? a:=World.cell?_of_block h
theorem fp1_own{v:Value}{k:Nat}(h:v.ownBlock=some k):fp1 v=some k:=by
 cases v <;> simp only[Value.ownBlock,reduceCtorEq] at h
 rename_i a _ _;cases a <;> simp_all [Value.ownBlock,fp1]
theorem fp_own{v:Value}{k:Nat}(h:v.ownBlock=some k):k∈fp v:=by
 cases v <;> simp only[Value.ownBlock,reduceCtorEq] at h
 rename_i a _ _;cases a <;> simp_all [Value.ownBlock,fp,fp1]
theorem qEr.keep{X:Nat->Prop}{w0 w w':World}{v:Value}:∀ {m:MapC},qEr X w0 w v m->(∀k,fp1 v=some k->Same w w' k)->qEr X w0 w' v m
 | none,h,_=>h
 | some m,⟨b,es,c,hv,hb,he,hx⟩,hk=>⟨b,es,c,hv,(hk b (by rw[hv];rfl)).trans hb,he,hx⟩
theorem qCj{w w':World}{e size n:Nat}{v:Value}{xs:List Value}(h:w.ownsRow 0 e size v n xs)(hk:∀k,v.ownBlock=some k->Same w w' k):w'.ownsRow 0 e size v n xs:=by
 refine⟨h.1,?_⟩;rcases h.2 with hn | ⟨g,cap,cur,rfl,hb,hg,rest⟩
 ·exact .inl hn
 ·exact .inr ⟨g,cap,cur,rfl,hb,(hk g rfl).trans hg,rest⟩
theorem RowAt.keep{X:Nat->Prop}{w0 w w':World}{q:QK}{v:Value}{l:List q.T}(h:RowAt X w0 w q v l)(hk:∀k,fp1 v=some k->Same w w' k):RowAt X w0 w' q v l:=by
 obtain⟨⟨e,h1⟩,h2⟩:=h;exact⟨⟨e,qCj h1 λk hv=>hk k (fp1_own hv)⟩,h2⟩
theorem qAt.keep{X:Nat->Prop}{w0 w w':World}:∀ {ks:List NK} {x:NT ks} {vs:List Value},qAt X w0 w ks x vs->(∀k∈vs.filterMap fp1,Same w w' k)->qAt X w0 w' ks x vs
 | [],_,_,h,_=>h
 | .int _::r,x,_,h,hk=>qAt.keep (ks:=r) (x:=x.2) h hk
 | .bool::r,x,_,h,hk=>qAt.keep (ks:=r) (x:=x.2) h hk
 | .str::r,x,_,h,hk=>qAt.keep (ks:=r) (x:=x.2) h hk
 | .map::r,x,_,⟨v,vs',rfl,h1,h2⟩,hk=>by
  refine⟨v,vs',rfl,h1.keep λk hf=>hk k ?_,qAt.keep (ks:=r) (x:=x.2) h2 λk hf=>hk k ?_⟩
  ·simp only[List.filterMap_cons,hf,List.mem_cons,true_or]
  ·simp only[List.filterMap_cons];split
   ·exact hf
   ·exact List.mem_cons.2 (.inr hf)
 | .rw _::r,x,_,⟨v,vs',rfl,h1,h2⟩,hk=>by
  refine⟨v,vs',rfl,h1.keep λk hf=>hk k ?_,qAt.keep (ks:=r) (x:=x.2) h2 λk hf=>hk k ?_⟩
  ·simp only[List.filterMap_cons,hf,List.mem_cons,true_or]
  ·simp only[List.filterMap_cons];split
   ·exact hf
   ·exact List.mem_cons.2 (.inr hf)
theorem qAr.keep{X:Nat->Prop}{w0 w w':World}{ks:List NK}:∀ {l:List (NT ks)} {rs:List (List Value)},qAr X w0 w ks l rs->(∀k∈rs.flatMap (λr=>r.filterMap fp1),Same w w' k)->qAr X w0 w' ks l rs
 | [],[],h,_=>trivial
 | x::l,r::rs,h,hk=>⟨h.1.keep λk hf=>hk k (by simp only[List.flatMap_cons,List.mem_append];exact .inl hf),qAr.keep h.2 λk hf=>hk k (by simp only[List.flatMap_cons,List.mem_append];exact .inr hf)⟩
 | [],_::_,h,_=>h.elim
 | _::_,[],h,_=>h.elim
theorem fpI_own{v:Value}{k:Nat}(h:v.ownBlock=some k):k∈fpI v:=by
 cases v <;> simp only[Value.ownBlock,reduceCtorEq] at h
 rename_i a _ _;cases a <;> simp_all [Value.ownBlock,fpI,fp1]
theorem BagOK.keep{X:Nat->Prop}{w0 w w':World}{ks:List NK}{e:Nat}{l:List (NT ks)}{u:Value}{rs:List (List Value)}(h:BagOK X w0 w ks e l u rs)(hk:∀k∈fp (bagV u rs),Same w w' k)
  (hs:∀ {n:Nat} {v:Value} {xs:List Value},w.ownsRow 0 e ks.length v n xs->(∀k,v.ownBlock=some k->Same w w' k)->w'.ownsRow 0 e ks.length v n xs):BagOK X w0 w' ks e l u rs:=by
 rw[fp_bag] at hk;exact⟨hs h.row λk hf=>hk k (List.mem_append.2 (.inl (fpI_own hf))),h.excl,h.refs.keep λk hf=>hk k (List.mem_append.2 (.inr hf)),h.uniq,h.alone,h.pos⟩
theorem SB.sat_keep{X:Nat->Prop}{w0 w w':World}{Z:Nat->Value}{v:Value}{sb:SB}(h:sb.sat X w0 w Z v)
  (hv:∀k,k<w0.heap.size->¬X k->Same w w' k) (hz:∀k,Froz w k->Same w w' k) (hl:sb.ex=true->∀k,k∈fp v->Same w w' k):sb.sat X w0 w' Z v:=by
 cases sb with
 | cells e l =>
  obtain⟨b,rfl,hb,hx⟩:=h;exact⟨b,rfl,(hl rfl b (List.mem_singleton.2 rfl)).trans hb,hx⟩
 | row t e l =>
  obtain⟨h1,h2⟩:=h;exact⟨qCj h1 λk hk=>hl rfl k (fp_own hk),h2⟩
 | view t l =>
  obtain⟨a,cap,rfl,hcap,h1⟩:=h;refine⟨a,cap,rfl,hcap,λj u hu=>?_⟩;obtain⟨ad,had,h2,h3⟩:=h1 j u hu;have hs:Same w w' ad.block:=by
   rcases h3 with⟨h3,h4⟩ | h3
   ·exact hv _ h3 h4
   ·exact hz _ h3
  refine⟨ad,had,?_,h3.imp id λ⟨C,e,k,hb⟩=>⟨C,e,k,hs.trans hb⟩⟩;rw[Same.cell (w:=w) (a:=ad.add j)]
  ·exact h2
  ·have:(ad.add j).block=ad.block:=by unfold Addr.add;split <;> rfl
   rw[this];exact hs
 | part k lo n sz=>exact h
 | slc k n sz=>exact h
 | clo f k l=>exact h
 | map m=>exact qEr.keep h λk hk=>hl rfl k (by
   cases v <;> simp only[fp1,reduceCtorEq] at hk <;> simp_all [fp,fp1])
 | bag ks e l =>
  obtain⟨u,rs,rfl,h1⟩:=h;exact⟨u,rs,rfl,h1.keep (hl rfl) qCj⟩
 | vrow t l =>
  rcases h with h | ⟨b,cap,rfl,hc,h1,h2,h3,h4⟩
  ·exact .inl h
  have hs:Same w w' b:=hl rfl b (List.mem_singleton.2 rfl);refine .inr ⟨b,cap,rfl,hc,λj u hu=>(Same.cell (a:=⟨b,j,none⟩) hs).trans (h1 j u hu),?_,h3,λ⟨C,e,k,hb⟩=>h4 ⟨C,e,k,hs.symm.trans hb⟩⟩;have h5:w'.heap[b]?=some w.heap[b]:=hs.trans (Array.getElem?_eq_getElem h2);exact(Array.getElem?_eq_some_iff.1 h5).1
 | srow e sz n l =>
  obtain⟨h1,h2,h3,h4⟩:=h;exact⟨h1,h2,qCj h3 λk hk=>hl rfl k (fp_own hk),h4⟩
 | gro t e l n g =>
  obtain⟨u,rfl,h1,h2,h3,h4⟩:=h;have hf:∀k,k∈fpI u\/fp1 (Z g)=some k->Same w w' k:=λk hk=>hl rfl k (by
   rw[fp_bag,List.mem_append];exact hk.imp id λhk=>by simp[hk])
  refine⟨u,rfl,qCj h1 λk hk=>hf k (.inl (fpI_own hk)),h2,h3,?_⟩;rcases h4 with h | ⟨b,cap,hv,hc,h1,h2,h3,h4⟩
  ·exact .inl h
  have hs:Same w w' b:=hf b (.inr (by rw[hv];rfl));refine .inr ⟨b,cap,hv,hc,λj u hu=>(Same.cell (a:=⟨b,j,none⟩) hs).trans (h1 j u hu),?_,h3,λ⟨C,e,k,hb⟩=>h4 ⟨C,e,k,hs.symm.trans hb⟩⟩;have h5:w'.heap[b]?=some w.heap[b]:=hs.trans (Array.getElem?_eq_getElem h2);exact(Array.getElem?_eq_some_iff.1 h5).1
 | dead=>trivial
theorem SB.sat_ren{X:Nat->Prop}{w0 w:World}{Z Z':Nat->Value}{v:Value}{sb:SB}{n:Nat}(h:sb.sat X w0 w Z v)(hlt:sb.lt n)(hr:∀i<n,Z' i=Z i):sb.sat X w0 w Z' v:=by
 cases sb with
 | cells e l =>
  obtain⟨b,hv,hb,hx⟩:=h;refine⟨b,hv,?_,hx⟩;rw[hb,show l.map (S0.den Z')=l.map (S0.den Z) from List.map_congr_left λy hy=>S0.den_congr hr (hlt y hy)]
 | row t e l=>exact h
 | view t l=>exact h
 | part k lo n sz=>exact(show qB5 (Z' k) v lo n sz from by rw[hr k hlt];exact h)
 | slc k n sz=>exact(show ∃b,Z' k=_/\_ from by rw[hr k hlt];exact h)
 | clo f k l =>
  have h:v=_:=h;show v=_;rw[h,show(l.take k).map (S0.den Z')=(l.take k).map (S0.den Z) from List.map_congr_left λy hy=>S0.den_congr hr (hlt y (List.mem_of_mem_take hy)),show(l.drop k).map (S0.den Z')=(l.drop k).map (S0.den Z) from List.map_congr_left λy hy=>S0.den_congr hr (hlt y (List.mem_of_mem_drop hy))]
 | map m=>exact h
 | bag ks e l=>exact h
 | vrow t l=>exact h
 | srow e sz n l =>
  obtain⟨h1,h2,h3,h4⟩:=h;exact⟨h1,h2,by rw[show l.map (S0.den Z')=l.map (S0.den Z) from List.map_congr_left λy hy=>S0.den_congr hr (hlt y hy)];exact h3,h4⟩
 | gro t e l n g=>exact(show ∃u,v=bagV u [[Z' g]]/\_/\_/\_/\VrowAt X w0 w t (Z' g) _ from by rw[hr g hlt];exact h)
 | dead=>trivial
theorem Stays.keep{X:Nat->Prop}{w0 w w':World}(h:Stays X w0 w)(ho:w'.os=w.os)(hu:w'.output=w.output)(hs:w.heap.size<=w'.heap.size)
  (hk:∀k,k<w0.heap.size->¬X k->Same w w' k):Stays X w0 w' :=
 ⟨ho.trans h.os,hu.trans h.output,Nat.le_trans h.size hs,λk h1 h2=>(hk k h1 h2).trans (h.block k h1 h2)⟩
theorem HpSat.push{X:Nat->Prop}{w0 w w':World}{Z Z':Nat->Value}{hp:List SB}(h:HpSat X w0 w Z hp)(sb:SB)
  (hr:∀i<hp.length,Z' i=Z i)
  (hv:∀k,k<w0.heap.size->¬X k->Same w w' k) (hz:∀k,Froz w k->Same w w' k)
  (hl:∀(i:Nat) (sb:SB) (k:Nat),hp[i]?=some sb->sb.ex=true->k∈fp (Z i)->Same w w' k)
  (hsat:sb.sat X w0 w' Z' (Z' hp.length)) (hlt:sb.lt (hp.length+1))
  (href:qBs (Z' hp.length))
  (hnew:sb.ex=true->∀b,b∈fp (Z' hp.length)->∀(i:Nat) (sb':SB),hp[i]?=some sb'->sb'.ex=true->¬b∈fp (Z i)) :
  HpSat X w0 w' Z' (hp++[sb]):=by
 have key:∀(i:Nat) (sb':SB),(hp++[sb])[i]?=some sb'->(i<hp.length/\hp[i]?=some sb')\/(i=hp.length/\sb'=sb):=by
  intro i sb' hi;by_cases hlt:i<hp.length
  ·rw[List.getElem?_append_left hlt] at hi;exact .inl ⟨hlt,hi⟩
  ·rw[List.getElem?_append_right (by omega)] at hi;by_cases h0:i - hp.length=0
   ·rw[h0] at hi;simp at hi;exact .inr ⟨by omega,hi.symm⟩
   ·rw[List.getElem?_eq_none (by simp;omega)] at hi;cases hi
 refine⟨λi hi=>?_,λi sb' hi=>?_,λi sb' hi=>?_,?_,h.tab⟩
 ·simp at hi;by_cases h0:i=hp.length
  ·subst h0;exact href
  ·rw[hr i (by omega)];exact h.ref i (by omega)
 ·rcases key i sb' hi with⟨h1,h2⟩ | ⟨rfl,rfl⟩
  ·rw[hr i h1];exact SB.sat_ren (SB.sat_keep (h.sat i sb' h2) hv hz λhx k hk=>hl i sb' k h2 hx hk) (h.lt i sb' h2) hr
  ·exact hsat
 ·rcases key i sb' hi with⟨h1,h2⟩ | ⟨rfl,rfl⟩
  ·exact SB.lt_mono (by simp) (h.lt i sb' h2)
  ·simpa using hlt
 ·intro i j sb1 sb2 b hij hi hj e1 e2 f1 f2;rcases key i sb1 hi with⟨h1,h2⟩ | ⟨rfl,rfl⟩ <;> rcases key j sb2 hj with⟨h3,h4⟩ | ⟨rfl,rfl⟩
  ·rw[hr i h1] at f1;rw[hr j h3] at f2;exact h.apart i j sb1 sb2 b hij h2 h4 e1 e2 f1 f2
  ·rw[hr i h1] at f1;exact hnew e2 b f2 i sb1 h2 e1 f1
  ·rw[hr j h3] at f2;exact hnew e1 b f1 j sb2 h4 e2 f2
  ·exact hij rfl
theorem HpSat.turn{X:Nat->Prop}{w0 w w':World}{Z:Nat->Value}{hp:List SB}(h:HpSat X w0 w Z hp)(i:Nat)(old sb:SB)(hi:hp[i]?=some old)(hox:sb.ex=true->old.ex=true)
  (hv:∀k,k<w0.heap.size->¬X k->Same w w' k) (hz:∀k,Froz w k->Same w w' k)
  (hl:∀(j:Nat) (sb:SB) (k:Nat),j≠i->hp[j]?=some sb->sb.ex=true->k∈fp (Z j)->Same w w' k)
  (hsat:sb.sat X w0 w' Z (Z i)) (hlt:sb.lt hp.length):HpSat X w0 w' Z (hp.set i sb):=by
 have hlen:i<hp.length:=by
  rcases Nat.lt_or_ge i hp.length with h' | h'
  ·exact h'
  ·rw[List.getElem?_eq_none h'] at hi;cases hi
 have key:∀(j:Nat) (sb':SB),(hp.set i sb)[j]?=some sb'->(j≠i/\hp[j]?=some sb')\/(j=i/\sb'=sb):=by
  intro j sb' hj;by_cases hji:j=i
  ·subst hji;rw[List.getElem?_set_self hlen] at hj;exact .inr ⟨rfl,by simpa using hj.symm⟩
  ·rw[List.getElem?_set_ne (Ne.symm hji)] at hj;exact .inl ⟨hji,hj⟩
 refine⟨λj hj=>h.ref j (by simpa using hj),λj sb' hj=>?_,λj sb' hj=>?_,?_,h.tab⟩
 ·rcases key j sb' hj with⟨h1,h2⟩ | ⟨rfl,rfl⟩
  ·exact SB.sat_keep (h.sat j sb' h2) hv hz λhx k hk=>hl j sb' k h1 h2 hx hk
  ·exact hsat
 ·rw[List.length_set];rcases key j sb' hj with⟨h1,h2⟩ | ⟨rfl,rfl⟩
  ·exact h.lt j sb' h2
  ·exact hlt
 ·intro j k sb1 sb2 b hjk hj hk e1 e2 f1 f2;rcases key j sb1 hj with⟨h1,h2⟩ | ⟨rfl,rfl⟩ <;> rcases key k sb2 hk with⟨h3,h4⟩ | ⟨rfl,rfl⟩
  ·exact h.apart j k sb1 sb2 b hjk h2 h4 e1 e2 f1 f2
  ·exact h.apart j k sb1 old b hjk h2 hi e1 (hox e2) f1 f2
  ·exact h.apart j k old sb2 b hjk hi h4 (hox e1) e2 f1 f2
  ·exact hjk rfl
theorem Same.alloc{w:World}{o:Obj}{k:Nat}(h:k<w.heap.size):Same w (w.alloc o) k:=by
 show(w.heap.push o)[k]?=w.heap[k]?;rw[Array.getElem?_push,if_neg (by omega)]
theorem Froz.lt{w:World}{k:Nat}(h:Froz w k):k<w.heap.size:=by
 obtain⟨C,e,i,h⟩:=h;exact(Array.getElem?_eq_some_iff.1 h).1
theorem Froz.no{w:World}{k:Nat}{o:Obj}(h:w.heap[k]?=some o)(ho:∀C e i,o≠.cells C e (i,i+1)):¬Froz w k:=λ⟨C,e,i,h'⟩=>by
 rw[h] at h';exact ho C e i (Option.some.inj h')
theorem qDi{w:World}{e size n:Nat}{v:Value}{xs:List Value}(h:w.ownsRow 0 e size v n xs){b:Nat}(hb:v.ownBlock=some b):¬Froz w b:=by
 rcases h.2 with⟨rfl,_⟩ | ⟨g,cap,cur,rfl,_,hg,_⟩
 ·cases hb
 ·cases hb;exact Froz.no hg (by intros;simp)
theorem qEr.fp_lt3{X:Nat->Prop}{w0 w:World}{v:Value}{k:Nat}:∀ {m:MapC},qEr X w0 w v m->fp1 v=some k->k<w.heap.size/\Excl X w0 k/\¬Froz w k
 | none,h,hk=>by rw[h] at hk;cases hk
 | some m,⟨b,es,c,hv,hb,_,hx⟩,hk=>by
  rw[hv] at hk;cases hk;exact⟨(Array.getElem?_eq_some_iff.1 hb).1,hx,Froz.no hb (by intros;simp)⟩
theorem RowAt.fp_lt3{X:Nat->Prop}{w0 w:World}{q:QK}{v:Value}{l:List q.T}{k:Nat}(h:RowAt X w0 w q v l)(hk:fp1 v=some k):k<w.heap.size/\Excl X w0 k/\¬Froz w k:=by
 obtain⟨⟨e,h1⟩,h2⟩:=h;rcases h1.2 with⟨hv,_⟩ | ⟨g,cap,cur,hv,_,hg,_⟩
 ·rw[hv] at hk;cases hk
 ·rw[hv] at hk;cases hk;exact⟨(Array.getElem?_eq_some_iff.1 hg).1,h2 _ (by rw[hv];rfl),Froz.no hg (by intros;simp)⟩
theorem qAt.fp_lt3{X:Nat->Prop}{w0 w:World}{k:Nat}:∀ {ks:List NK} {x:NT ks} {vs:List Value},qAt X w0 w ks x vs->k∈vs.filterMap fp1->k<w.heap.size/\Excl X w0 k/\¬Froz w k
 | [],_,_,h,hk=>by
  simp only[qAt] at h;subst h;simp at hk
 | .int _::r,x,_,h,hk=>qAt.fp_lt3 (ks:=r) (x:=x.2) h hk
 | .bool::r,x,_,h,hk=>qAt.fp_lt3 (ks:=r) (x:=x.2) h hk
 | .str::r,x,_,h,hk=>qAt.fp_lt3 (ks:=r) (x:=x.2) h hk
 | .map::r,x,_,⟨v,vs',rfl,h1,h2⟩,hk=>by
  simp only[List.filterMap_cons] at hk;split at hk
  ·exact qAt.fp_lt3 (ks:=r) (x:=x.2) h2 hk
  ·rename_i b hb;rcases List.mem_cons.1 hk with rfl | hk
   ·exact h1.fp_lt3 hb
   ·exact qAt.fp_lt3 (ks:=r) (x:=x.2) h2 hk
 | .rw _::r,x,_,⟨v,vs',rfl,h1,h2⟩,hk=>by
  simp only[List.filterMap_cons] at hk;split at hk
  ·exact qAt.fp_lt3 (ks:=r) (x:=x.2) h2 hk
  ·rename_i b hb;rcases List.mem_cons.1 hk with rfl | hk
   ·exact h1.fp_lt3 hb
   ·exact qAt.fp_lt3 (ks:=r) (x:=x.2) h2 hk
theorem qAr.fp_lt3{X:Nat->Prop}{w0 w:World}{k:Nat}{ks:List NK}:∀ {l:List (NT ks)} {rs:List (List Value)},qAr X w0 w ks l rs->k∈rs.flatMap (λr=>r.filterMap fp1)->k<w.heap.size/\Excl X w0 k/\¬Froz w k
 | [],[],h,hk=>by simp at hk
 | x::l,r::rs,h,hk=>by
  simp only[List.flatMap_cons,List.mem_append] at hk;rcases hk with hk | hk
  ·exact h.1.fp_lt3 hk
  ·exact qAr.fp_lt3 h.2 hk
 | [],_::_,h,_=>h.elim
 | _::_,[],h,_=>h.elim
theorem BagOK.fp_lt3{X:Nat->Prop}{w0 w:World}{ks:List NK}{e:Nat}{l:List (NT ks)}{u:Value}{rs:List (List Value)}{k:Nat}(h:BagOK X w0 w ks e l u rs)(hk:k∈fp (bagV u rs)):k<w.heap.size/\Excl X w0 k/\¬Froz w k:=by
 rw[fp_bag,List.mem_append] at hk;rcases hk with hk | hk
 ·rcases h.row.2 with⟨hv,_⟩ | ⟨g,cap,cur,hv,_,hg,_⟩
  ·rw[hv] at hk;simp[fpI,fp1] at hk
  ·have:=h.excl g (by rw[hv];rfl);rw[hv] at hk;simp only[fpI,fp1,Option.toList_some,List.mem_singleton] at hk;subst hk;exact⟨(Array.getElem?_eq_some_iff.1 hg).1,this,Froz.no hg (by intros;simp)⟩
 ·exact h.refs.fp_lt3 hk
theorem HpSat.fp_lt3{X:Nat->Prop}{w0 w:World}{Z:Nat->Value}{hp:List SB}(h:HpSat X w0 w Z hp){i:Nat}{sb:SB}{k:Nat}(hi:hp[i]?=some sb)(hx:sb.ex=true)(hk:k∈fp (Z i)):k<w.heap.size/\Excl X w0 k/\¬Froz w k:=by
 have hs:=h.sat i sb hi;cases sb with
 | cells e l =>
  obtain⟨b,hv,hb,hx⟩:=hs;rw[hv] at hk;simp only[fp,fp1,Option.toList_some,List.mem_singleton] at hk;subst hk;exact⟨(Array.getElem?_eq_some_iff.1 hb).1,hx,Froz.no hb (by intros;simp)⟩
 | row t e l =>
  obtain⟨h1,h2⟩:=hs;rcases h1.2 with⟨hv,_⟩ | ⟨g,cap,cur,hv,_,hg,_⟩
  ·rw[hv] at hk;simp[fp,fp1] at hk
  ·rw[hv] at hk;simp only[fp,fp1,Option.toList_some,List.mem_singleton] at hk;subst hk;exact⟨(Array.getElem?_eq_some_iff.1 hg).1,h2 _ (by rw[hv];rfl),Froz.no hg (by intros;simp)⟩
 | map m =>
  cases m with
  | none =>
   have hv:Z i=.map none:=hs;rw[hv] at hk;simp[fp,fp1] at hk
  | some m =>
   obtain⟨b,es,c,hv,hb,_,hx⟩:=hs;rw[hv] at hk;simp only[fp,fp1,Option.toList_some,List.mem_singleton] at hk;subst hk;exact⟨(Array.getElem?_eq_some_iff.1 hb).1,hx,Froz.no hb (by intros;simp)⟩
 | bag ks e l =>
  obtain⟨u,rs,hv,h1⟩:=hs;rw[hv] at hk;exact h1.fp_lt3 hk
 | view t l=>cases hx
 | part k lo n sz=>cases hx
 | slc k n sz=>cases hx
 | clo f k l=>cases hx
 | vrow t l =>
  rcases hs with⟨cap,hv,_⟩ | ⟨b,cap,hv,_,_,h2,h3,h4⟩
  ·rw[hv] at hk;simp[fp,fp1] at hk
  rw[hv] at hk;simp only[fp,fp1,Option.toList_some,List.mem_singleton] at hk;subst hk;exact⟨h2,h3,h4⟩
 | srow e sz n l =>
  obtain⟨_,_,h1,h2⟩:=hs;rcases h1.2 with⟨hv,_⟩ | ⟨g,cap,cur,hv,_,hg,_⟩
  ·rw[hv] at hk;simp[fp,fp1] at hk
  ·rw[hv] at hk;simp only[fp,fp1,Option.toList_some,List.mem_singleton] at hk;subst hk;exact⟨(Array.getElem?_eq_some_iff.1 hg).1,h2 _ (by rw[hv];rfl),Froz.no hg (by intros;simp)⟩
 | gro t e l n g =>
  obtain⟨u,hv,h1,h2,_,h4⟩:=hs;rw[hv,fp_bag,List.mem_append] at hk;rcases hk with hk | hk
  ·rcases h1.2 with⟨hv,_⟩ | ⟨g,cap,cur,hv,_,hg,_⟩
   ·rw[hv] at hk;simp[fpI,fp1] at hk
   ·rw[hv] at hk;simp only[fpI,fp1,Option.toList_some,List.mem_singleton] at hk;subst hk;exact⟨(Array.getElem?_eq_some_iff.1 hg).1,h2 _ (by rw[hv];rfl),Froz.no hg (by intros;simp)⟩
  ·rcases h4 with⟨cap,hv,_⟩ | ⟨b,cap,hv,_,_,h5,h6,h7⟩
   ·rw[hv] at hk;simp[fp1] at hk
   rw[hv] at hk;have hk:k=b:=by simpa[fp1] using hk
   subst hk;exact⟨h5,h6,h7⟩
 | dead=>cases hx
theorem HpSat.fp_lt{X:Nat->Prop}{w0 w:World}{Z:Nat->Value}{hp:List SB}(h:HpSat X w0 w Z hp){i:Nat}{sb:SB}{k:Nat}(hi:hp[i]?=some sb)(hx:sb.ex=true)(hk:k∈fp (Z i)):k<w.heap.size/\Excl X w0 k :=
 ⟨(h.fp_lt3 hi hx hk).1,(h.fp_lt3 hi hx hk).2.1⟩
theorem HpSat.thaw{X:Nat->Prop}{w0 w:World}{Z:Nat->Value}{hp:List SB}(h:HpSat X w0 w Z hp){i:Nat}{sb:SB}{k:Nat}(hi:hp[i]?=some sb)(hx:sb.ex=true)(hk:k∈fp (Z i)):¬Froz w k:=(h.fp_lt3 hi hx hk).2.2
theorem qAr.fp_lt{X:Nat->Prop}{w0 w:World}{k:Nat}{ks:List NK}{l:List (NT ks)}{rs:List (List Value)}(h:qAr X w0 w ks l rs)(hk:k∈rs.flatMap (λr=>r.filterMap fp1)):k<w.heap.size/\Excl X w0 k :=
 ⟨(h.fp_lt3 hk).1,(h.fp_lt3 hk).2.1⟩
theorem qAt.fp_lt{X:Nat->Prop}{w0 w:World}{k:Nat}{ks:List NK}{x:NT ks}{vs:List Value}(h:qAt X w0 w ks x vs)(hk:k∈vs.filterMap fp1):k<w.heap.size/\Excl X w0 k :=
 ⟨(h.fp_lt3 hk).1,(h.fp_lt3 hk).2.1⟩
theorem HpSat.alloc{X:Nat->Prop}{w0 w:World}{Z:Nat->Value}{hp:List SB}(h:HpSat X w0 w Z hp)(hf:Stays X w0 w)(o:Obj)(sb:SB)(v:Value)
  (hfp:fp v=[w.heap.size]) (hsat:∀Z',(∀i<hp.length,Z' i=Z i)->Z' hp.length=v->sb.sat X w0 (w.alloc o) Z' v) (hlt:sb.lt (hp.length+1)) (href:qBs v) :
  ∃Z',(∀i<hp.length,Z' i=Z i)/\Z' hp.length=v/\HpSat X w0 (w.alloc o) Z' (hp++[sb]):=by
 have hr:∀i<hp.length,(λi=>if i=hp.length then v else Z i) i=Z i:=λi hi=>by
  have:¬i=hp.length:=by omega
  simp[this]
 refine⟨λi=>if i=hp.length then v else Z i,hr,by simp,?_⟩;refine h.push sb hr (λk h1 _=>Same.alloc (Nat.lt_of_lt_of_le h1 hf.size)) (λk hk=>Same.alloc hk.lt) (λi sb' k hi hx hk=>Same.alloc (h.fp_lt3 hi hx hk).1) ?_ hlt (by simpa using href) ?_
 ·have:=hsat _ hr (by simp);simpa using this
 ·intro _ b hb i sb' hi hx hk;simp only[if_true] at hb;rw[hfp] at hb;have:=(h.fp_lt3 hi hx hk).1;simp at hb;omega
theorem Stays.alloc{X:Nat->Prop}{w0 w:World}(h:Stays X w0 w)(o:Obj):Stays X w0 (w.alloc o) :=
 h.keep rfl rfl (by simp) λk h1 _=>Same.alloc (Nat.lt_of_lt_of_le h1 h.size)
theorem qBq{w:World}{g k:Nat}{cs:Array Value}(h:g≠k):Same w (w.setRow g cs) k:=setRow_other w g k cs (Ne.symm h)
theorem Stays.setRow{X:Nat->Prop}{w0 w:World}(h:Stays X w0 w){g:Nat}(hx:Excl X w0 g)(cs:Array Value):Stays X w0 (w.setRow g cs) :=
 h.keep rfl rfl (by simp) λk h1 h2=>qBq λe=>by
  subst e;rcases hx with hx | hx
  ·omega
  ·exact h2 hx
theorem HpSat.setRow{X:Nat->Prop}{w0 w:World}{Z:Nat->Value}{hp:List SB}(h:HpSat X w0 w Z hp){i:Nat}{old:SB}(sb:SB){g:Nat}{cs:Array Value}(hi:hp[i]?=some old)(hox:old.ex=true)
  (hg:fp (Z i)=[g]) (hsat:sb.sat X w0 (w.setRow g cs) Z (Z i)) (hlt:sb.lt hp.length):HpSat X w0 (w.setRow g cs) Z (hp.set i sb):=by
 have hgm:g∈fp (Z i):=by rw[hg];exact List.mem_singleton.2 rfl
 have hx:=(h.fp_lt3 hi hox hgm).2;refine h.turn i old sb hi (λ_=>hox) (λk h1 h2=>qBq λe=>?_) (λk hk=>qBq λe=>h.thaw hi hox hgm (e ▸ hk)) (λj sb' k hj hjs hx' hk=>qBq λe=>?_) hsat hlt
 ·subst e;rcases hx with hx | hx
  ·omega
  ·exact h2 hx
 ·subst e;exact h.apart j i sb' old g hj hjs hi hx' hox hk hgm
theorem HpSat.kill{X:Nat->Prop}{w0 w:World}{Z:Nat->Value}{hp:List SB}(h:HpSat X w0 w Z hp)(i:Nat):HpSat X w0 w Z (hp.set i .dead):=by
 by_cases hlen:i<hp.length
 ·refine h.turn i (hp[i]) .dead (by simp[hlen]) (λe=>by cases e) (λk _ _=>rfl) (λ_ _=>rfl) (λ_ _ k _ _ _ _=>rfl) trivial trivial
 ·rw[List.set_eq_of_length_le (by omega)];exact h
theorem HpSat.more{X:Nat->Prop}{w0 w:World}{Z:Nat->Value}{hp:List SB}(h:HpSat X w0 w Z hp)(sb:SB)(v:Value)(href:qBs v)
  (hsat:∀Z',(∀i<hp.length,Z' i=Z i)->sb.sat X w0 w Z' v) (hlt:sb.lt (hp.length+1))
  (hnew:sb.ex=true->∀b,b∈fp v->∀(i:Nat) (sb':SB),hp[i]?=some sb'->sb'.ex=true->¬b∈fp (Z i)) :
  ∃Z',(∀i<hp.length,Z' i=Z i)/\Z' hp.length=v/\HpSat X w0 w Z' (hp++[sb]):=by
 have hr:∀i<hp.length,(λi=>if i=hp.length then v else Z i) i=Z i:=λi hi=>by
  have:¬i=hp.length:=by omega
  simp[this]
 refine⟨λi=>if i=hp.length then v else Z i,hr,by simp,?_⟩;refine h.push sb hr (λk _ _=>rfl) (λ_ _=>rfl) (λ_ _ k _ _ _=>rfl) ?_ hlt (by simpa using href) ?_
 ·have:=hsat _ hr;simpa using this
 ·simpa using hnew
theorem qBt{v:Value}(h:qBs v):v.oneCell'=true:=by cases v <;> simp_all [qBs,Value.oneCell']
theorem qE0{v:Value}{n:Nat}(h:qBs v):qBs (ptrAdd v n):=by
 cases v <;> simp_all [qBs,ptrAdd]
 rename_i a;cases a <;> simp_all [qBs,ptrAdd]
theorem isRef_el{v:Value}{n:Nat}(h:qBs v):qBs (qBb v n):=by
 cases v <;> simp_all [qBs,qBb]
 rename_i a _ _;cases a <;> simp_all [qBs,qBb]
theorem isRef_asl{v:Value}{a b c d:Nat}(h:qBs v):qBs (aslV v a b c d):=by
 cases v <;> simp_all [qBs,aslV]
 rename_i a;cases a <;> simp_all [qBs,aslV]
theorem cells_one{v:Value}(h:v.oneCell'=true):v.cells = #[v]:=by cases v <;> simp_all [Value.cells,Value.oneCell']
theorem isRef_base{v:Value}{n:Nat}(h:v.oneCell'=true):(qBb v n).oneCell'=true:=by
 cases v <;> simp_all [qBb,Value.oneCell']
 rename_i a _ _;cases a <;> simp_all [qBb,Value.oneCell']
theorem S0.den_one{Z:Nat->Value}{n:Nat}(hr:∀i<n,qBs (Z i)){x:S0}(hl:x.lt n)(ho:x.one):(x.den Z).oneCell'=true:=by
 cases x with
 | val v=>exact ho
 | hd h k=>exact qBt (qE0 (hr h hl))
 | own h=>exact qBt (hr h hl)
 | el h i sz k=>exact qBt (isRef_el (hr h hl))
 | opt c h k =>
  cases c with
  | true=>exact qBt (qE0 (hr h hl))
  | false=>rfl
 | bsl k=>exact baseV_one _
 | prj k i j=>exact projV_one _ _ _
 | pel k i sz off=>exact isRef_base (baseV_one _)
 | ar h off n i=>exact qBt (qE0 (hr h hl))
 | asl h off n lo len=>exact qBt (isRef_asl (hr h hl))
theorem allOne_den{Z:Nat->Value}{n:Nat}(hr:∀i<n,qBs (Z i)):∀ {l:List S0},(∀x∈l,x.lt n)->allOne l->∀v∈l.map (S0.den Z),v.oneCell'=true
 | [],_,_,v,hv=>by simp at hv
 | x::r,hl,ho,v,hv=>by
  simp only[List.map_cons,List.mem_cons] at hv;rcases hv with rfl | hv
  ·exact S0.den_one hr (hl x (by simp)) ho.1
  ·exact allOne_den hr (λy hy=>hl y (by simp[hy])) ho.2 v hv
theorem one_of{x:S0}(h:oneB x=true):x.one:=by
 cases x <;> simp only[S0.one]
 rename_i v;cases v <;> simp_all [oneB,Value.oneCell']
theorem allOne_of:∀ {l:List S0},allOneB l=true->allOne l
 | [],_=>trivial
 | x::r,h=>by
  simp only[allOneB] at h;cases hx:oneB x with
  | true=>rw[hx] at h;exact⟨one_of hx,allOne_of h⟩
  | false=>rw[hx] at h;simp at h
theorem SV.cells_den{Z:Nat->Value}{n:Nat}(hr:∀i<n,qBs (Z i)){v:SV}{l:List S0}(h:v.cells=some l)(hl:v.lt n):(v.den Z).cells=(l.map (S0.den Z)).toArray/\∀x∈l,x.lt n:=by
 unfold SV.cells at h;split at h
 ·cases h
 ·cases h
 ·rename_i x h1 h2;simp only[snJ] at h;subst h;refine⟨?_,λy hy=>by simp at hy;subst hy;exact hl⟩;simp only[SV.den,SC.den,List.map_cons,List.map_nil];apply cells_one;cases x with
  | val v=>cases v <;> first | rfl | (exact absurd rfl (h1 _)) | (exact absurd rfl (h2 _))
  | hd h k=>exact qBt (qE0 (hr h hl))
  | own h=>exact qBt (hr h hl)
  | el h i sz k=>exact qBt (isRef_el (hr h hl))
  | opt c h k =>
   cases c with
   | true=>exact qBt (qE0 (hr h hl))
   | false=>rfl
  | bsl k=>exact baseV_one _
  | prj k i j=>exact projV_one _ _ _
  | pel k i sz off=>exact isRef_base (baseV_one _)
  | ar h off n i=>exact qBt (qE0 (hr h hl))
  | asl h off n lo len=>exact qBt (isRef_asl (hr h hl))
 ·rename_i l';simp only[snJ] at h;subst h;exact⟨rfl,hl⟩
 ·cases h
theorem setL_length:∀(cs:List S0) (l:List S0) (i:Nat),(setL l i cs).length=l.length
 | [],l,i=>rfl
 | x::r,l,i=>by simp[setL,setL_length r]
theorem setL_mem{p:S0->Prop}:∀(cs:List S0) (l:List S0) (i:Nat),(∀x∈cs,p x)->(∀x∈l,p x)->∀x∈setL l i cs,p x
 | [],l,i,_,hl=>hl
 | x::r,l,i,hc,hl=>setL_mem r _ _ (λy hy=>hc y (by simp[hy])) λy hy=>by
  rcases List.mem_or_eq_of_mem_set hy with h | rfl
  ·exact hl y h
  ·exact hc y (by simp)
theorem qDd(f:S0->Value):∀(cs:List S0) (l:List S0) (i:Nat),i+cs.length<=l.length ->
  (setL l i cs).map f=(l.map f).take i++cs.map f++(l.map f).drop (i+cs.length)
 | [],l,i,h=>by simp[setL]
 | x::r,l,i,h=>by
  simp only[List.length_cons] at h;simp only[setL,List.map_cons];rw[qDd f r (l.set i x) (i+1) (by simp;omega),List.map_set];have hi:i<(l.map f).length:=by simp;omega
  rw[List.take_set,List.drop_set_of_lt (by omega),List.take_succ_eq_append_getElem hi,List.set_append_right _ _ (by simp;omega)];have h0:i - (List.take i (l.map f)).length=0:=by
   have:i<l.length:=by omega
   simp;omega
  rw[h0];simp only[List.set_cons_zero,List.append_assoc,List.cons_append,List.nil_append];rw[show i+1+r.length=i+(r.length+1) by omega];rfl
theorem fold_setL(f:S0->Value)(off:Nat):∀(cs:List S0) (k:Nat) (l:List S0),
  ((cs.map f).zipIdx k).foldl (λ(acc:Array Value) (p:Value × Nat)=>acc.setIfInBounds (off+p.2) p.1) (l.map f).toArray=((setL l (off+k) cs).map f).toArray
 | [],k,l=>rfl
 | x::r,k,l=>by
  simp only[List.map_cons,List.zipIdx_cons,List.foldl_cons,setL];rw[show((l.map f).toArray.setIfInBounds (off+k) (f x))=((l.set (off+k) x).map f).toArray by simp[List.map_set]];rw[fold_setL f off r (k+1) (l.set (off+k) x)];rfl
section
variable {E:Env} {Z:Nat->Value} {S:St} {a:Act} {o:Oper} {act:Prop}
theorem mv_ok(hs:qCv Z S a)(hact:act){x:Operand}{y:Arg}(hx:arg x=some y)(ho:o.op=.move x\/o.op=.assign x){J:Nat->Option Con}:OpOK E Z S a o (runP J S act (.mv y)):=by
 simp only[runP];split
 ·rename_i p v h;refine qAe (λhp=>(qAc hs hact hx h hp).2) (λhp w0 _ w=>?_);obtain⟨h1,_⟩:=qAc hs hact hx h hp;rcases ho with ho | ho <;> (unfold execOp;simp[ho,h1])
 ·trivial
theorem pickB_sound{c:Bool}{u v:Value}{p:Prop}{z:SV}(h:pickB c u v=.still p z):z=.c (.o (.val (if c then u else v))):=by
 unfold pickB at h;split at h <;> simp only[ret1,RR.still.injEq,reduceCtorEq] at h <;> obtain⟨_,rfl⟩:=h <;> cases c <;> simp
 
theorem pick_ok(hs:qCv Z S a)(hact:act){c x y:Operand}{c' x' y':Arg}(hc:arg c=some c')(hx:arg x=some x')(hy:arg y=some y')(ho:o.op=.pick c x y){J:Nat->Option Con} :
  OpOK E Z S a o (runP J S act (.pick c' x' y')):=by
 simp only[runP];split
 ·rename_i pc cb h1;split
  ·rename_i pa va pb vb h2 h3;split
   ·rename_i q v h4;have hv:=pickB_sound h4;subst hv;refine qAe (λhp=>trivial) (λhp w0 _ w=>?_);obtain⟨e1,_⟩:=qAc hs hact hc h1 hp.1;unfold execOp;cases cb
    ·obtain⟨e3,_⟩:=qAc hs ⟨hact,rfl⟩ hy h3 hp.2.2;simp[ho,e1,e3,SV.den,SC.den,S0.den,asBool]
    ·obtain⟨e2,_⟩:=qAc hs ⟨hact,rfl⟩ hx h2 hp.2.1;simp[ho,e1,e2,SV.den,SC.den,S0.den,asBool]
   ·trivial
  ·rename_i pa v h2 _;refine qAe (λhp=>(qAc hs ⟨hact,hp.2.1 hact⟩ hx h2 (hp.2.2 hp.2.1)).2) (λhp w0 _ w=>?_);obtain⟨e1,_⟩:=qAc hs hact hc h1 hp.1;obtain⟨e2,_⟩:=qAc hs ⟨hact,hp.2.1 hact⟩ hx h2 (hp.2.2 hp.2.1);have hcb:=hp.2.1 hact;subst hcb;unfold execOp;simp[ho,e1,e2,SV.den,SC.den,S0.den,asBool]
  ·rename_i pb v _ h3;refine qAe (λhp=>(qAc hs ⟨hact,hp.2.1 hact⟩ hy h3 (hp.2.2 hp.2.1)).2) (λhp w0 _ w=>?_);obtain⟨e1,_⟩:=qAc hs hact hc h1 hp.1;obtain⟨e2,_⟩:=qAc hs ⟨hact,hp.2.1 hact⟩ hy h3 (hp.2.2 hp.2.1);have hcb:=hp.2.1 hact;subst hcb;unfold execOp;simp[ho,e1,e2,SV.den,SC.den,S0.den,asBool]
  ·trivial
 ·trivial
theorem conv_ok{s d:TypeId}{x:Operand}{ks k k':IntKind}{n:Int}(raw:Bool)(h1:E.P.underlying s=some (.int ks))(h2:E.P.underlying d=some (.int k))(hx:a.eval x=.int k' n)(ho:o.op=.convert s d x) :
  OpOK E Z S a o (fit raw k n):=by
 refine fit_ok λw=>?_
 unfold execOp;simp[ho,hx,convert,run_underlying h1,run_underlying h2,Conv.intToInt]
theorem strc_ok(hs:qCv Z S a)(hact:act){s d:TypeId}{x:Operand}{y:Arg}(h1:E.P.underlying s=some .string)(h2:E.P.underlying d=some .string)(hx:arg x=some y)(ho:o.op=.convert s d x){J:Nat->Option Con} :
  OpOK E Z S a o (runP J S act (.strc y)):=by
 simp only[runP];split
 ·rename_i p s' h;refine qAe (λhp=>trivial) (λhp w0 _ w=>?_);obtain⟨e1,_⟩:=qAc hs hact hx h hp;unfold execOp;simp[ho,e1,SV.den,SC.den,S0.den,convert,run_underlying h1,run_underlying h2]
 ·trivial
theorem zero_of{P:Program}{t:Nat}{z:List Value}(h:qBj P t=some z):∃i v,P.info? t=some i/\i.zero=some v/\v.cells.toList=z:=by
 unfold qBj at h;split at h
 ·rename_i i hi;split at h
  ·rename_i v hv;exact⟨i,v,hi,hv,by simpa using h⟩
  ·cases h
 ·cases h
theorem qEo{P:Program}{t:Nat}{i:TypeInfo}{v:Value}(h:P.info? t=some i)(hz:i.zero=some v)(w:World):(zeroValue t).run P w=.ok v w:=by
 simp[zeroValue,typeInfo,h,hz]
theorem new_ok{p:Prop}{e:Nat}{l:List S0}(hl:p->∀x∈l,x.lt S.hp.length)
  (h:p->∀w,Cls E Z S.hp w->(execOp a.eval o).run E.P w=.ok (.value (.pointer (some ⟨w.heap.size,0,none⟩))) (w.alloc (.cells (l.map (S0.den Z)).toArray e))) :
  OpOK E Z S a o (.ok p (.c (.o (.hd S.hp.length 0))) (S.hp++[.cells e l])):=by
 intro hp;refine⟨by simp[SV.lt,SC.lt,S0.lt],by simp,λw hw K Q hK=>?_⟩;have hr:=h hp w hw;have hll:=hl hp;obtain⟨Z',hag,hnew,hsat⟩:=hw.1.alloc hw.2 (.cells (l.map (S0.den Z)).toArray e) (.cells e l) (.pointer (some ⟨w.heap.size,0,none⟩)) rfl
  (λZ' hag hn=>⟨w.heap.size,rfl,by rw[heap_alloc_new w,show l.map (S0.den Z')=l.map (S0.den Z) from List.map_congr_left λy hy=>S0.den_congr hag (hll y hy)],.inl hw.2.size⟩)
  (λx hx=>S0.lt_mono (Nat.le_succ _) (hll x hx)) trivial
 have:=hK Z' _ hag ⟨hsat,hw.2.alloc _⟩;simp only[SV.den,SC.den,S0.den,hnew,ptrAdd,Addr.add,if_true] at this;unfold Oper.wp;rw[hr];exact this
theorem alloc_ok{e:Nat}{z:List Value}(hz:qBj E.P e=some z)(ho:o.op=.alloc e){J:Nat->Option Con}:OpOK E Z S a o (runP J S act (.alloc e z)):=by
 obtain⟨i,v,h1,h2,rfl⟩:=zero_of hz;refine new_ok (λ_ x hx=>?_) (λ_ w _=>?_)
 ·simp only[List.mem_map] at hx;obtain⟨u,_,rfl⟩:=hx;trivial
 ·have e1:(v.cells.toList.map S0.val).map (S0.den Z)=v.cells.toList:=by
   rw[List.map_map];exact(List.map_congr_left λ_ _=>rfl).trans (List.map_id _)
  rw[e1];unfold execOp;simp[ho,Instr.alloc,qEo h1 h2,newVar,newRow]
theorem box_ok(hw0:∀i<S.hp.length,qBs (Z i))(hs:qCv Z S a)(hact:act){e n:Nat}{x:Operand}{y:Arg}(hx:arg x=some y)(ho:o.op=.box e x){J:Nat->Option Con}:OpOK E Z S a o (runP J S act (.box e n y)):=by
 simp only[runP];split
 ·rename_i p v h;split
  ·rename_i l hl;refine new_ok (λhp=>?_) (λhp w _=>?_)
   ·exact(SV.cells_den hw0 hl (qAc hs hact hx h hp).2).2
   ·obtain⟨e1,e2⟩:=qAc hs hact hx h hp;have e3:=(SV.cells_den hw0 hl e2).1;unfold execOp;simp[ho,e1,Instr.box,newVar,newRow,e3]
  ·trivial
 ·trivial
theorem qD1(hw0:∀i<S.hp.length,qBs (Z i))(hs:qCv Z S a)(hact:act)(place:Nat->Option (Nat × Nat)) :
  ∀(ps:List (Nat × Operand)) (rs:List (Nat × Nat × Arg)) (l m:List S0) (p:Prop),
   (ps.map λx=>(place x.1,arg x.2))=(rs.map λx=>(some (x.1,x.2.1),some x.2.2))->fillL S act rs l=some (p,m)->p->(∀x∈l,x.lt S.hp.length) ->
   Instr.fill place (l.map (S0.den Z)).toArray (ps.map λx=>(x.1,a.eval x.2))=some (m.map (S0.den Z)).toArray/\(∀x∈m,x.lt S.hp.length)
 | [],rs,l,m,p,hr,h,hp,hlt=>by
  cases rs with
  | nil =>
   simp only[fillL,snJ,Prod.mk.injEq] at h;obtain⟨_,rfl⟩:=h;exact⟨rfl,hlt⟩
  | cons _ _=>simp at hr
 | (i,x)::ps,rs,l,m,p,hr,h,hp,hlt=>by
  cases rs with
  | nil=>simp at hr
  | cons r rs =>
   obtain⟨off,sz,y⟩:=r;simp only[List.map_cons,List.cons.injEq,Prod.mk.injEq] at hr;obtain⟨⟨h1,h2⟩,hr⟩:=hr;simp only[fillL] at h;split at h
   ·rename_i q v hv;split at h
    ·rename_i cs hcs;cases hb:(cs.length == sz && Nat.ble (off+sz) l.length) with
     | false=>rw[hb] at h;simp at h
     | true =>
      rw[hb] at h;simp only[cnT] at h;split at h
      ·rename_i q2 m2 h3;simp only[snJ,Prod.mk.injEq] at h;obtain⟨rfl,rfl⟩:=h;obtain⟨e1,e2⟩:=qAc hs hact h2 hv hp.1;obtain⟨e3,e4⟩:=SV.cells_den hw0 hcs e2;simp only[Bool.and_eq_true,beq_iff_eq,Nat.ble_eq] at hb;obtain⟨i1,i2⟩:=qD1 hw0 hs hact place ps rs (setL l off cs) m2 q2 hr h3 hp.2 (setL_mem cs l off e4 hlt);refine⟨?_,i2⟩;simp only[List.map_cons,Instr.fill,h1,e1,e3];have hsz:¬((cs.map (S0.den Z)).toArray.size≠sz):=by simp[hb.1]
       have hle:¬(off+(cs.map (S0.den Z)).toArray.size > (l.map (S0.den Z)).toArray.size):=by simp;omega
       simp only[hsz,hle,decide_false,Bool.or_self,Bool.false_eq_true,if_false];rw[<-i1];congr 1
       have:=fold_setL (S0.den Z) off cs 0 l;simp only[Nat.add_zero] at this;rw[<-this,<-Array.foldl_toList];simp[Array.toList_zipIdx]
      ·cases h
    ·cases h
   ·cases h
theorem places_spec{P:Program}{fs:List Field}:∀ {ps:List (Nat × Operand)} {rs:List (Nat × Nat × Arg)},places P fs ps=some rs ->
  ∀place:Nat->Option (Nat × Nat),(∀(i:Nat) (f:Field) (ti:TypeInfo),fs[i]?=some f->P.info? f.type=some ti->place i=some (f.offset,ti.size)) ->
  (ps.map λx=>(place x.1,arg x.2))=(rs.map λx=>(some (x.1,x.2.1),some x.2.2))
 | [],rs,h,place,_=>by simp only[places,snJ] at h;subst h;rfl
 | (i,x)::ps,rs,h,place,hpl=>by
  simp only[places] at h;split at h
  ·rename_i f y s h1 h2 h3;split at h
   ·rename_i ti h4;simp only[snJ] at h;subst h;simp only[List.map_cons,h2,hpl i f ti h1 h4,places_spec h3 place hpl]
   ·cases h
  ·cases h
theorem placesA_spec{sz:Nat}:∀ {ps:List (Nat × Operand)} {rs:List (Nat × Nat × Arg)},placesA sz ps=some rs ->
  (ps.map λx=>((λi=>some (i*sz,sz)) x.1,arg x.2))=(rs.map λx=>(some (x.1,x.2.1),some x.2.2))
 | [],rs,h=>by simp only[placesA,snJ] at h;subst h;rfl
 | (i,x)::ps,rs,h=>by
  simp only[placesA] at h;split at h
  ·rename_i y s h1 h2;simp only[snJ] at h;subst h;simp only[List.map_cons,h1,placesA_spec h2]
  ·cases h
theorem run_mapM_list{U β:Type}{P:Program}{w:World}(f:U->Sem β)(g:U->β):∀(l:List U),(∀x∈l,(f x).run P w=.ok (g x) w)->(l.mapM f).run P w=.ok (l.map g) w
 | [],_=>by simp
 | x::l,h=>by
  have h1:=h x (by simp);have h2:=run_mapM_list f g l λy hy=>h y (by simp[hy])
  simp[List.mapM_cons,h1,h2]
theorem build_ok(hw0:∀i<S.hp.length,qBs (Z i))(hs:qCv Z S a)(hact:act){t:Nat}{fs:Array Field}{z:List Value}{ps:Array (Nat × Operand)}{rs:List (Nat × Nat × Arg)}
  (hu:E.P.underlying t=some (.struct fs)) (hz:qBj E.P t=some z) (hps:places E.P fs.toList ps.toList=some rs) (hall:fs.toList.all (λf=>(E.P.info? f.type).isSome)=true) (ho:o.op=.build t ps) {J:Nat->Option Con} :
  OpOK E Z S a o (runP J S act (.build z rs)):=by
 obtain⟨i,v,h1,h2,rfl⟩:=zero_of hz;simp only[runP];split
 ·rename_i p l h;have hplace:∀(i:Nat) (f:Field) (ti:TypeInfo),fs.toList[i]?=some f->E.P.info? f.type=some ti->((fs.toList.map λf=>(f.offset,E.P.cellsOf f.type)).toArray)[i]?=some (f.offset,ti.size):=by
   intro i f ti hf hti;simp only[List.getElem?_toArray,List.getElem?_map,hf,Option.map_some,Program.cellsOf,hti,Option.getD_some]
  have hsp:=places_spec hps _ hplace;have e1:(v.cells.toList.map S0.val).map (S0.den Z)=v.cells.toList:=by
   rw[List.map_map];exact(List.map_congr_left λ_ _=>rfl).trans (List.map_id _)
  have key:p->Instr.fill (λi=>((fs.toList.map λf=>(f.offset,E.P.cellsOf f.type)).toArray)[i]?) v.cells (ps.toList.map λx=>(x.1,a.eval x.2))=some (l.map (S0.den Z)).toArray/\(∀x∈l,x.lt S.hp.length):=by
   intro hp;have:=qD1 hw0 hs hact _ ps.toList rs _ l p hsp h hp (λx hx=>by
    simp only[List.mem_map] at hx;obtain⟨u,_,rfl⟩:=hx;trivial)
   rw[e1] at this;exact this
  refine qAe (λhp=>(key hp).2) (λhp w0 _ w=>?_);have hm:((fs.mapM λf=>do pure (f.offset,<-sizeOf f.type)):Sem (Array (Nat × Nat))).run E.P w=.ok ((fs.toList.map λf=>(f.offset,E.P.cellsOf f.type)).toArray) w:=by
   rw[Array.mapM_eq_mapM_toList];rw[Sem.run_map,run_mapM_list _ (λf:Field=>(f.offset,E.P.cellsOf f.type))]
   ·rfl
   ·intro f hf;have:=List.all_eq_true.1 hall f hf;obtain⟨ti,hti⟩:=Option.isSome_iff_exists.1 this;simp[sizeOf,typeInfo,hti,Program.cellsOf]
  unfold execOp;simp only[ho,Instr.build,Sem.run_bind,qEo h1 h2,Result.andThen_ok,run_underlying hu,hm];have hk:=(key hp).1;have:(Array.map (λx=>match x with | (i,x)=>(i,a.eval x)) ps).toList=ps.toList.map λx=>(x.1,a.eval x.2):=by simp
  rw[this,hk];rfl
 ·trivial
theorem buildA_ok{J:Nat->Option Con}(hw0:∀i<S.hp.length,qBs (Z i))(hs:qCv Z S a)(hact:act){t n e:Nat}{i0:TypeInfo}{z:List Value}{ps:Array (Nat × Operand)}{rs:List (Nat × Nat × Arg)}
  (hu:E.P.underlying t=some (.array n e)) (hz:qBj E.P t=some z) (hi:E.P.info? e=some i0) (hps:placesA i0.size ps.toList=some rs) (ho:o.op=.build t ps) :
  OpOK E Z S a o (runP J S act (.build z rs)):=by
 obtain⟨i,v,h1,h2,rfl⟩:=zero_of hz;simp only[runP];split
 ·rename_i p l h;have hsp:=placesA_spec hps;have e1:(v.cells.toList.map S0.val).map (S0.den Z)=v.cells.toList:=by
   rw[List.map_map];exact(List.map_congr_left λ_ _=>rfl).trans (List.map_id _)
  have key:p->Instr.fill (λi=>some (i*i0.size,i0.size)) v.cells (ps.toList.map λx=>(x.1,a.eval x.2))=some (l.map (S0.den Z)).toArray/\(∀x∈l,x.lt S.hp.length):=by
   intro hp;have:=qD1 hw0 hs hact (λi=>some (i*i0.size,i0.size)) ps.toList rs _ l p hsp h hp (λx hx=>by
    simp only[List.mem_map] at hx;obtain⟨u,_,rfl⟩:=hx;trivial)
   rw[e1] at this;exact this
  refine qAe (λhp=>(key hp).2) (λhp w0 _ w=>?_);have hsz:∀w,(sizeOf e).run E.P w=.ok i0.size w:=λw=>by simp[sizeOf,typeInfo,hi]
  unfold execOp;simp only[ho,Instr.build,Sem.run_bind,qEo h1 h2,Result.andThen_ok,run_underlying hu,hsz];have hk:=(key hp).1;have:(Array.map (λx=>match x with | (i,x)=>(i,a.eval x)) ps).toList=ps.toList.map λx=>(x.1,a.eval x.2):=by simp
  rw[this,hk];rfl
 ·trivial
end
theorem qAl:∀(ks:List NK) (x:NT ks) (vs:List Value),(qAh ks x vs).length=ks.length
 | [],_,_=>rfl
 | .int _::r,x,vs=>by simp only[qAh,List.length_cons,qAl r]
 | .bool::r,x,vs=>by simp only[qAh,List.length_cons,qAl r]
 | .str::r,x,vs=>by simp only[qAh,List.length_cons,qAl r]
 | .map::r,x,vs=>by simp only[qAh,List.length_cons,qAl r]
 | .rw _::r,x,vs=>by simp only[qAh,List.length_cons,qAl r]
theorem qCw{ks:List NK}:∀ {l:List (NT ks)} {rs:List (List Value)},rs.length=l.length->(qAs ks l rs).length=l.length*ks.length
 | [],[],_=>by simp[qAs]
 | x::l,r::rs,h=>by
  simp only[qAs,List.length_append,qAl,List.length_cons];rw[qCw (l:=l) (rs:=rs) (by simpa using h),Nat.add_mul];omega
 | [],_::_,h=>by simp at h
 | _::_,[],h=>by simp at h
theorem qAr.len{X:Nat->Prop}{w0 w:World}{ks:List NK}:∀ {l:List (NT ks)} {rs:List (List Value)},qAr X w0 w ks l rs->rs.length=l.length
 | [],[],_=>rfl
 | x::l,r::rs,h=>by simp only[List.length_cons,qAr.len h.2]
 | [],_::_,h=>h.elim
 | _::_,[],h=>h.elim
theorem qAr.at{X:Nat->Prop}{w0 w:World}{ks:List NK}(d:NT ks):∀ {l:List (NT ks)} {rs:List (List Value)},qAr X w0 w ks l rs->∀ {i:Nat},i<l.length->∃r,rs[i]?=some r/\qAt X w0 w ks (l.getD i d) r
 | [],[],_,i,hi=>by simp at hi
 | x::l,r::rs,h,i,hi=>by
  cases i with
  | zero=>exact⟨r,rfl,h.1⟩
  | succ i =>
   obtain⟨r',h1,h2⟩:=qAr.at d h.2 (i:=i) (by simpa using hi);exact⟨r',by simpa using h1,by simpa[List.getD] using h2⟩
 | [],_::_,h,_,_=>h.elim
 | _::_,[],h,_,_=>h.elim
theorem bagVals_get{ks:List NK}(d:NT ks):∀(l:List (NT ks)) (rs:List (List Value)) (i k:Nat) (r:List Value) (u:Value),rs.length=l.length->rs[i]?=some r->(qAh ks (l.getD i d) r)[k]?=some u->(qAs ks l rs)[i*ks.length+k]?=some u
 | [],[],i,k,r,u,_,hr,_=>by simp at hr
 | x::l,r0::rs,i,k,r,u,h,hr,hu=>by
  have hk:k<ks.length:=by
   have:=(List.getElem?_eq_some_iff.1 hu).1;rwa [qAl] at this
  cases i with
  | zero =>
   simp at hr;subst hr;simp only[qAs,Nat.zero_mul,Nat.zero_add];rw[List.getElem?_append_left (by rw[qAl];exact hk)];simpa[List.getD] using hu
  | succ i =>
   simp only[qAs];rw[List.getElem?_append_right (by rw[qAl,Nat.add_mul];omega),qAl,show(i+1)*ks.length+k - ks.length=i*ks.length+k by rw[Nat.add_mul];omega];exact bagVals_get d l rs i k r u (by simpa using h) (by simpa using hr) (by simpa[List.getD] using hu)
 | [],_::_,_,_,_,_,h,_,_=>by simp at h
 | _::_,[],_,_,_,_,h,_,_=>by simp at h
theorem bagVals_append{ks:List NK}:∀(l m:List (NT ks)) (rs qs:List (List Value)),rs.length=l.length->qAs ks (l++m) (rs++qs)=qAs ks l rs++qAs ks m qs
 | [],m,[],qs,_=>rfl
 | x::l,m,r::rs,qs,h=>by
  simp only[List.cons_append,qAs,List.append_assoc];rw[bagVals_append l m rs qs (by simpa using h)]
 | [],_,_::_,_,h=>by simp at h
 | _::_,_,[],_,h=>by simp at h
theorem bagVals_take{ks:List NK}:∀(l:List (NT ks)) (rs:List (List Value)) (n:Nat),rs.length=l.length->qAs ks (l.take n) (rs.take n)=(qAs ks l rs).take (n*ks.length)
 | [],[],n,_=>by simp[qAs]
 | x::l,r::rs,n,h=>by
  cases n with
  | zero=>simp[qAs]
  | succ n =>
   simp only[List.take_succ_cons,qAs];have e1:((qAh ks x r).take ((n+1)*ks.length))=qAh ks x r:=List.take_of_length_le (by rw[qAl,Nat.add_mul];omega);rw[bagVals_take l rs n (by simpa using h),List.take_append,e1,qAl,show(n+1)*ks.length - ks.length=n*ks.length by rw[Nat.add_mul];omega]
 | [],_::_,_,h=>by simp at h
 | _::_,[],_,h=>by simp at h
theorem bagVals_set{ks:List NK}(y:NT ks):∀(l:List (NT ks)) (rs:List (List Value)) (i:Nat) (r:List Value),rs.length=l.length->rs[i]?=some r ->
  qAs ks (l.set i y) rs=(qAs ks l rs).take (i*ks.length)++qAh ks y r++(qAs ks l rs).drop ((i+1)*ks.length)
 | [],[],i,r,_,hr=>by simp at hr
 | x::l,r0::rs,i,r,h,hr=>by
  cases i with
  | zero =>
   simp at hr;subst hr;simp only[List.set_cons_zero,qAs,Nat.zero_mul,List.take_zero,List.nil_append,Nat.zero_add,Nat.one_mul];rw[List.drop_left' (qAl ..)]
  | succ i =>
   simp only[List.set_cons_succ,qAs];have e1:((qAh ks x r0).take ((i+1)*ks.length))=qAh ks x r0:=List.take_of_length_le (by rw[qAl,Nat.add_mul];omega);have e2:((qAh ks x r0).drop ((i+1+1)*ks.length))=[]:=List.drop_eq_nil_of_le (by rw[qAl,Nat.add_mul,Nat.add_mul];omega);rw[bagVals_set y l rs i r (by simpa using h) (by simpa using hr),List.take_append,e1,qAl,show(i+1)*ks.length - ks.length=i*ks.length by rw[Nat.add_mul];omega,
    List.drop_append,e2,qAl,show(i+1+1)*ks.length - ks.length=(i+1)*ks.length by rw[Nat.add_mul (i+1)];omega]
   simp only[List.append_assoc,List.nil_append]
 | [],_::_,_,_,h,_=>by simp at h
 | _::_,[],_,_,h,_=>by simp at h
theorem bagVals_el{ks:List NK}(d:NT ks):∀(l:List (NT ks)) (rs:List (List Value)) (i:Nat) (r:List Value),rs.length=l.length->rs[i]?=some r ->
  qAh ks (l.getD i d) r=((qAs ks l rs).drop (i*ks.length)).take ks.length
 | [],[],i,r,_,hr=>by simp at hr
 | x::l,r0::rs,i,r,h,hr=>by
  cases i with
  | zero =>
   simp at hr;subst hr;simp only[List.getD,List.getElem?_cons_zero,Option.getD_some,qAs,Nat.zero_mul,List.drop_zero];rw[List.take_left' (qAl ..)]
  | succ i =>
   simp only[List.getD,List.getElem?_cons_succ,qAs];have:=bagVals_el d l rs i r (by simpa using h) (by simpa using hr);rw[List.getD] at this;have e2:((qAh ks x r0).drop ((i+1)*ks.length))=[]:=List.drop_eq_nil_of_le (by rw[qAl,Nat.add_mul];omega);rw[this,List.drop_append,e2,qAl,List.nil_append,show(i+1)*ks.length - ks.length=i*ks.length by rw[Nat.add_mul];omega]
 | [],_::_,_,_,h,_=>by simp at h
 | _::_,[],_,_,h,_=>by simp at h
theorem qEr.one{X:Nat->Prop}{w0 w:World}{v:Value}:∀ {m:MapC},qEr X w0 w v m->v.oneCell'=true
 | none,h=>by rw[show v=_ from h];rfl
 | some m,⟨b,es,c,h,_⟩=>by rw[h];rfl
theorem RowAt.slice{X:Nat->Prop}{w0 w:World}{q:QK}{v:Value}{l:List q.T}(h:RowAt X w0 w q v l):∃ad cap,v=.slice ad (q.l l).length cap:=by
 obtain⟨⟨e,h1⟩,_⟩:=h;rcases h1.2 with⟨hv,hn⟩ | ⟨g,cap,cur,hv,_⟩
 ·exact⟨none,0,by rw[hv,hn]⟩
 ·exact⟨_,_,hv⟩
theorem RowAt.one{X:Nat->Prop}{w0 w:World}{q:QK}{v:Value}{l:List q.T}(h:RowAt X w0 w q v l):v.oneCell'=true:=by
 obtain⟨_,_,h⟩:=h.slice;rw[h];rfl
theorem qD0{X:Nat->Prop}{w0 w:World}:∀ {ks:List NK} {x:NT ks} {vs:List Value},qAt X w0 w ks x vs->∀v∈qAh ks x vs,v.oneCell'=true
 | [],_,_,h,v,hv=>by simp[qAh] at hv
 | .int _::r,x,vs,h,v,hv=>by
  simp only[qAh,List.mem_cons] at hv;rcases hv with rfl | hv
  ·rfl
  ·exact qD0 (ks:=r) (x:=x.2) h v hv
 | .bool::r,x,vs,h,v,hv=>by
  simp only[qAh,List.mem_cons] at hv;rcases hv with rfl | hv
  ·rfl
  ·exact qD0 (ks:=r) (x:=x.2) h v hv
 | .str::r,x,vs,h,v,hv=>by
  simp only[qAh,List.mem_cons] at hv;rcases hv with rfl | hv
  ·rfl
  ·exact qD0 (ks:=r) (x:=x.2) h v hv
 | .map::r,x,_,⟨v0,vs',rfl,h1,h2⟩,v,hv=>by
  simp only[qAh,List.mem_cons,List.headD_cons,List.tail_cons] at hv;rcases hv with rfl | hv
  ·exact h1.one
  ·exact qD0 (ks:=r) (x:=x.2) h2 v hv
 | .rw _::r,x,_,⟨v0,vs',rfl,h1,h2⟩,v,hv=>by
  simp only[qAh,List.mem_cons,List.headD_cons,List.tail_cons] at hv;rcases hv with rfl | hv
  ·exact h1.one
  ·exact qD0 (ks:=r) (x:=x.2) h2 v hv
theorem BagOK.slice{X:Nat->Prop}{w0 w:World}{ks:List NK}{e:Nat}{l:List (NT ks)}{u:Value}{rs:List (List Value)}(h:BagOK X w0 w ks e l u rs):∃ad cap,u=.slice ad l.length cap:=by
 rcases h.row.2 with⟨hv,hn⟩ | ⟨g,cap,cur,hv,_⟩
 ·exact⟨none,0,by rw[hv,hn]⟩
 ·exact⟨_,_,hv⟩
theorem BagOK.one{X:Nat->Prop}{w0 w:World}{ks:List NK}{e:Nat}{l:List (NT ks)}{u:Value}{rs:List (List Value)}(h:BagOK X w0 w ks e l u rs):u.oneCell'=true:=by
 obtain⟨_,_,h⟩:=h.slice;rw[h];rfl
theorem drop_cons{U:Type}{l:List U}{j:Nat}{v:U}{r:List U}(h:l.drop j=v::r):l[j]?=some v/\l.drop (j+1)=r:=by
 have h1:(l.drop j)[0]?=some v:=by rw[h];rfl
 rw[List.getElem?_drop] at h1;refine⟨by simpa using h1,?_⟩;rw[<-List.drop_drop,h];rfl
theorem qCb{X:Nat->Prop}{w0 w:World}{Z:Nat->Value}{k i:Nat}{u:Value}{rs:List (List Value)}{r:List Value}(hk:Z k=bagV u rs)(hr:rs[i]?=some r):∀(ks:List NK) (x:NT ks) (j:Nat),qAt X w0 w ks x (r.drop j) ->
  (qBc k i ks x j).map (S0.den Z)=qAh ks x (r.drop j)
 | [],_,_,_=>rfl
 | .int _::q,x,j,h=>by simp only[qBc,qAh,List.map_cons,S0.den,qCb hk hr q x.2 j h]
 | .bool::q,x,j,h=>by simp only[qBc,qAh,List.map_cons,S0.den,qCb hk hr q x.2 j h]
 | .str::q,x,j,h=>by simp only[qBc,qAh,List.map_cons,S0.den,qCb hk hr q x.2 j h]
 | .map::q,x,j,⟨v,vs',he,h1,h2⟩=>by
  obtain⟨e1,e2⟩:=drop_cons he;have h3:=qCb hk hr q x.2 (j+1) (by rw[e2];exact h2);simp only[qBc,qAh,List.map_cons,S0.den,h3,he,List.headD_cons,List.tail_cons];rw[hk,projV_bag u hr e1 h1.one,e2]
 | .rw _::q,x,j,⟨v,vs',he,h1,h2⟩=>by
  obtain⟨e1,e2⟩:=drop_cons he;have h3:=qCb hk hr q x.2 (j+1) (by rw[e2];exact h2);simp only[qBc,qAh,List.map_cons,S0.den,h3,he,List.headD_cons,List.tail_cons];rw[hk,projV_bag u hr e1 h1.one,e2]
theorem qCy{k i n:Nat}(hk:k<n):∀(ks:List NK) (x:NT ks) (j:Nat),∀y∈qBc k i ks x j,y.lt n
 | [],_,_,y,hy=>by simp[qBc] at hy
 | .int _::q,x,j,y,hy=>by
  simp only[qBc,List.mem_cons] at hy;rcases hy with rfl | hy
  ·trivial
  ·exact qCy hk q x.2 j y hy
 | .bool::q,x,j,y,hy=>by
  simp only[qBc,List.mem_cons] at hy;rcases hy with rfl | hy
  ·trivial
  ·exact qCy hk q x.2 j y hy
 | .str::q,x,j,y,hy=>by
  simp only[qBc,List.mem_cons] at hy;rcases hy with rfl | hy
  ·trivial
  ·exact qCy hk q x.2 j y hy
 | .map::q,x,j,y,hy=>by
  simp only[qBc,List.mem_cons] at hy;rcases hy with rfl | hy
  ·exact hk
  ·exact qCy hk q x.2 (j+1) y hy
 | .rw _::q,x,j,y,hy=>by
  simp only[qBc,List.mem_cons] at hy;rcases hy with rfl | hy
  ·exact hk
  ·exact qCy hk q x.2 (j+1) y hy
theorem qD4{X:Nat->Prop}{w0 w:World}:∀ {ks:List NK} {x y:NT ks} {off:Nat} {v:S0},nkSet ks x off v=some y ->
  off<ks.length/\∃u,v=.val u/\u.oneCell'=true/\(∀vs,qAh ks y vs=(qAh ks x vs).set off u)/\∀vs,qAt X w0 w ks x vs->qAt X w0 w ks y vs
 | [],x,y,off,v,h=>by simp[nkSet] at h
 | .int q::r,x,y,0,v,h=>by
  simp only[nkSet] at h;split at h
  ·rename_i q' n;cases hq:decide (q'=q) with
   | false=>rw[hq] at h;simp at h
   | true =>
    rw[hq] at h;simp only[cnT,snJ] at h;subst h;have:=of_decide_eq_true hq;subst this;exact⟨Nat.succ_pos _,_,rfl,rfl,λvs=>rfl,λvs h=>h⟩
  ·cases h
 | .bool::r,x,y,0,v,h=>by
  simp only[nkSet] at h;split at h
  ·simp only[snJ] at h;subst h;exact⟨Nat.succ_pos _,_,rfl,rfl,λvs=>rfl,λvs h=>h⟩
  ·cases h
 | .str::r,x,y,0,v,h=>by
  simp only[nkSet] at h;split at h
  ·simp only[snJ] at h;subst h;exact⟨Nat.succ_pos _,_,rfl,rfl,λvs=>rfl,λvs h=>h⟩
  ·cases h
 | .map::r,x,y,0,v,h=>by simp[nkSet] at h
 | .rw _::r,x,y,0,v,h=>by simp[nkSet] at h
 | .int q::r,x,y,off+1,v,h=>by
  simp only[nkSet] at h;split at h
  ·rename_i z hz;simp only[snJ] at h;subst h;obtain⟨h1,u,h2,h3,h4,h5⟩:=qD4 (X:=X) (w0:=w0) (w:=w) hz;exact⟨by simpa using h1,u,h2,h3,λvs=>by simp only[qAh,List.set_cons_succ,h4],λvs h=>h5 vs h⟩
  ·cases h
 | .bool::r,x,y,off+1,v,h=>by
  simp only[nkSet] at h;split at h
  ·rename_i z hz;simp only[snJ] at h;subst h;obtain⟨h1,u,h2,h3,h4,h5⟩:=qD4 (X:=X) (w0:=w0) (w:=w) hz;exact⟨by simpa using h1,u,h2,h3,λvs=>by simp only[qAh,List.set_cons_succ,h4],λvs h=>h5 vs h⟩
  ·cases h
 | .str::r,x,y,off+1,v,h=>by
  simp only[nkSet] at h;split at h
  ·rename_i z hz;simp only[snJ] at h;subst h;obtain⟨h1,u,h2,h3,h4,h5⟩:=qD4 (X:=X) (w0:=w0) (w:=w) hz;exact⟨by simpa using h1,u,h2,h3,λvs=>by simp only[qAh,List.set_cons_succ,h4],λvs h=>h5 vs h⟩
  ·cases h
 | .map::r,x,y,off+1,v,h=>by
  simp only[nkSet] at h;split at h
  ·rename_i z hz;simp only[snJ] at h;subst h;obtain⟨h1,u,h2,h3,h4,h5⟩:=qD4 (X:=X) (w0:=w0) (w:=w) hz;refine⟨by simpa using h1,u,h2,h3,λvs=>by simp only[qAh,List.set_cons_succ,h4],λvs ⟨v0,vs',h6,h7,h8⟩=>⟨v0,vs',h6,h7,h5 vs' h8⟩⟩
  ·cases h
 | .rw _::r,x,y,off+1,v,h=>by
  simp only[nkSet] at h;split at h
  ·rename_i z hz;simp only[snJ] at h;subst h;obtain⟨h1,u,h2,h3,h4,h5⟩:=qD4 (X:=X) (w0:=w0) (w:=w) hz;refine⟨by simpa using h1,u,h2,h3,λvs=>by simp only[qAh,List.set_cons_succ,h4],λvs ⟨v0,vs',h6,h7,h8⟩=>⟨v0,vs',h6,h7,h5 vs' h8⟩⟩
  ·cases h
theorem qCz{X:Nat->Prop}{w0 w:World}:∀ {ks:List NK} {x:NT ks} {j:Nat} {m:MapC} {vs:List Value},qDy ks x j=some m->qAt X w0 w ks x vs->∃v,vs[j]?=some v/\qEr X w0 w v m
 | [],x,j,m,vs,h,_=>by simp[qDy] at h
 | .int _::r,x,j,m,vs,h,h1=>qCz (ks:=r) (x:=x.2) (by simpa[qDy] using h) h1
 | .bool::r,x,j,m,vs,h,h1=>qCz (ks:=r) (x:=x.2) (by simpa[qDy] using h) h1
 | .str::r,x,j,m,vs,h,h1=>qCz (ks:=r) (x:=x.2) (by simpa[qDy] using h) h1
 | .map::r,x,0,m,vs,h,⟨v,vs',he,h1,_⟩=>by
  simp only[qDy,snJ] at h;subst h he;exact⟨v,rfl,h1⟩
 | .map::r,x,j+1,m,vs,h,⟨v,vs',he,_,h2⟩=>by
  simp only[qDy] at h;subst he;obtain⟨v',h3,h4⟩:=qCz (ks:=r) (x:=x.2) h h2;exact⟨v',by simpa using h3,h4⟩
 | .rw _::r,x,0,m,vs,h,_=>by simp[qDy] at h
 | .rw _::r,x,j+1,m,vs,h,⟨v,vs',he,_,h2⟩=>by
  simp only[qDy] at h;subst he;obtain⟨v',h3,h4⟩:=qCz (ks:=r) (x:=x.2) h h2;exact⟨v',by simpa using h3,h4⟩
theorem qD3:∀(ks:List NK) (x:NT ks) (j:Nat) (m:MapC) (vs:List Value),qAh ks (nkPut ks x j m) vs=qAh ks x vs
 | [],_,_,_,_=>rfl
 | .int _::r,x,j,m,vs=>by simp only[nkPut,qAh,qD3 r]
 | .bool::r,x,j,m,vs=>by simp only[nkPut,qAh,qD3 r]
 | .str::r,x,j,m,vs=>by simp only[nkPut,qAh,qD3 r]
 | .map::r,x,0,m,vs=>rfl
 | .map::r,x,j+1,m,vs=>by simp only[nkPut,qAh,qD3 r]
 | .rw _::r,x,0,m,vs=>rfl
 | .rw _::r,x,j+1,m,vs=>by simp only[nkPut,qAh,qD3 r]
theorem qD2{X:Nat->Prop}{w0 w w':World}:∀ {ks:List NK} {x:NT ks} {j:Nat} {m m':MapC} {vs:List Value},qDy ks x j=some m->qAt X w0 w ks x vs ->
  (∀j' v,j'≠j->vs[j']?=some v->∀k,fp1 v=some k->Same w w' k)->(∀v,vs[j]?=some v->qEr X w0 w' v m')->qAt X w0 w' ks (nkPut ks x j m') vs
 | [],x,j,m,m',vs,h,_,_,_=>by simp[qDy] at h
 | .int _::r,x,j,m,m',vs,h,h1,h2,h3=>qD2 (ks:=r) (x:=x.2) (by simpa[qDy] using h) h1 h2 h3
 | .bool::r,x,j,m,m',vs,h,h1,h2,h3=>qD2 (ks:=r) (x:=x.2) (by simpa[qDy] using h) h1 h2 h3
 | .str::r,x,j,m,m',vs,h,h1,h2,h3=>qD2 (ks:=r) (x:=x.2) (by simpa[qDy] using h) h1 h2 h3
 | .map::r,x,0,m,m',vs,h,⟨v,vs',he,h1,h1'⟩,h2,h3=>by
  subst he;refine⟨v,vs',rfl,h3 v rfl,qAt.keep (ks:=r) (x:=x.2) h1' λk hk=>?_⟩;obtain⟨v',hv',hf⟩:=List.mem_filterMap.1 hk;obtain⟨i,hi⟩:=List.getElem?_of_mem hv';exact h2 (i+1) v' (by omega) (by simpa using hi) k hf
 | .map::r,x,j+1,m,m',vs,h,⟨v,vs',he,h1,h1'⟩,h2,h3=>by
  subst he;refine⟨v,vs',rfl,h1.keep λk hk=>h2 0 v (by omega) rfl k hk,qD2 (ks:=r) (x:=x.2) (by simpa[qDy] using h) h1' (λj' v' hj hv=>h2 (j'+1) v' (by omega) (by simpa using hv)) λv' hv=>h3 v' (by simpa using hv)⟩
 | .rw _::r,x,0,m,m',vs,h,_,_,_=>by simp[qDy] at h
 | .rw _::r,x,j+1,m,m',vs,h,⟨v,vs',he,h1,h1'⟩,h2,h3=>by
  subst he;refine⟨v,vs',rfl,h1.keep λk hk=>h2 0 v (by omega) rfl k hk,qD2 (ks:=r) (x:=x.2) (by simpa[qDy] using h) h1' (λj' v' hj hv=>h2 (j'+1) v' (by omega) (by simpa using hv)) λv' hv=>h3 v' (by simpa using hv)⟩
theorem qC0{X:Nat->Prop}{w0 w:World}:∀ {ks:List NK} {x:NT ks} {j:Nat} {sb:SB} {vs:List Value},qBp ks x j=some sb->qAt X w0 w ks x vs->∃v q,∃l:List q.T,vs[j]?=some v/\sb=.view q.et (q.l l)/\RowAt X w0 w q v l
 | [],x,j,sb,vs,h,_=>by simp[qBp] at h
 | .int _::r,x,j,sb,vs,h,h1=>qC0 (ks:=r) (x:=x.2) (by simpa[qBp] using h) h1
 | .bool::r,x,j,sb,vs,h,h1=>qC0 (ks:=r) (x:=x.2) (by simpa[qBp] using h) h1
 | .str::r,x,j,sb,vs,h,h1=>qC0 (ks:=r) (x:=x.2) (by simpa[qBp] using h) h1
 | .map::r,x,0,sb,vs,h,_=>by simp[qBp] at h
 | .map::r,x,j+1,sb,vs,h,⟨v,vs',he,_,h2⟩=>by
  simp only[qBp] at h;subst he;obtain⟨v',q,l,h3,h4⟩:=qC0 (ks:=r) (x:=x.2) h h2;exact⟨v',q,l,by simpa using h3,h4⟩
 | .rw q::r,x,0,sb,vs,h,⟨v,vs',he,h1,_⟩=>by
  simp only[qBp,snJ] at h;subst he;exact⟨v,q,x.1,rfl,h.symm,h1⟩
 | .rw _::r,x,j+1,sb,vs,h,⟨v,vs',he,_,h2⟩=>by
  simp only[qBp] at h;subst he;obtain⟨v',q,l,h3,h4⟩:=qC0 (ks:=r) (x:=x.2) h h2;exact⟨v',q,l,by simpa using h3,h4⟩
theorem qDx{rs:List (List Value)}{b:Nat}:b∈(rs.flatMap λr=>r.filterMap fp1)↔∃i j v,qBo rs i j=some v/\fp1 v=some b:=by
 constructor
 ·intro h;obtain⟨r,hr,h1⟩:=List.mem_flatMap.1 h;obtain⟨v,hv,hf⟩:=List.mem_filterMap.1 h1;obtain⟨i,hi⟩:=List.getElem?_of_mem hr;obtain⟨j,hj⟩:=List.getElem?_of_mem hv;exact⟨i,j,v,by simp only[qBo,hi,obS,hj],hf⟩
 ·rintro ⟨i,j,v,h,hf⟩
  unfold qBo at h;obtain⟨r,hr,hj⟩:=Option.bind_eq_some_iff.1 h;exact List.mem_flatMap.2 ⟨r,List.mem_of_getElem? hr,List.mem_filterMap.2 ⟨v,List.mem_of_getElem? hj,hf⟩⟩
theorem qCo{u:Value}{rs:List (List Value)}{b:Nat}(hu:∃ad n c,u=.slice ad n c):b∈fp (bagV u rs)↔u.ownBlock=some b\/∃i j v,qBo rs i j=some v/\fp1 v=some b:=by
 obtain⟨ad,n,c,rfl⟩:=hu;rw[fp_bag,List.mem_append,qDx];cases ad with
 | none=>simp[fpI,fp1,Value.ownBlock]
 | some a=>simp[fpI,fp1,Value.ownBlock,eq_comm]
theorem qAr.turn{X:Nat->Prop}{w0 w w':World}{ks:List NK}{y:NT ks}:∀ {l:List (NT ks)} {rs:List (List Value)} {i:Nat},qAr X w0 w ks l rs ->
  (∀r,rs[i]?=some r->qAt X w0 w' ks y r)->(∀i' j v,i'≠i->qBo rs i' j=some v->∀k,fp1 v=some k->Same w w' k)->qAr X w0 w' ks (l.set i y) rs
 | [],[],i,h,_,_=>trivial
 | x::l,r::rs,0,h,h1,h2=>⟨h1 r rfl,h.2.keep λk hk=>by
   obtain⟨i,j,v,h3,h4⟩:=qDx.1 hk;exact h2 (i+1) j v (by omega) (by simpa[qBo] using h3) k h4⟩
 | x::l,r::rs,i+1,h,h1,h2=>⟨h.1.keep λk hk=>by
   obtain⟨v,hv,hf⟩:=List.mem_filterMap.1 hk;obtain⟨j,hj⟩:=List.getElem?_of_mem hv;exact h2 0 j v (by omega) (by simpa[qBo] using hj) k hf,qAr.turn h.2 (λr' hr=>h1 r' (by simpa using hr)) λi' j v hi hv=>h2 (i'+1) j v (by omega) (by simpa[qBo] using hv)⟩
 | [],_::_,_,h,_,_=>h.elim
 | _::_,[],_,h,_,_=>h.elim
theorem qAr.append{X:Nat->Prop}{w0 w:World}{ks:List NK}{m:List (NT ks)}{qs:List (List Value)}(h2:qAr X w0 w ks m qs):∀ {l:List (NT ks)} {rs:List (List Value)},qAr X w0 w ks l rs->qAr X w0 w ks (l++m) (rs++qs)
 | [],[],_=>h2
 | x::l,r::rs,h=>⟨h.1,qAr.append h2 h.2⟩
 | [],_::_,h=>h.elim
 | _::_,[],h=>h.elim
theorem qAr.take{X:Nat->Prop}{w0 w:World}{ks:List NK}:∀ {l:List (NT ks)} {rs:List (List Value)} (n:Nat),qAr X w0 w ks l rs->qAr X w0 w ks (l.take n) (rs.take n)
 | [],[],n,_=>by simp[qAr]
 | x::l,r::rs,0,h=>trivial
 | x::l,r::rs,n+1,h=>⟨h.1,qAr.take n h.2⟩
 | [],_::_,_,h=>h.elim
 | _::_,[],_,h=>h.elim
theorem refAt_take{rs:List (List Value)}{n i j:Nat}{v:Value}(h:qBo (rs.take n) i j=some v):qBo rs i j=some v:=by
 unfold qBo at h ⊢;obtain⟨r,hr,hj⟩:=Option.bind_eq_some_iff.1 h;rw[List.getElem?_take] at hr;split at hr
 ·rw[hr];exact hj
 ·cases hr
theorem qEl{rs qs:List (List Value)}{i j:Nat}{v:Value}(h:qBo (rs++qs) i j=some v):(i<rs.length/\qBo rs i j=some v)\/(rs.length<=i/\qBo qs (i - rs.length) j=some v):=by
 unfold qBo at h ⊢;by_cases hi:i<rs.length
 ·rw[List.getElem?_append_left hi] at h;exact .inl ⟨hi,h⟩
 ·rw[List.getElem?_append_right (by omega)] at h;exact .inr ⟨by omega,h⟩
theorem toList_beq'(x y:BA):(x == y)=decide (x=y):=by
 show(x.data == y.data)=_;by_cases h:x=y
 ·subst h;simp
 ·have:¬x.data=y.data:=λe=>h (ByteArray.ext e)
  rw[deF h];simpa using this
theorem findNow_ents:∀ {es:List MapEntry} {m:List (BA × Int)},(es.map λe=>(e.key,e.val))=(m.map λx=>(Value.string x.1,Value.int .i64 x.2))->∀(s:BA) (i:Nat),
  (mfind m s=none/\Instr.findNow .string (.string s) es i=some none/\mset m s=λv=>m++[(s,v)]) \/
  (∃v j e,mfind m s=some v/\Instr.findNow .string (.string s) es i=some (some (i+j,.int .i64 v))/\es[j]?=some e/\e.key=.string s/\∀v',mset m s v'=m.set j (s,v'))
 | [],[],_,s,i=>.inl ⟨rfl,rfl,rfl⟩
 | e::es,x::m,h,s,i=>by
  simp only[List.map_cons,List.cons.injEq,Prod.mk.injEq] at h;obtain⟨⟨hk,hv⟩,h⟩:=h;by_cases hs:s=x.1
  ·refine .inr ⟨x.2,0,e,by simp[mfind,hs],?_,rfl,by rw[hk,hs],λv'=>by simp[mset,hs]⟩;simp only[Instr.findNow,hk,Instr.sameNow,toList_beq',hs,decide_true,hv,Nat.add_zero]
  ·have hd:decide (s=x.1)=false:=by simp[hs]
   rcases findNow_ents h s (i+1) with⟨h1,h2,h3⟩ | ⟨v,j,e',h1,h2,h3,h4,h5⟩
   ·refine .inl ⟨by simp[mfind,hd,h1],?_,?_⟩
    ·simp only[Instr.findNow,hk,Instr.sameNow,toList_beq',hd,h2]
    ·funext v
     simp[mset,hd,h3]
   ·refine .inr ⟨v,j+1,e',by simp[mfind,hd,h1],?_,by simpa using h3,h4,λv'=>by simp[mset,hd,h5]⟩;simp only[Instr.findNow,hk,Instr.sameNow,toList_beq',hd,h2];rw[show i+1+j=i+(j+1) by omega]
 | [],_::_,h,_,_=>by simp at h
 | _::_,[],h,_,_=>by simp at h
theorem killL_len:∀(hs:List Nat) (hp:List SB),(killL hs hp).length=hp.length
 | [],hp=>rfl
 | h::r,hp=>by simp only[killL,killL_len r,List.length_set]
theorem killL_at:∀(hs:List Nat) (hp:List SB) (i:Nat) (sb:SB),(killL hs hp)[i]?=some sb->sb=.dead\/(hp[i]?=some sb/\¬i∈hs)
 | [],hp,i,sb,h=>.inr ⟨h,by simp⟩
 | x::r,hp,i,sb,h=>by
  rcases killL_at r _ i sb h with rfl | ⟨h1,h2⟩
  ·exact .inl rfl
  ·by_cases hx:i=x
   ·subst hx;have hl:i<hp.length:=by
     have:=(List.getElem?_eq_some_iff.1 h1).1;simpa using this
    rw[List.getElem?_set_self hl] at h1;exact .inl (Option.some.inj h1).symm
   ·rw[List.getElem?_set_ne (Ne.symm hx)] at h1;exact .inr ⟨h1,by simp only[List.mem_cons,not_or];exact⟨hx,h2⟩⟩
theorem HpSat.killL{X:Nat->Prop}{w0 w:World}{Z:Nat->Value}:∀ {hs:List Nat} {hp:List SB},HpSat X w0 w Z hp->HpSat X w0 w Z (killL hs hp)
 | [],_,h=>h
 | x::r,_,h=>HpSat.killL (hs:=r) (h.kill x)
theorem sb_push{X:Nat->Prop}{w0 w w':World}{Z:Nat->Value}{hp:List SB}(h:HpSat X w0 w Z hp)(hs:List Nat)(sb:SB)(V:Value)(hV:qBs V)
  (hv:∀k,k<w0.heap.size->¬X k->Same w w' k) (hz:∀k,Froz w k->Same w w' k)
  (hl:∀(i:Nat) (sb:SB) (k:Nat),¬i∈hs->hp[i]?=some sb->sb.ex=true->k∈fp (Z i)->Same w w' k)
  (hsat:∀Z',(∀i<hp.length,Z' i=Z i)->sb.sat X w0 w' Z' V) (hlt:sb.lt (hp.length+1))
  (hf:∀b∈fp V,w.heap.size<=b\/∃i∈hs,∃sb,hp[i]?=some sb/\sb.ex=true/\b∈fp (Z i)) :
  ∃Z',(∀i<hp.length,Z' i=Z i)/\Z' hp.length=V/\HpSat X w0 w' Z' (Go.Eng.killL hs hp++[sb]):=by
 have hlen:=killL_len hs hp;have hr:∀i<hp.length,(λi=>if i=hp.length then V else Z i) i=Z i:=λi hi=>by
  have:¬i=hp.length:=by omega
  simp[this]
 refine⟨λi=>if i=hp.length then V else Z i,hr,by simp,?_⟩;refine(h.killL (hs:=hs)).push sb (by rw[hlen];exact hr) hv hz (λi sb k hi hx hk=>?_) ?_ (by rw[hlen];exact hlt) ?_ ?_
 ·rcases killL_at hs hp i sb hi with rfl | ⟨h1,h2⟩
  ·cases hx
  ·exact hl i sb k h2 h1 hx hk
 ·rw[hlen];have:=hsat _ hr;simpa using this
 ·rw[hlen];simpa using hV
 ·rw[hlen];simp only[if_true];intro _ b hb' i sb' hi hx hk;rcases killL_at hs hp i sb' hi with rfl | ⟨h1,h2⟩
  ·cases hx
  ·rcases hf b hb' with hge | ⟨j,hj,sb,hsb,hx',hkb⟩
   ·have:=(h.fp_lt h1 hx hk).1;omega
   ·exact h.apart i j sb' sb b (λe=>h2 (by rw[e];exact hj)) h1 hsb hx hx' hk hkb
theorem bag_push{X:Nat->Prop}{w0 w w':World}{Z:Nat->Value}{hp:List SB}(h:HpSat X w0 w Z hp)(hs:List Nat){ks:List NK}{e:Nat}{l:List (NT ks)}{u:Value}{rs:List (List Value)}
  (hv:∀k,k<w0.heap.size->¬X k->Same w w' k) (hz:∀k,Froz w k->Same w w' k)
  (hl:∀(i:Nat) (sb:SB) (k:Nat),¬i∈hs->hp[i]?=some sb->sb.ex=true->k∈fp (Z i)->Same w w' k)
  (hb:BagOK X w0 w' ks e l u rs)
  (hf:∀b∈fp (bagV u rs),w.heap.size<=b\/∃i∈hs,∃sb,hp[i]?=some sb/\sb.ex=true/\b∈fp (Z i)) :
  ∃Z',(∀i<hp.length,Z' i=Z i)/\Z' hp.length=bagV u rs/\HpSat X w0 w' Z' (Go.Eng.killL hs hp++[.bag ks e l]):=by
 have hlen:=killL_len hs hp;have hr:∀i<hp.length,(λi=>if i=hp.length then bagV u rs else Z i) i=Z i:=λi hi=>by
  have:¬i=hp.length:=by omega
  simp[this]
 refine⟨λi=>if i=hp.length then bagV u rs else Z i,hr,by simp,?_⟩;refine(h.killL (hs:=hs)).push (.bag ks e l) (by rw[hlen];exact hr) hv hz (λi sb k hi hx hk=>?_) ?_ trivial ?_ ?_
 ·rcases killL_at hs hp i sb hi with rfl | ⟨h1,h2⟩
  ·cases hx
  ·exact hl i sb k h2 h1 hx hk
 ·rw[hlen];simp only[if_true];exact⟨u,rs,rfl,hb⟩
 ·rw[hlen];simp only[if_true];trivial
 ·rw[hlen];simp only[if_true];intro _ b hb' i sb' hi hx hk;rcases killL_at hs hp i sb' hi with rfl | ⟨h1,h2⟩
  ·cases hx
  ·rcases hf b hb' with hge | ⟨j,hj,sb,hsb,hx',hkb⟩
   ·have:=(h.fp_lt h1 hx hk).1;omega
   ·exact h.apart i j sb' sb b (λe=>h2 (by rw[e];exact hj)) h1 hsb hx hx' hk hkb
theorem nodupN_cons{x:Nat}{r:List Nat}(h:nodupN (x::r)=true):¬x∈r/\nodupN r=true:=by
 simp only[nodupN] at h;cases ha:r.all (λy=>bif Nat.beq x y then false else true) with
 | false=>rw[ha] at h;simp at h
 | true =>
  rw[ha] at h;refine⟨λhx=>?_,h⟩;have:=List.all_eq_true.1 ha x hx;simp at this
theorem nilRow{X:Nat->Prop}{w0 w:World}(q:QK):RowAt X w0 w q (.slice none 0 0) []:=by
 cases q
 ·exact⟨⟨0,by decide,.inl ⟨rfl,rfl⟩⟩,λb hb=>by cases hb⟩
 ·exact⟨⟨0,by decide,.inl ⟨rfl,rfl⟩⟩,λb hb=>by cases hb⟩
theorem qBy{X:Nat->Prop}{w0 w:World}{Z:Nat->Value}{hp:List SB}(h:HpSat X w0 w Z hp):∀ {ks:List NK} {l:List S0} {x:NT ks} {hs:List Nat},qBv hp ks l=some (x,hs)->nodupN hs=true ->
  ∃r:List Value,qAh ks x r=l.map (S0.den Z)/\qAt X w0 w ks x r/\(∀(j:Nat) (v:Value) (b:Nat),r[j]?=some v->fp1 v=some b->∃i∈hs,b∈fp (Z i)) /\
   (∀(j j':Nat) (v v':Value) (b:Nat),r[j]?=some v->r[j']?=some v'->fp1 v=some b->fp1 v'=some b->j=j')/\∀i∈hs,∃m,hp[i]?=some m/\m.ex=true
 | [],[],x,hs,ht,_=>by
  simp only[qBv,snJ,Prod.mk.injEq] at ht;obtain⟨_,rfl⟩:=ht;exact⟨[],rfl,rfl,by simp,by simp,by simp⟩
 | [],_::_,x,hs,ht,_=>by simp[qBv] at ht
 | _::_,[],x,hs,ht,_=>by simp[qBv] at ht
 | .int q::r,v::l,x,hs,ht,hn=>by
  simp only[qBv] at ht;split at ht
  ·rename_i q2 n y hs' hy;cases hq:decide (q2=q) with
   | false=>rw[hq] at ht;simp at ht
   | true =>
    rw[hq] at ht;simp only[cnT,snJ,Prod.mk.injEq] at ht;obtain⟨rfl,rfl⟩:=ht;have:=of_decide_eq_true hq;subst this;obtain⟨r1,h1,h2,h3⟩:=qBy h hy hn;exact⟨r1,by simp only[qAh,List.map_cons,h1,S0.den],h2,h3⟩
  ·cases ht
 | .bool::r,v::l,x,hs,ht,hn=>by
  simp only[qBv] at ht;split at ht
  ·rename_i b y hs' hy;simp only[snJ,Prod.mk.injEq] at ht;obtain⟨rfl,rfl⟩:=ht;obtain⟨r1,h1,h2,h3⟩:=qBy h hy hn;exact⟨r1,by simp only[qAh,List.map_cons,h1,S0.den],h2,h3⟩
  ·cases ht
 | .str::r,v::l,x,hs,ht,hn=>by
  simp only[qBv] at ht;split at ht
  ·rename_i b y hs' hy;simp only[snJ,Prod.mk.injEq] at ht;obtain⟨rfl,rfl⟩:=ht;obtain⟨r1,h1,h2,h3⟩:=qBy h hy hn;exact⟨r1,by simp only[qAh,List.map_cons,h1,S0.den],h2,h3⟩
  ·cases ht
 | .map::r,v::l,x,hs,ht,hn=>by
  simp only[qBv] at ht;split at ht
  ·rename_i y hs' hy;simp only[snJ,Prod.mk.injEq] at ht;obtain⟨rfl,rfl⟩:=ht;obtain⟨r1,h1,h2,h3,h4,h5⟩:=qBy h hy hn;refine⟨.map none::r1,by simp only[qAh,List.map_cons,h1,S0.den,List.headD_cons,List.tail_cons],⟨_,_,rfl,rfl,h2⟩,λj v b hj hf=>?_,λj j' v v' b hj hj' hf hf'=>?_,h5⟩
   ·cases j with
    | zero=>simp at hj;subst hj;simp[fp1] at hf
    | succ j=>exact h3 j v b (by simpa using hj) hf
   ·cases j with
    | zero=>simp at hj;subst hj;simp[fp1] at hf
    | succ j =>
     cases j' with
     | zero=>simp at hj';subst hj';simp[fp1] at hf'
     | succ j'=>rw[h4 j j' v v' b (by simpa using hj) (by simpa using hj') hf hf']
  ·rename_i hh y hs' hy;split at ht
   ·rename_i m hsb;simp only[snJ,Prod.mk.injEq] at ht;obtain⟨rfl,rfl⟩:=ht;obtain⟨hn1,hn2⟩:=nodupN_cons hn;obtain⟨r1,h1,h2,h3,h4,h5⟩:=qBy h hy hn2;have hm:qEr X w0 w (Z hh) m:=h.sat hh _ hsb;have hfpm:∀b,fp1 (Z hh)=some b->b∈fp (Z hh):=λb hb=>by
     cases hr:Z hh <;> rw[hr] at hb <;> simp only[fp1,reduceCtorEq] at hb <;> simp_all [fp,fp1]
    have hcross:∀j v b,r1[j]?=some v->fp1 (Z hh)=some b->fp1 v=some b->False:=λj v b hj hf hf'=>by
     obtain⟨i,hi,hbi⟩:=h3 j v b hj hf';obtain⟨m',hm',hx'⟩:=h5 i hi;exact h.apart hh i _ _ b (λe=>hn1 (by rw[e];exact hi)) hsb hm' rfl hx' (hfpm b hf) hbi
    refine⟨Z hh::r1,by simp only[qAh,List.map_cons,h1,S0.den,List.headD_cons,List.tail_cons],⟨_,_,rfl,hm,h2⟩,λj v b hj hf=>?_,λj j' v v' b hj hj' hf hf'=>?_,λi hi=>?_⟩
    ·cases j with
     | zero=>simp at hj;subst hj;exact⟨hh,by simp,hfpm b hf⟩
     | succ j =>
      obtain⟨i,hi,hb⟩:=h3 j v b (by simpa using hj) hf;exact⟨i,by simp[hi],hb⟩
    ·cases j with
     | zero =>
      cases j' with
      | zero=>rfl
      | succ j' =>
       simp at hj;subst hj;exact(hcross j' v' b (by simpa using hj') hf hf').elim
     | succ j =>
      cases j' with
      | zero =>
       simp at hj';subst hj';exact(hcross j v b (by simpa using hj) hf' hf).elim
      | succ j'=>rw[h4 j j' v v' b (by simpa using hj) (by simpa using hj') hf hf']
    ·rcases List.mem_cons.1 hi with rfl | hi
     ·exact⟨_,hsb,rfl⟩
     ·exact h5 i hi
   ·cases ht
  ·cases ht
 | .rw q::r,v::l,x,hs,ht,hn=>by
  simp only[qBv] at ht;split at ht
  ·rename_i y hs' hy;simp only[snJ,Prod.mk.injEq] at ht;obtain⟨rfl,rfl⟩:=ht;obtain⟨r1,h1,h2,h3,h4,h5⟩:=qBy h hy hn;refine⟨.slice none 0 0::r1,by simp only[qAh,List.map_cons,h1,S0.den,List.headD_cons,List.tail_cons],⟨_,_,rfl,nilRow q,h2⟩,λj v b hj hf=>?_,λj j' v v' b hj hj' hf hf'=>?_,h5⟩
   ·cases j with
    | zero=>simp at hj;subst hj;simp[fp1] at hf
    | succ j=>exact h3 j v b (by simpa using hj) hf
   ·cases j with
    | zero=>simp at hj;subst hj;simp[fp1] at hf
    | succ j =>
     cases j' with
     | zero=>simp at hj';subst hj';simp[fp1] at hf'
     | succ j'=>rw[h4 j j' v v' b (by simpa using hj) (by simpa using hj') hf hf']
  ·rename_i hh y hs' hy;split at ht
   ·rename_i m hm0;obtain⟨sb0,hsb,hq⟩:=Option.bind_eq_some_iff.1 hm0;obtain⟨e0,rfl⟩:=QK.take_eq hq;simp only[snJ,Prod.mk.injEq] at ht;obtain⟨rfl,rfl⟩:=ht;obtain⟨hn1,hn2⟩:=nodupN_cons hn;obtain⟨r1,h1,h2,h3,h4,h5⟩:=qBy h hy hn2;have hm:RowAt X w0 w q (Z hh) m:=⟨⟨e0,(h.sat hh _ hsb).1⟩,(h.sat hh _ hsb).2⟩;have hfpm:∀b,fp1 (Z hh)=some b->b∈fp (Z hh):=λb hb=>by
     cases hr:Z hh <;> rw[hr] at hb <;> simp only[fp1,reduceCtorEq] at hb <;> simp_all [fp,fp1]
    have hcross:∀j v b,r1[j]?=some v->fp1 (Z hh)=some b->fp1 v=some b->False:=λj v b hj hf hf'=>by
     obtain⟨i,hi,hbi⟩:=h3 j v b hj hf';obtain⟨m',hm',hx'⟩:=h5 i hi;exact h.apart hh i _ _ b (λe=>hn1 (by rw[e];exact hi)) hsb hm' rfl hx' (hfpm b hf) hbi
    refine⟨Z hh::r1,by simp only[qAh,List.map_cons,h1,S0.den,List.headD_cons,List.tail_cons],⟨_,_,rfl,hm,h2⟩,λj v b hj hf=>?_,λj j' v v' b hj hj' hf hf'=>?_,λi hi=>?_⟩
    ·cases j with
     | zero=>simp at hj;subst hj;exact⟨hh,by simp,hfpm b hf⟩
     | succ j =>
      obtain⟨i,hi,hb⟩:=h3 j v b (by simpa using hj) hf;exact⟨i,by simp[hi],hb⟩
    ·cases j with
     | zero =>
      cases j' with
      | zero=>rfl
      | succ j' =>
       simp at hj;subst hj;exact(hcross j' v' b (by simpa using hj') hf hf').elim
     | succ j =>
      cases j' with
      | zero =>
       simp at hj';subst hj';exact(hcross j v b (by simpa using hj) hf' hf).elim
      | succ j'=>rw[h4 j j' v v' b (by simpa using hj) (by simpa using hj') hf hf']
    ·rcases List.mem_cons.1 hi with rfl | hi
     ·exact⟨_,hsb,rfl⟩
     ·exact h5 i hi
   ·cases ht
  ·cases ht
theorem qEr.excl{X X':Nat->Prop}{w0 w0' w:World}{v:Value}:∀ {m:MapC},qEr X w0 w v m->(∀b,fp1 v=some b->Excl X w0 b->Excl X' w0' b)->qEr X' w0' w v m
 | none,h,_=>h
 | some m,⟨b,es,c,hv,hb,he,hx⟩,hk=>⟨b,es,c,hv,hb,he,hk b (by rw[hv];rfl) hx⟩
theorem RowAt.excl{X X':Nat->Prop}{w0 w0' w:World}{q:QK}{v:Value}{l:List q.T}(h:RowAt X w0 w q v l)(hk:∀b,fp1 v=some b->Excl X w0 b->Excl X' w0' b):RowAt X' w0' w q v l:=⟨h.1,λb hb=>hk b (fp1_own hb) (h.2 b hb)⟩
theorem qAt.excl{X X':Nat->Prop}{w0 w0' w:World}:∀ {ks:List NK} {x:NT ks} {vs:List Value},qAt X w0 w ks x vs->(∀b∈vs.filterMap fp1,Excl X w0 b->Excl X' w0' b)->qAt X' w0' w ks x vs
 | [],_,_,h,_=>h
 | .int _::r,x,_,h,hk=>qAt.excl (ks:=r) (x:=x.2) h hk
 | .bool::r,x,_,h,hk=>qAt.excl (ks:=r) (x:=x.2) h hk
 | .str::r,x,_,h,hk=>qAt.excl (ks:=r) (x:=x.2) h hk
 | .map::r,x,_,⟨v,vs',rfl,h1,h2⟩,hk=>by
  refine⟨v,vs',rfl,h1.excl λk hf=>hk k ?_,qAt.excl (ks:=r) (x:=x.2) h2 λk hf=>hk k ?_⟩
  ·simp only[List.filterMap_cons,hf,List.mem_cons,true_or]
  ·simp only[List.filterMap_cons];split
   ·exact hf
   ·exact List.mem_cons.2 (.inr hf)
 | .rw _::r,x,_,⟨v,vs',rfl,h1,h2⟩,hk=>by
  refine⟨v,vs',rfl,h1.excl λk hf=>hk k ?_,qAt.excl (ks:=r) (x:=x.2) h2 λk hf=>hk k ?_⟩
  ·simp only[List.filterMap_cons,hf,List.mem_cons,true_or]
  ·simp only[List.filterMap_cons];split
   ·exact hf
   ·exact List.mem_cons.2 (.inr hf)
theorem qAr.excl{X X':Nat->Prop}{w0 w0' w:World}{ks:List NK}:∀ {l:List (NT ks)} {rs:List (List Value)},qAr X w0 w ks l rs->(∀b∈rs.flatMap (λr=>r.filterMap fp1),Excl X w0 b->Excl X' w0' b)->qAr X' w0' w ks l rs
 | [],[],h,_=>trivial
 | x::l,r::rs,h,hk=>⟨h.1.excl λk hf=>hk k (by simp only[List.flatMap_cons,List.mem_append];exact .inl hf),qAr.excl h.2 λk hf=>hk k (by simp only[List.flatMap_cons,List.mem_append];exact .inr hf)⟩
 | [],_::_,h,_=>h.elim
 | _::_,[],h,_=>h.elim
theorem BagOK.exclude{X X':Nat->Prop}{w0 w0' w:World}{ks:List NK}{e:Nat}{l:List (NT ks)}{u:Value}{rs:List (List Value)}(h:BagOK X w0 w ks e l u rs)(hk:∀b∈fp (bagV u rs),Excl X w0 b->Excl X' w0' b):BagOK X' w0' w ks e l u rs:=by
 have hs:∃ad n c,u=.slice ad n c:=by obtain⟨_,_,h1⟩:=h.slice;exact⟨_,_,_,h1⟩
 exact⟨h.row,λb hb=>hk b ((qCo hs).2 (.inl hb)) (h.excl b hb),h.refs.excl λb hb=>hk b ((qCo hs).2 (.inr (qDx.1 hb))),h.uniq,h.alone,h.pos⟩
theorem fp_of_fp1{v:Value}{b:Nat}(h:fp1 v=some b):b∈fp v:=by
 cases v with
 | pointer a=>cases a <;> simp_all [fp,fp1]
 | slice a n c=>cases a <;> simp_all [fp,fp1]
 | map r=>cases r <;> simp_all [fp,fp1]
 | _=>all_goals simp[fp1] at h
end Go.Eng
