/-
  Texts of a claim.
-/
import Derived.OrdersHeld
import Derived.Test.YtpobbbpphnnnhaaGreatDoorEngV
namespace Go.Eng
set_option linter.unusedVariables false
set_option linter.unusedSimpArgs false
section
variable {P:Program} {ops:Array Oper} {Q:Exit→Act→World→Prop} {md:Region.Mode} {S:Array Bool→World→Prop}
def qDy (P:Program) (md:Region.Mode) (ops:Array Oper) (Q:Exit→Act→World→Prop) (S:Array Bool→World→Prop):Nat→Array Bool→Act→World→Prop
 | 0,listed,a,w=>Region.ready md ops listed=[]∧Q .normal a w
 | fuel+1,listed,a,w =>
  (Region.ready md ops listed=[]→Q .normal a w) ∧
  ∀i∈Region.ready md ops listed,wpOp P ops Q i (fun a' w'=>S (listed.setIfInBounds i true) w'∧qDy P md ops Q S fuel (listed.setIfInBounds i true) a' w') a w
theorem wpAny_of_L:∀(fuel:Nat) (listed:Array Bool) (a:Act) (w:World),qDy P md ops Q S fuel listed a w→wpAny P md ops Q fuel listed a w
 | 0,_,_,_,h=>h
 | fuel+1,_,_,_,h=>⟨h.1,fun i hi=>wpOp_mono (fun a' w' h'=>wpAny_of_L fuel _ a' w' h'.2) (h.2 i hi)⟩
theorem qC0 {i:Nat} {oi:Oper} {v:Value} (hi:ops[i]?=some oi) (hsel:∀(j:Nat) (o:Oper) cs b,ops[j]?=some o→o.op≠.select cs b)
  (hQ:∀c a w,Q (.panic c) (a.put oi.dst v) w→Q (.panic c) a w) (T:Array Bool→Prop)
  (hT:∀l j,T l→j∈Region.ready md ops l→j≠i→T (l.setIfInBounds j true)) (hS:∀l w,S (l.setIfInBounds i true) w↔S l w) :
  ∀(fuel:Nat) (listed:Array Bool) (a:Act) (w:World),T listed →
   (∀j oj,ops[j]?=some oj→j≠i→listed.getD j true=false→(∀e∈oj.after,Region.binds md e=true→e.on≠i)→oi.apart ops oj=true) →
   i∈Region.ready md ops listed→YieldsIf P ops (fun w=>∃l,T l∧S l w) oi v a→S listed w →
   qDy P md ops Q S fuel (listed.setIfInBounds i true) (a.put oi.dst v) w→qDy P md ops Q S (fuel+1) listed a w:=by
 intro fuel;induction fuel with
 | zero =>
  intro listed a w hTl _ hr hy hSw H;refine ⟨fun h=>(by rw [h] at hr; cases hr),fun j hj=>?_⟩;by_cases hji:j=i
  ·subst hji; exact hy.wpOp hi ⟨listed,hTl,hSw⟩ ⟨(hS _ _).2 hSw,H⟩
  ·have:=ready_mono hj hji;rw [H.1] at this;cases this
 | succ fuel ih =>
  intro listed a w hTl hfree hr hy hSw H;refine ⟨fun h=>(by rw [h] at hr; cases hr),fun j hj=>?_⟩;by_cases hji:j=i
  ·subst hji; exact hy.wpOp hi ⟨listed,hTl,hSw⟩ ⟨(hS _ _).2 hSw,H⟩
  ·have h1:=H.2 j (ready_mono hj hji);obtain ⟨hjun,oj,hoj,hall⟩:=mem_ready.1 hj;have hnot:∀e∈oj.after,Region.binds md e=true→e.on≠i:=fun e he hb heq=>by
    have h1:=hall e he hb;have h0:=(mem_ready.1 hr).1;rw [heq] at h1;rcases Nat.lt_or_ge i listed.size with h' | h'
    ·simp [h'] at h0 h1; rw [h0] at h1; cases h1
    ·simp [Array.getElem?_eq_none h'] at h1
   have h2:=wpOp_putIf hoj (hfree j oj hoj hji hjun hnot) (fun cs b=>hsel i oi cs b hi) (fun cs b=>hsel j oj cs b hoj) hQ hy h1;have hfree':∀k ok,ops[k]?=some ok→k≠i→(listed.setIfInBounds j true).getD k true=false →
     (∀e∈ok.after,Region.binds md e=true→e.on≠i)→oi.apart ops ok=true:=fun k ok hk hki hun hno=>by
    refine hfree k ok hk hki ?_ hno;by_cases hjk:j=k
    ·subst hjk; exact hjun
    ·rw [getD_set_ne true hjk] at hun; exact hun
   refine wpOp_mono (fun a' w' h3=>?_) h2;obtain ⟨hy',hS',hW⟩:=h3;rw [Array.setIfInBounds_comm _ _ (Ne.symm hji)] at hS';have hSj:=(hS _ _).1 hS';refine ⟨hSj,ih (listed.setIfInBounds j true) a' w' (hT _ _ hTl hj hji) hfree' (ready_mono hr (Ne.symm hji)) hy' hSj ?_⟩;rw [Array.setIfInBounds_comm _ _ hji];exact hW
def qCh (ops:Array Oper) (l:Array Bool):Prop:=∀(j:Nat) (o:Oper),l.getD j false=true→ops[j]?=some o→∀e∈o.after,Region.binds .any e=true→l.getD e.on false=true
theorem qCh.set {l:Array Bool} {j:Nat} (h:qCh ops l) (hj:j∈Region.ready .any ops l):qCh ops (l.setIfInBounds j true):=by
 obtain ⟨_,oj,hoj,hall⟩:=mem_ready.1 hj;intro k o hk ho e he hb;by_cases hjk:j=k
 ·subst hjk;rw [hoj] at ho;cases ho;exact getD_set_true (hall e he hb)
 ·rw [getD_set_ne false hjk] at hk;exact getD_set_true (h k o hk ho e he hb)
theorem qCh.anc {l:Array Bool} (h:qCh ops l):∀(f b i:Nat),l.getD b false=true→Eng.anc ops f b i=true→l.getD i false=true
 | 0,b,i,_,h2=>by simp [Eng.anc] at h2
 | f+1,b,i,hb,h2=>by
  simp only [Eng.anc] at h2;split at h2
  ·rename_i o ho;obtain ⟨e,he,hh⟩:=List.any_eq_true.1 h2;simp only [Bool.and_eq_true,Bool.or_eq_true,beq_iff_eq] at hh;have hl:=h b o hb ho e (by simpa using he) hh.1;rcases hh.2 with rfl | hh
   ·exact hl
   ·exact qCh.anc h f e.on i hl hh
  ·cases h2
def left (L:Array Bool):Nat:=L.toList.countP fun b=>!b
theorem left_set {L:Array Bool} {k:Nat} (h:k<L.size) (hk:L.getD k false=false):left (L.setIfInBounds k true)+1=left L:=by
 unfold left;have hk':L.toList[k]'(by simpa using h)=false:=by simpa [Array.getD_eq_getD_getElem?,h] using hk
 rw [Array.toList_setIfInBounds,List.countP_set (by simpa using h)];simp only [hk',Bool.not_false,if_true,Bool.not_true,Bool.false_eq_true,if_false,Nat.add_zero];have:0<L.toList.countP fun b=>!b:=List.countP_pos_iff.2 ⟨false,by rw [←hk']; exact List.getElem_mem _,rfl⟩
 omega
end
def qBk (Γ:Nat→Option Con) (nv nt:Nat) (hp0:List SB):List IOp→St→(St→Prop)→Prop
 | [],S,K=>K S
 | o::r,S,K=>match actOf S o.g with
  | some act=>(¬act∧dstOk nt o.d∧qBk Γ nv nt hp0 r (putD nv S o.d act (.c (.o (.val (.bool false)))) S.hp) K)∨match o.p with
   | .load n a=>match argE S act a with
    | some (p,.c (.o s))=>match owe p act (loadR hp0 n s) with
     | .quiet p v=>dstOk nt o.d∧s.ltB hp0.length=true∧p∧qBk Γ nv nt hp0 r (putD nv S o.d act v S.hp) K
     | _=>False
    | _=>False
   | .call f xs=>match runP Γ S act (.call f xs) with
    | .quiet p v=>dstOk nt o.d∧p∧qBk Γ nv nt hp0 r (putD nv S o.d act v S.hp) K
    | .ok p v hp=>(∃rest,hp=S.hp++rest)∧dstOk nt o.d∧act∧p∧qBk Γ nv nt hp0 r (putD nv S o.d act v hp) K
    | _=>False
   | .ext .mget xs=>match argsE S act xs with
    | some (p,[.c (.o s),.c (.o (.val (.string t)))])=>match mapOfQ hp0 s with
     | some (ps,m)=>dstOk nt o.d∧s.ltB hp0.length=true∧(p∧(act→AllP ps))∧qBk Γ nv nt hp0 r (putD nv S o.d act (.c (.o (.val (.int .i64 (mget m t))))) S.hp) K
     | none=>False
    | _=>False
   | pr=>match runP Γ S act pr with
    | .still p v=>dstOk nt o.d∧p∧qBk Γ nv nt hp0 r (putD nv S o.d act v S.hp) K
    | .ok p v hp=>bif qA2 pr then False else dstOk nt o.d∧act∧p∧qBk Γ nv nt hp0 r (putD nv S o.d act v hp) K
    | _=>False
  | none=>False
theorem ok_ext {Γ:Nat→Option Con} {S:St} {act:Prop} {pr:Pr} {p:Prop} {v:SV} {hp:List SB} (h:runP Γ S act pr=.ok p v hp) (hb:brkB pr=false) (hs:qA2 pr=false) (hsub:subB pr=false) (hc:∀f xs,pr≠.call f xs):∃x,hp=S.hp++[x]:=by
 cases pr <;> simp only [qA2,brkB,reduceCtorEq] at hs hb
 case alloc=>simp only [runP,RR.ok.injEq] at h; exact ⟨_,h.2.2.symm⟩
 case box =>
  simp only [runP] at h;split at h
  ·split at h
   ·simp only [RR.ok.injEq] at h; exact ⟨_,h.2.2.symm⟩
   ·cases h
  ·cases h
 case bslice e sz n z ps =>
  simp only [runP] at h;split at h
  ·rename_i t _;cases hb:(sz == t.sz) with
   | false=>rw [hb] at h; cases h
   | true =>
    rw [hb] at h;simp only [cnT] at h;split at h
    ·split at h
     ·split at h
      ·simp only [RR.ok.injEq] at h; exact ⟨_,h.2.2.symm⟩
      ·cases h
     ·cases h
    ·cases h
  ·rename_i hz;exfalso;unfold etOf at hz;unfold flatZ at hb;split at hb
   all_goals first | (simp at hb; done) | (simp at hz; done)
 case call f xs=>exact absurd rfl (hc f xs)
 case ext x xs=>rw [hs] at hb; cases hb
 case sub sz x lo hi =>
  cases sz <;> simp [qA2,subB] at hs hsub
theorem sub_never {Γ:Nat→Option Con} {S:St} {act:Prop} {pr:Pr} {p:Prop} {v:SV} (h:runP Γ S act pr=.still p v):subB pr=false:=by
 cases pr <;> try rfl
 rename_i sz x lo hi;cases sz with
 | none=>rfl
 | some sz =>
  exfalso;simp only [runP] at h
  (repeat' split at h) <;> try cases h
  rename_i s n _ _ _ _ _ _ _;rename_i hn _ _ _ _ _ _
  all_goals
   rcases subR_ok (hp:=S.hp) (sz:=sz) (x:=_) (lo:=_) (hi:=_) with ⟨q,u,hp',he⟩ | he <;> rw [he] at h <;> cases h
theorem HpSat.init {X:Nat→Prop} {w0 w:World} {ρ ρ0:Nat→Value} {hp0 rest:List SB} (h:HpSat X w0 w ρ (hp0++rest)) (hlt:∀(i:Nat) (sb:SB),hp0[i]?=some sb→sb.lt hp0.length) (hag:∀i<hp0.length,ρ i=ρ0 i):HpSat X w0 w ρ0 hp0:=by
 have get:∀(i:Nat) (sb:SB),hp0[i]?=some sb→i<hp0.length∧(hp0++rest)[i]?=some sb:=fun i sb hi=>by
  have hl:=(List.getElem?_eq_some_iff.1 hi).1;exact ⟨hl,by rw [List.getElem?_append_left hl]; exact hi⟩
 refine ⟨fun i hi=>by rw [←hag i hi]; exact h.ref i (by simp; omega),fun i sb hi=>?_,hlt,fun i j sb1 sb2 b hij hi hj e1 e2 f1 f2=>?_,h.tab⟩
 ·obtain ⟨hl,hi'⟩:=get i sb hi;rw [←hag i hl];exact SB.sat_ren (h.sat i sb hi') (hlt i sb hi) fun k hk=>(hag k hk).symm
 ·obtain ⟨hl,hi'⟩:=get i sb1 hi;obtain ⟨hl2,hj'⟩:=get j sb2 hj;rw [←hag i hl] at f1;rw [←hag j hl2] at f2;exact h.apart i j sb1 sb2 b hij hi' hj' e1 e2 f1 f2
section
variable {E:Env} {Γ:Nat→Option Con} {raws:List Nat} {nv:Nat}
theorem load_run {P:Program} {o:Oper} {a:Act} {C:World→Prop} {w:World} {v:Value} {t:Nat} {x:Operand} (ho:o.op=.load t x) (h:o.quietAt P a C w v):(execOp a.eval o).run P w=.ok (.value v) w:=by
 have hr:(execOp a.eval o).run P w=((Instr.loadAt t (a.eval x)).run P w).andThen fun v w'=>.ok (.value v) w':=by
  unfold execOp;simp [ho]
 unfold Oper.quietAt at h;rw [hr] at h ⊢;cases hh:(Instr.loadAt t (a.eval x)).run P w with
 | ok u w' =>
  rw [hh] at h;simp only [Result.andThen_ok,Oper.quietUpon] at h ⊢;rw [h.1,h.2]
 | halt e w' =>
  rw [hh] at h;exact h.elim
theorem static_brk {pr:Pr} (h:qA2 pr=true):brkB pr=false:=by
 cases pr <;> simp only [qA2,brkB,reduceCtorEq] at h ⊢
 case ext x xs=>rw [h]; rfl
theorem prim_load {P:Program} {raw:Bool} {o:Op} {n:Option Nat} {y:Arg} (hB : .load n y=qHb P raw o):∃t x,o=.load t x∧qDu P t=some n∧arg x=some y:=by
 have h:prim P raw o=some (.load n y):=by
  unfold qHb at hB;split at hB
  ·rename_i p hp;subst hB;unfold floP at hp
   (repeat' split at hp) <;> first | cases hp | (rename_i hb; cases hb2:arithB _ <;> rw [hb2] at hp <;> cases hp)
  ·split at hB
   ·rename_i p hp;rw [hp,hB]
   ·cases hB
 cases o <;> simp only [prim,reduceCtorEq] at h
 case load t x =>
  split at h
  ·split at h <;> cases h
  ·split at h
   ·rename_i n' y' h1 h2;cases h;exact ⟨t,_,rfl,h1,h2⟩
   ·cases h
 case call c =>
  obtain ⟨p0,h0,he⟩:=Option.map_eq_some_iff.1 h;have he:=qFj he (fun _ _ h=>by cases h);subst he;replace h:=h0;clear h0;simp only [callPr] at h
  (repeat' split at h) <;> first | (cases h; done) | simp [Option.map_eq_some_iff] at h
 all_goals (repeat' split at h) <;> first | (cases h; done) | simp [Option.map_eq_some_iff,callPr] at h
 all_goals (repeat' split at h) <;> first | (cases h; done) | simp [Option.map_eq_some_iff] at h
theorem prim_mget {P:Program} {raw:Bool} {o:Op} {ys:List Arg} (hB : .ext .mget ys=qHb P raw o):∃t x i y1 y2,o=.lookup t x i false∧qGv P t=true∧arg x=some y1∧arg i=some y2∧ys=[y1,y2]:=by
 have h:prim P raw o=some (.ext .mget ys):=by
  unfold qHb at hB;split at hB
  ·rename_i p hp;subst hB;unfold floP at hp
   (repeat' split at hp) <;> first | cases hp | (rename_i hb; cases hb2:arithB _ <;> rw [hb2] at hp <;> cases hp)
  ·split at hB
   ·rename_i p hp;rw [hp,hB]
   ·cases hB
 cases o <;> simp only [prim,reduceCtorEq] at h
 case lookup t x i ok =>
  split at h
  ·rename_i y1 y2 h1 h2;split at h
   ·rename_i hn;cases h;exact ⟨t,x,i,y1,y2,rfl,hn,h1,h2,rfl⟩
   ·cases h
  ·cases h
 case call c =>
  obtain ⟨p0,h0,he⟩:=Option.map_eq_some_iff.1 h;have he:=qFj he (fun _ _ h=>by cases h);subst he;replace h:=h0;clear h0;unfold callPr externExt at h
  (repeat' split at h) <;> first | (cases h; done) | (simp [Option.map_eq_some_iff] at h; done) | skip
  all_goals (rename_i hx _; (repeat' split at hx) <;> cases hx <;> cases h)
 all_goals (repeat' split at h) <;> first | (cases h; done) | simp [Option.map_eq_some_iff,callPr] at h
 all_goals (repeat' split at h) <;> first | (cases h; done) | simp [Option.map_eq_some_iff] at h
theorem ready_un {ops:Array Oper} {L:Array Bool} {k:Nat} (h:k∈Region.ready .any ops L):L.getD k true=false:=(mem_ready.1 h).1
theorem drawAt_ready {ops:Array Oper} {is:List IOp} {L:Array Bool} {k:Nat} (h:drawAt ops is L k=true):k∈Region.ready .any ops L:=by
 unfold drawAt at h;split at h
 ·split at h
  ·simp only [Bool.and_eq_true,List.contains_iff_mem] at h;exact h.1.1
  ·rw [Bool.and_eq_true] at h;have:Region.ready .any ops L=[k]:=by simpa using h.1
   rw [this]; simp
 ·cases h
theorem drawAll_left {ops:Array Oper} {is:List IOp}:∀(d:List Nat) (L:Array Bool),L.size=ops.size→qFm ops is L d=true→d.length=left L
 | [],L,hz,h=>by
  simp only [qFm,List.all_eq_true,List.mem_range] at h;symm
  unfold left;rw [List.length_nil,List.countP_eq_zero];intro b hb;obtain ⟨i,hi,rfl⟩:=List.getElem_of_mem hb;have hi':i<L.size:=by simpa using hi
  have:=h i (by omega);simp only [Array.getD_eq_getD_getElem?,Array.getElem?_eq_getElem hi',Option.getD_some] at this;simpa using this
 | k::d,L,hz,h=>by
  simp only [qFm,Bool.and_eq_true,decide_eq_true_eq] at h;have hun:=ready_un (drawAt_ready h.1.2);have hk:k<L.size:=by omega
  have hun':L.getD k false=false:=by
   simp only [Array.getD_eq_getD_getElem?,Array.getElem?_eq_getElem hk,Option.getD_some] at hun ⊢;exact hun
  rw [List.length_cons,drawAll_left d (L.setIfInBounds k true) (by simpa using hz) h.2,left_set hk hun']
theorem drawAll_len {ops:Array Oper} {is:List IOp} (d:List Nat) (L:Array Bool) (hL:L=Array.replicate ops.size false) (h:qFm ops is L d=true):d.length=ops.size:=by
 rw [drawAll_left d L (by rw [hL]; simp) h,hL];simp [left,List.countP_replicate]
theorem opers_at {P:Program} {ops:Array Oper}:∀ {l:List Oper} {is:List IOp},opers P raws ops l=some is→∀(k:Nat) (o:Oper),l[k]?=some o→∃io,is[k]?=some io∧oper P raws ops o=some io
 | [],is,h,k,o,hk=>by simp at hk
 | x::r,is,h,k,o,hk=>by
  simp only [opers] at h;split at h
  ·rename_i y s h1 h2;simp only [snJ] at h;subst h;cases k with
   | zero=>cases hk; exact ⟨y,rfl,h1⟩
   | succ k=>exact opers_at h2 k o (by simpa using hk)
  ·cases h
theorem sub_opPure {ρ:Nat→Value} {S:St} {a:Act} {o:Oper} {act:Prop} {raw:Bool} {pr:Pr} {p:Prop} {v:SV} {hp':List SB} (hs:qEz ρ S a) (ha:act) (hB:pr=qHb E.P raw o.op) (hrp:runP Γ S act pr=.ok p v hp') (hsub:subB pr=true) (hp:p) :
  v.lt hp'.length∧S.hp.length≤hp'.length∧∀w,Cls E ρ S.hp w→∃ρ',(∀i<S.hp.length,ρ' i=ρ i)∧Cls E ρ' hp' w∧∀w',(execOp a.eval o).run E.P w'=.ok (.value (v.den ρ')) w':=by
 have h:prim E.P raw o.op=some pr:=by
  subst hB;unfold qHb at hsub ⊢;split at hsub
  ·rename_i p hp;exfalso;unfold floP at hp
   (repeat' split at hp) <;> first | (cases hp; done) | (rename_i hb; cases hb2:arithB _ <;> rw [hb2] at hp <;> first | (cases hp; done) | (cases hp; cases hsub)) | (cases hp; cases hsub)
  ·split at hsub
   ·rename_i p hp;rw [hp]
   ·cases hsub
 cases ho:o.op <;> rw [ho] at h <;> simp only [prim,reduceCtorEq] at h
 case slice t x lo hi mx =>
  split at h
  ·cases h;cases hsub
  ·rename_i e x' lo' hi' h1 h2 h3 h4;split at h
   ·rename_i ti h0;cases h;simp only [runP] at hrp;split at hrp
    ·rename_i p s h5;split at hrp
     ·rename_i n hn;split at hrp
      ·rename_i q l r hh h6 h7;have:=sub_pure (E:=E) (o:=o) hs ha h1 h0 (fun hp=>(qAh hs ha h2 h5 hp).1) hn (loB_spec h3) h4 h6 h7 ho;rw [hrp] at this;exact this hp
      ·cases hrp
     ·cases hrp
    ·cases hrp
   ·cases h
  ·split at h
   ·cases h;cases hsub
   ·cases h
  ·cases h
 case call c =>
  exfalso;obtain ⟨p0,h0,he⟩:=Option.map_eq_some_iff.1 h;have he:=qFj he (fun _ _ h=>by rw [h] at hsub; cases hsub);subst he;replace h:=h0;clear h0;unfold callPr at h;revert h
  (repeat' split) <;> intro h <;> first | (cases h; done) | (cases h; cases hsub; done) | (simp only [Option.map_eq_some_iff] at h; obtain ⟨_,_,rfl⟩:=h; cases hsub; done) | skip
 all_goals
  exfalso;revert h
  (repeat' split) <;> intro h <;> first | (cases h; done) | (cases h; cases hsub; done) | (simp only [Option.map_eq_some_iff] at h; obtain ⟨_,_,rfl⟩:=h; cases hsub; done) | skip
end
end Go.Eng
namespace Go.Eng
set_option linter.unusedVariables false
set_option linter.unusedSimpArgs false
def qDb (hp:List SB):List SB:=hp.map fun b=>match b with
 | .cells t c=>.cells t c
 | _=>.dead
def Keep (hp hp':List SB):Prop:=∀(i t:Nat) (c:List S0),hp[i]?=some (.cells t c)→hp'[i]?=some (.cells t c)
theorem Keep.refl (hp:List SB):Keep hp hp:=fun _ _ _ h=>h
theorem Keep.trans {a b c:List SB} (h:Keep a b) (h':Keep b c):Keep a c:=fun i t l e=>h' i t l (h i t l e)
theorem Keep.app (hp x:List SB):Keep hp (hp++x):=fun i t c h=>by
 rw [List.getElem?_append_left (List.getElem?_eq_some_iff.1 h).1];exact h
theorem Keep.dead {hp:List SB} {h:Nat} (hn:∀t c,hp[h]?≠some (.cells t c)):Keep hp (hp.set h .dead):=fun i t c e=>by
 by_cases hi:h=i
 ·subst hi; exact (hn t c e).elim
 ·rw [List.getElem?_set_ne hi]; exact e
theorem qG6 {hp:List SB} {i:Nat} {sb:SB} (h:(qDb hp)[i]?=some sb):sb=.dead∨∃t c,sb=.cells t c∧hp[i]?=some (.cells t c):=by
 unfold qDb at h;rw [List.getElem?_map,Option.map_eq_some_iff] at h;obtain ⟨b,h1,h2⟩:=h;cases b with
 | cells t c=>exact .inr ⟨t,c,h2.symm,h1⟩
 | _=>exact .inl h2.symm
theorem cells_cls {E:Env} {ρ' ρ0:Nat→Value} {hp0 hp':List SB} {w':World} (h:Cls E ρ' hp' w') (hk:Keep hp0 hp') (hag:∀i<hp0.length,ρ' i=ρ0 i) (hle:hp0.length≤hp'.length) (hlt0:∀(i:Nat) (sb:SB),hp0[i]?=some sb→sb.lt hp0.length):Cls E ρ0 (qDb hp0) w':=by
 have hlen:(qDb hp0).length=hp0.length:=by simp [qDb]
 refine ⟨⟨fun i hi=>?_,fun i sb hi=>?_,fun i sb hi=>?_,fun i j sb1 sb2 b hij hi hj e1 e2 f1 f2=>?_,h.1.tab⟩,h.2⟩
 ·rw [hlen] at hi;rw [←hag i hi];exact h.1.ref i (by omega)
 ·rcases qG6 hi with rfl | ⟨t,c,rfl,h1⟩
  ·trivial
  ·have hil:=(List.getElem?_eq_some_iff.1 h1).1;rw [←hag i hil];exact SB.sat_ren (h.1.sat i _ (hk i t c h1)) (hlt0 i _ h1) fun k hkk=>(hag k hkk).symm
 ·rw [hlen];rcases qG6 hi with rfl | ⟨t,c,rfl,h1⟩
  ·trivial
  ·exact hlt0 i _ h1
 ·rcases qG6 hi with rfl | ⟨t,c,rfl,h1⟩
  ·cases e1
  ·rcases qG6 hj with rfl | ⟨t',c',rfl,h2⟩
   ·cases e2
   ·have l1:=(List.getElem?_eq_some_iff.1 h1).1;have l2:=(List.getElem?_eq_some_iff.1 h2).1;rw [←hag i l1] at f1;rw [←hag j l2] at f2;exact h.1.apart i j _ _ b hij (hk i t c h1) (hk j t' c' h2) e1 e2 f1 f2
def qDz (is0:List IOp) (B:Pr→Bool) (L:Array Bool):Prop:=∀j b,is0[j]?=some b→B b.p=true→L.getD j false=false
theorem qDz.of_set {is0:List IOp} {B:Pr→Bool} {L:Array Bool} {k:Nat} (hkL:k<L.size) (h:qDz is0 B (L.setIfInBounds k true)):qDz is0 B L:=by
 intro j b hj hb;have:=h j b hj hb;by_cases hjk:k=j
 ·subst hjk;rw [Array.getD_eq_getD_getElem?,Array.getElem?_setIfInBounds_self_of_lt hkL] at this;cases this
 ·rwa [getD_set_ne false hjk] at this
theorem qDz.not_set {is0:List IOp} {B:Pr→Bool} {L:Array Bool} {k:Nat} {io:IOp} (hio:is0[k]?=some io) (hkL:k<L.size) (h:qDz is0 B (L.setIfInBounds k true)):B io.p=false:=by
 cases hb:B io.p with
 | false=>rfl
 | true =>
  have:=h k io hio hb;rw [Array.getD_eq_getD_getElem?,Array.getElem?_setIfInBounds_self_of_lt hkL] at this;cases this
theorem qDz.to_set {is0:List IOp} {B:Pr→Bool} {L:Array Bool} {k:Nat} {io:IOp} (hio:is0[k]?=some io) (hb:B io.p=false) (h:qDz is0 B L):qDz is0 B (L.setIfInBounds k true):=by
 intro j b hj hbj;have hne:k≠j:=by
  rintro rfl
  rw [hio] at hj;cases hj;rw [hb] at hbj;cases hbj
 rw [getD_set_ne false hne];exact h j b hj hbj
theorem qDz.out {is0:List IOp} {B:Pr→Bool} {l:Array Bool} {ops:Array Oper} {k:Nat} (hcl:qCh ops l) (hun:l.getD k true=false) (hall:∀x∈is0.zipIdx,(!B x.1.p || anc ops ops.size x.2 k)=true):qDz is0 B l:=by
 intro j b hj hb;cases hlj:l.getD j false with
 | false=>rfl
 | true =>
  exfalso;have hj':(b,j)∈is0.zipIdx:=by
   rw [List.mem_zipIdx_iff_getElem?];exact hj
  have:=hall (b,j) hj';simp only [hb,Bool.not_true,Bool.false_or] at this;have hlk:=hcl.anc _ _ _ hlj this;rcases Nat.lt_or_ge k l.size with h' | h'
  ·simp [h'] at hun hlk;rw [hun] at hlk;cases hlk
  ·simp [Array.getElem?_eq_none h'] at hlk
theorem cut_brk {p:Pr} (h:cutB p=true):brkB p=true:=by
 cases p <;> simp only [cutB,brkB,Bool.false_eq_true] at h ⊢ <;> first | exact h | rfl
def Pre (E:Env) (is0:List IOp) (ρ0:Nat→Value) (hp0:List SB) (L:Array Bool) (hp:List SB) (w:World):Prop :=
 (qDz is0 brkB L→Cls E ρ0 hp0 w∧(qDz is0 subB L→∃rest,hp=hp0++rest))∧(qDz is0 cutB L→Cls E ρ0 (qDb hp0) w∧Keep hp0 hp)
def SI (E:Env) (is0:List IOp) (ρ0:Nat→Value) (hp0:List SB) (l:Array Bool) (w:World):Prop :=
 (qDz is0 brkB l→Cls E ρ0 hp0 w)∧(qDz is0 cutB l→Cls E ρ0 (qDb hp0) w)
theorem Pre.si {E:Env} {is0:List IOp} {ρ0:Nat→Value} {hp0 hp:List SB} {L:Array Bool} {w:World} (h:Pre E is0 ρ0 hp0 L hp w):SI E is0 ρ0 hp0 L w:=⟨fun h1=>(h.1 h1).1,fun h1=>(h.2 h1).1⟩
theorem Pre.stay {E:Env} {is0:List IOp} {ρ0:Nat→Value} {hp0 hp:List SB} {L:Array Bool} {w:World} {k:Nat} (hkL:k<L.size) (h:Pre E is0 ρ0 hp0 L hp w):Pre E is0 ρ0 hp0 (L.setIfInBounds k true) hp w :=
 ⟨fun h1=>⟨(h.1 (h1.of_set hkL)).1,fun h2=>(h.1 (h1.of_set hkL)).2 (h2.of_set hkL)⟩,fun h1=>h.2 (h1.of_set hkL)⟩
theorem Pre.sub {E:Env} {is0:List IOp} {ρ0:Nat→Value} {hp0 hp hp':List SB} {L:Array Bool} {w:World} {k:Nat} {io:IOp} (hio:is0[k]?=some io) (hkL:k<L.size) (h:Pre E is0 ρ0 hp0 L hp w) (hs:subB io.p=true) (hk:Keep hp hp'):Pre E is0 ρ0 hp0 (L.setIfInBounds k true) hp' w :=
 ⟨fun h1=>⟨(h.1 (h1.of_set hkL)).1,fun h2=>by have:=h2.not_set hio hkL; rw [hs] at this; cases this⟩,fun h1=>⟨(h.2 (h1.of_set hkL)).1,(h.2 (h1.of_set hkL)).2.trans hk⟩⟩
theorem Pre.grow {E:Env} {is0:List IOp} {ρ ρ' ρ0:Nat→Value} {hp0 hp hp':List SB} {L:Array Bool} {w w':World} {k:Nat} {io:IOp} (hlt0:∀(i:Nat) (sb:SB),hp0[i]?=some sb→sb.lt hp0.length) (hio:is0[k]?=some io) (hkL:k<L.size) (h:Pre E is0 ρ0 hp0 L hp w)
  (hag:∀i<hp0.length,ρ i=ρ0 i) (hle:hp0.length≤hp.length) (hag':∀i<hp.length,ρ' i=ρ i) (hle':hp.length≤hp'.length) (hcls:Cls E ρ' hp' w')
  (hsubs:brkB io.p=false→qDz is0 subB L) (hx:brkB io.p=false→∃x,hp'=hp++x) (hk:cutB io.p=false→Keep hp hp'):Pre E is0 ρ0 hp0 (L.setIfInBounds k true) hp' w':=by
 refine ⟨fun h1=>?_,fun h1=>?_⟩
 ·have hnb:=h1.not_set hio hkL;obtain ⟨rest,hrest⟩:=(h.1 (h1.of_set hkL)).2 (hsubs hnb);obtain ⟨x,rfl⟩:=hx hnb;have he:hp++x=hp0++(rest++x):=by rw [hrest,List.append_assoc]
  refine ⟨⟨?_,hcls.2⟩,fun _=>⟨rest++x,he⟩⟩;have h2:=hcls.1;rw [he] at h2;exact h2.init hlt0 fun i hi=>(hag' i (by omega)).trans (hag i hi)
 ·have hkp:=(h.2 (h1.of_set hkL)).2.trans (hk (h1.not_set hio hkL));exact ⟨cells_cls hcls hkp (fun i hi=>(hag' i (by omega)).trans (hag i hi)) (by omega) hlt0,hkp⟩
theorem Pre.start {E:Env} {is0:List IOp} {ρ0:Nat→Value} {hp0:List SB} {L:Array Bool} {w:World} (h:Cls E ρ0 hp0 w) (hlt0:∀(i:Nat) (sb:SB),hp0[i]?=some sb→sb.lt hp0.length):Pre E is0 ρ0 hp0 L hp0 w :=
 ⟨fun _=>⟨h,fun _=>⟨[],by simp⟩⟩,fun _=>⟨cells_cls h (Keep.refl _) (fun _ _=>rfl) (Nat.le_refl _) hlt0,Keep.refl _⟩⟩
theorem Keep.bag {hp:List SB} {h:Nat} {ks:List NK} {e:Nat} {l:List (NT ks)} (hb:hp[h]?=some (.bag ks e l)):Keep hp (hp.set h .dead):=Keep.dead fun t c e=>by rw [hb] at e; cases e
theorem bagApp_keep {hp hp':List SB} {e sz bytes:Nat} {s x:S0} {ps:List Prop} {v:SV} (h:qGt hp e sz bytes s x=.ok ps v hp'):Keep hp hp':=by
 unfold qGt at h;split at h
 ·split at h
  ·rename_i hb;generalize (bif Nat.beq sz _ then _ else false)=c at h
   cases c with
   | false=>cases h
   | true =>
    cases h;exact (Keep.bag hb).trans (Keep.app _ _)
  ·cases h
 ·rename_i k k';split at h
  ·rename_i h1 h2;split at h
   ·generalize (bif Nat.beq sz _ then _ else false)=c at h
    cases c with
    | false=>cases h
    | true =>
     cases h;refine ((Keep.bag h1).trans ?_).trans (Keep.app _ _);refine Keep.dead fun t c e=>?_
     by_cases hkk:k=k'
     ·subst hkk;rw [List.getElem?_set_self (List.getElem?_eq_some_iff.1 h1).1] at e;cases e
     ·rw [List.getElem?_set_ne hkk,h2] at e;cases e
   ·cases h
  ·cases h
 ·cases h
theorem toR_ok {q:RQ} {p:Prop} {v:SV} {hp:List SB} (h:q.toR=.ok p v hp):∃ps,q=.ok ps v hp:=by
 cases q with
 | ok ps v' hp' =>
  simp only [RQ.toR,RR.ok.injEq] at h;obtain ⟨_,rfl,rfl⟩:=h;exact ⟨ps,rfl⟩
 | _=>simp only [RQ.toR,reduceCtorEq] at h
theorem appendR_keep {hp hp':List SB} {e sz bytes:Nat} {zero:List Value} {s x:S0} {p:Prop} {v:SV} (h:appendR hp e sz bytes zero s x=.ok p v hp'):Keep hp hp':=by
 unfold appendR at h;cases ha:apart0 s x with
 | false=>rw [ha] at h; cases h
 | true =>
  rw [ha] at h;simp only [cnT] at h;split at h
  ·split at h
   ·rename_i t ht;generalize (sz == t.sz)=c at h
    cases c with
    | false=>cases h
    | true =>
     simp only [cnT] at h;split at h
     ·simp only [RR.ok.injEq] at h;obtain ⟨_,_,rfl⟩:=h;exact Keep.app _ _
     ·cases h
   ·obtain ⟨ps,h⟩:=toR_ok h;exact bagApp_keep h
  ·split at h
   ·rename_i t e' l hb;generalize (sz == t.sz && e == e')=c at h
    cases c with
    | false=>cases h
    | true =>
     simp only [cnT] at h;split at h
     ·simp only [RR.ok.injEq] at h;obtain ⟨_,_,rfl⟩:=h;exact (Keep.dead fun t c e=>by rw [hb] at e; cases e).trans (Keep.app _ _)
     ·cases h
   ·cases h
  ·obtain ⟨ps,h⟩:=toR_ok h;exact bagApp_keep h
theorem subR_keep {hp hp':List SB} {sz:Nat} {x:S0} {lo:Option Int} {hi:Int} {p:Prop} {v:SV} (h:subR hp sz x lo hi=.ok p v hp'):Keep hp hp':=by
 unfold subR at h;split at h
 ·split at h
  ·rename_i t e l hb;generalize (sz == t.sz)=c at h
   cases c with
   | false=>cases h
   | true =>
    simp only [cnT] at h;split at h
    ·simp only [RR.ok.injEq] at h;obtain ⟨_,_,rfl⟩:=h;exact (Keep.dead fun t c e=>by rw [hb] at e; cases e).trans (Keep.app _ _)
    ·simp only [RR.ok.injEq] at h;obtain ⟨_,_,rfl⟩:=h;exact Keep.app _ _
  ·split at h
   ·generalize (sz == _ && sz == _)=c at h
    cases c with
    | false=>cases h
    | true =>
     simp only [cnT,RR.ok.injEq] at h;obtain ⟨_,_,rfl⟩:=h;exact Keep.app _ _
   ·cases h
  ·rename_i t l hb;generalize (sz == t.sz)=c at h
   cases c with
   | false=>cases h
   | true =>
    simp only [cnT] at h;split at h
    ·simp only [RR.ok.injEq] at h;obtain ⟨_,_,rfl⟩:=h;exact Keep.app _ _
    ·simp only [RR.ok.injEq] at h;obtain ⟨_,_,rfl⟩:=h;exact Keep.app _ _
  ·cases h
 ·obtain ⟨ps,h⟩:=toR_ok h;unfold bagSubQ at h;split at h
  ·split at h
   ·rename_i hb;generalize Nat.beq sz _=c at h
    cases c with
    | false=>cases h
    | true =>
     simp only [cnT,RQ.ok.injEq] at h;obtain ⟨_,_,rfl⟩:=h;exact (Keep.bag hb).trans (Keep.app _ _)
   ·cases h
  ·cases h
theorem nkTake_map:∀ {hp:List SB} {ks:List NK} {l:List S0} {x:NT ks} {hs:List Nat},qCt hp ks l=some (x,hs)→∀h∈hs,∀t c,hp[h]?≠some (.cells t c):=by
 intro hp ks;induction ks with
 | nil =>
  intro l x hs h;cases l with
  | nil=>simp only [qCt,snJ,Prod.mk.injEq] at h; obtain ⟨_,rfl⟩:=h; exact fun h hm=>by cases hm
  | cons=>simp only [qCt,reduceCtorEq] at h
 | cons k r ih =>
  intro l x hs h;cases l with
  | nil=>cases k <;> simp only [qCt,reduceCtorEq] at h
  | cons v l =>
   cases k with
   | int q =>
    simp only [qCt] at h;split at h
    ·rename_i h1;generalize decide (_=q)=c at h
     cases c with
     | false=>cases h
     | true=>cases h; exact ih h1
    ·cases h
   | bool =>
    simp only [qCt] at h;split at h
    ·rename_i h1; cases h; exact ih h1
    ·cases h
   | str =>
    simp only [qCt] at h;split at h
    ·rename_i h1; cases h; exact ih h1
    ·cases h
   | map =>
    simp only [qCt] at h;split at h
    ·rename_i h1; cases h; exact ih h1
    ·rename_i h1;split at h
     ·rename_i hm;cases h;intro g hg t c;rcases List.mem_cons.1 hg with rfl | hg
      ·rw [hm]; exact fun e=>by cases e
      ·exact ih h1 g hg t c
     ·cases h
    ·cases h
   | rw q =>
    simp only [qCt] at h;split at h
    ·rename_i h1; cases h; exact ih h1
    ·rename_i h1;split at h
     ·rename_i hm0;obtain ⟨sb0,hm,hq⟩:=Option.bind_eq_some_iff.1 hm0;obtain ⟨e0,rfl⟩:=QK.take_eq hq;cases h;intro g hg t c;rcases List.mem_cons.1 hg with rfl | hg
      ·rw [hm]; exact fun e=>by cases e
      ·exact ih h1 g hg t c
     ·cases h
    ·cases h
theorem killL_keep:∀(hs:List Nat) (hp:List SB),(∀h∈hs,∀t c,hp[h]?≠some (.cells t c))→Keep hp (killL hs hp)
 | [],hp,_=>Keep.refl hp
 | h::r,hp,hn=>by
  have h1:Keep hp (hp.set h .dead):=Keep.dead (hn h (List.mem_cons_self));refine h1.trans (killL_keep r _ fun g hg t c e=>?_);by_cases hgh:h=g
  ·subst hgh;rw [List.getElem?_set] at e;split at e
   ·split at e
    ·cases e
    ·cases e
   ·exact hn _ (List.mem_cons_self) t c e
  ·rw [List.getElem?_set_ne hgh] at e;exact hn g (List.mem_cons_of_mem _ hg) t c e
theorem bagNew_keep {hp hp':List SB} {e sz n:Nat} {zero:List Value} {l:List S0} {v:SV} (h:bagNew hp e sz n zero l=some (v,hp')):Keep hp hp':=by
 unfold bagNew at h;split at h
 ·generalize (bif Nat.beq sz _ then _ else false)=c at h
  cases c with
  | false=>cases h
  | true =>
   simp only [cnT] at h;split at h
   ·rename_i x hs ht;generalize nodupN hs=c at h
    cases c with
    | false=>cases h
    | true =>
     cases h;exact (killL_keep _ _ (nkTake_map ht)).trans (Keep.app _ _)
   ·cases h
 ·cases h
theorem litBag_keep {hp hp':List SB} {e sz n:Nat} {zero:List Value} {l:List S0} {v:SV} (h:litBag hp e sz n zero l=some (v,hp')):Keep hp hp':=by
 unfold litBag at h;split at h
 ·rename_i x hx;cases h;exact bagNew_keep hx
 ·unfold litNew at h;cases hb:Nat.beq l.length (n*sz) with
  | false=>rw [hb] at h; cases h
  | true =>
   rw [hb] at h;simp only [cnT,snJ,Prod.mk.injEq] at h;obtain ⟨_,rfl⟩:=h;exact Keep.app _ _
theorem owe_ok {p act q:Prop} {r:RR} {v:SV} {hp:List SB} (h:owe p act r=.ok q v hp):∃q',r=.ok q' v hp:=by
 cases r with
 | ok q' v' hp' =>
  simp only [owe,RR.ok.injEq] at h;obtain ⟨_,rfl,rfl⟩:=h;exact ⟨q',rfl⟩
 | _=>simp only [owe,reduceCtorEq] at h
theorem ok_keep {Γ:Nat→Option Con} {S:St} {act:Prop} {pr:Pr} {p:Prop} {v:SV} {hp:List SB} (h:runP Γ S act pr=.ok p v hp) (hc:cutB pr=false) (hs:qA2 pr=false) (hcall:∀f xs,pr≠.call f xs):Keep S.hp hp:=by
 cases pr <;> simp only [qA2,Bool.true_eq_false] at hs
 case bad=>cases hc
 case floA=>cases hc
 case floI=>cases hc
 case floC=>cases hc
 case store=>cases hc
 case alloc=>simp only [runP,RR.ok.injEq] at h; obtain ⟨_,_,rfl⟩:=h; exact Keep.app _ _
 case box =>
  simp only [runP] at h;split at h
  ·split at h
   ·simp only [RR.ok.injEq] at h; obtain ⟨_,_,rfl⟩:=h; exact Keep.app _ _
   ·cases h
  ·cases h
 case bslice e sz n z ps =>
  simp only [runP] at h;split at h
  ·generalize (sz == _)=c at h
   cases c with
   | false=>cases h
   | true =>
    simp only [cnT] at h;split at h
    ·split at h
     ·split at h
      ·simp only [RR.ok.injEq] at h; obtain ⟨_,_,rfl⟩:=h; exact Keep.app _ _
      ·cases h
     ·cases h
    ·cases h
  ·split at h
   ·split at h
    ·rename_i hb;simp only [RR.ok.injEq] at h;obtain ⟨_,rfl,rfl⟩:=h;exact litBag_keep hb
    ·cases h
   ·cases h
 case append =>
  simp only [runP] at h;split at h
  ·obtain ⟨q,h⟩:=owe_ok h;exact appendR_keep h
  ·cases h
 case call f xs=>exact absurd rfl (hcall f xs)
 case callL f xs=>simp [cutB,brkB] at hc
 case callV x xs=>simp [cutB,brkB] at hc
 case panic x=>simp [cutB,brkB] at hc
 case ext x xs =>
  simp only [cutB,brkB] at hc;rw [hs] at hc;cases hc
 case sub sz x lo hi =>
  cases sz with
  | none=>cases hs
  | some sz =>
   simp only [runP] at h;split at h
   ·split at h
    ·split at h
     ·obtain ⟨q,h⟩:=owe_ok h;exact subR_keep h
     ·cases h
    ·cases h
   ·cases h
end Go.Eng
