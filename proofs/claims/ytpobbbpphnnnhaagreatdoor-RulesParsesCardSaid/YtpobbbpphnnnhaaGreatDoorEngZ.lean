/-
  Texts of a claim.
-/
import Derived.Test.YtpobbbpphnnnhaaGreatDoorEngC
namespace Go.Eng
set_option linter.unusedVariables false
set_option linter.unusedSimpArgs false
inductive Fr where
 | code (c:IC)
 | blk (id:Nat)
 | mid (Post:St→Prop)
def rvE (S:St):RV→Option (Prop × SC)
 | .tmp t=>match getE S.sl t with
  | some (c,.c x)=>some (c,x)
  | _=>none
 | .cell a n=>match getE S.sl a with
  | some (c,.c (.o (.hd h off)))=>match S.hp[h]? with
   | some (.cells _ l)=>match n with
    | none=>match l[off]? with
     | some x=>some (c,.o x)
     | none=>none
    | some m=>bif Nat.ble (off+m) l.length then some (c,.agg (qCq l off m)) else none
   | _=>none
  | _=>none
def resE (S:St):List RV→Option (Prop × List SC)
 | []=>some (True,[])
 | x::r=>match rvE S x,resE S r with
  | some (p,v),some (q,l)=>some (p∧q,v::l)
  | _,_=>none
def mkRes:List SC→SV
 | [x]=>.c x
 | l=>.tup l
def FinOK (S:St) (rv:List RV) (Post:SV→List SB→Prop):Prop :=
 match resE S rv with
 | some (p,l)=>p∧Post (mkRes l) S.hp
 | none=>False
structure Ctx where
 E:Env
 Γ:Nat→Option Con
 raws:List Nat
 nv:Nat
 rv:List RV
 Post:SV→List SB→Prop
 hΓ:∀f C,Γ f=some C→Valid E.P f C
def Ctx.bot (X:Ctx):Exit→Act→World→Prop
 | .normal,a,w=>∃ρ S,Sat X.E ρ S a w∧FinOK S X.rv X.Post
 | .ret,a,w=>∃ρ S,Sat X.E ρ S a w∧FinOK S X.rv X.Post
 | _,_,_=>False
def wpK (X:Ctx):List Fr→Exit→Act→World→Prop
 | [],e,a,w=>X.bot e a w
 | .code i::k,.normal,a,w=>∀c,comp X.E.P X.raws c=some i→c.wp X.E.P (wpK X k) a w
 | .code _::k,e,a,w=>wpK X k e a w
 | .blk id::k,.exit id',a,w=>if id'=id then wpK X k .normal a w else wpK X k (.exit id') a w
 | .blk _::k,e,a,w=>wpK X k e a w
 | .mid Post::k,.normal,a,w=>∃ρ S,Sat X.E ρ S a w∧Post S
 | .mid _::k,e,a,w=>wpK X k e a w
def VC (X:Ctx) (k:List Fr) (S:St):Prop:=∀ρ a w,Sat X.E ρ S a w→wpK X k .normal a w
section
variable {X:Ctx} {k:List Fr} {S:St}
theorem comp_seq {P:Program} {raws:List Nat} {c:Code} {a b:IC} (h:comp P raws c=some (.seq a b)):∃x y,c=.seq x y∧comp P raws x=some a∧comp P raws y=some b:=by
 cases c <;> simp only [comp,reduceCtorEq,snJ,Option.map_eq_some_iff,and_false,exists_false] at h
 case seq x y =>
  split at h
  ·rename_i h1 h2; cases h; exact ⟨x,y,rfl,h1,h2⟩
  ·cases h
 case region =>
  split at h
  ·split at h
   ·split at h
    ·split at h <;> cases h
    ·split at h <;> cases h
   ·cases h
  ·cases h
 case cond =>
  split at h <;> cases h
theorem comp_cond {P:Program} {raws:List Nat} {c:Code} {x:Arg} {a b:IC} (h:comp P raws c=some (.cond x a b)):∃o y z,c=.cond o y z∧arg o=some x∧comp P raws y=some a∧comp P raws z=some b:=by
 cases c <;> simp only [comp,reduceCtorEq,snJ,Option.map_eq_some_iff,and_false,exists_false] at h
 case seq x y =>
  split at h <;> cases h
 case region =>
  split at h
  ·split at h
   ·split at h
    ·split at h <;> cases h
    ·split at h <;> cases h
   ·cases h
  ·cases h
 case cond o y z =>
  split at h
  ·rename_i h1 h2 h3; cases h; exact ⟨o,y,z,rfl,h1,h2,h3⟩
  ·cases h
theorem comp_block {P:Program} {raws:List Nat} {c:Code} {id:Nat} {b:IC} (h:comp P raws c=some (.block id b)):∃y,c=.block id y∧comp P raws y=some b:=by
 cases c <;> simp only [comp,reduceCtorEq,snJ,Option.map_eq_some_iff,and_false,exists_false] at h
 case seq x y=>split at h <;> cases h
 case region =>
  split at h
  ·split at h
   ·split at h
    ·split at h <;> cases h
    ·split at h <;> cases h
   ·cases h
  ·cases h
 case cond=>split at h <;> cases h
 case block id' y=>obtain ⟨z,h1,h2⟩:=h; cases h2; exact ⟨y,rfl,h1⟩
theorem comp_loop {P:Program} {raws:List Nat} {c:Code} {b:IC} (h:comp P raws c=some (.loop b)):∃y,c=.loop y∧comp P raws y=some b:=by
 cases c <;> simp only [comp,reduceCtorEq,snJ,Option.map_eq_some_iff,and_false,exists_false] at h
 case seq x y=>split at h <;> cases h
 case region =>
  split at h
  ·split at h
   ·split at h
    ·split at h <;> cases h
    ·split at h <;> cases h
   ·cases h
  ·cases h
 case cond=>split at h <;> cases h
 case loop y=>obtain ⟨z,h1,h2⟩:=h; cases h2; exact ⟨y,rfl,h1⟩
theorem comp_exit {P:Program} {raws:List Nat} {c:Code} {id:Nat} (h:comp P raws c=some (.exit id)):c=.exit id:=by
 cases c <;> simp only [comp,reduceCtorEq,snJ,Option.map_eq_some_iff,and_false,exists_false] at h
 case seq x y=>split at h <;> cases h
 case region =>
  split at h
  ·split at h
   ·split at h
    ·split at h <;> cases h
    ·split at h <;> cases h
   ·cases h
  ·cases h
 case cond=>split at h <;> cases h
 case exit=>cases h; rfl
theorem comp_ret {P:Program} {raws:List Nat} {c:Code} (h:comp P raws c=some .ret):c=.ret:=by
 cases c <;> simp only [comp,reduceCtorEq,snJ,Option.map_eq_some_iff,and_false,exists_false] at h
 case seq x y=>split at h <;> cases h
 case region =>
  split at h
  ·split at h
   ·split at h
    ·split at h <;> cases h
    ·split at h <;> cases h
   ·cases h
  ·cases h
 case cond=>split at h <;> cases h
 case ret=>rfl
theorem comp_skip {P:Program} {raws:List Nat} {c:Code} (h:comp P raws c=some .skip):c=.skip∨∃l,c=.label l:=by
 cases c <;> simp only [comp,reduceCtorEq,snJ,Option.map_eq_some_iff,and_false,exists_false] at h
 case seq x y=>split at h <;> cases h
 case region =>
  split at h
  ·split at h
   ·split at h
    ·split at h <;> cases h
    ·split at h <;> cases h
   ·cases h
  ·cases h
 case cond=>split at h <;> cases h
 case skip=>exact .inl rfl
 case label l=>exact .inr ⟨l,rfl⟩
theorem comp_reg {P:Program} {raws:List Nat} {c:Code} {last:Nat} {ops:List IOp} (h:comp P raws c=some (.reg last none ops)):∃id l,c=.region id l false∧opers P raws l l.toList=some ops:=by
 cases c <;> simp only [comp,reduceCtorEq,snJ,Option.map_eq_some_iff,and_false,exists_false] at h
 case seq x y=>split at h <;> cases h
 case region id l d =>
  split at h
  ·rename_i is his;cases d
   ·simp only [Bool.false_eq_true,if_false,snJ] at h;cases h;exact ⟨id,l,rfl,his⟩
   ·simp only [if_true] at h;split at h
    ·split at h <;> cases h
    ·split at h <;> cases h
  ·cases h
 case cond=>split at h <;> cases h
theorem comp_regD {P:Program} {raws:List Nat} {c:Code} {last:Nat} {d:List Nat} {ops:List IOp} (h:comp P raws c=some (.reg last (some d) ops)):∃id l is,c=.region id l true∧opers P raws l l.toList=some is∧pickO is d=some ops∧P.follows .mixedOrders=true∧drawOK l is d=true:=by
 cases c <;> simp only [comp,reduceCtorEq,snJ,Option.map_eq_some_iff,and_false,exists_false] at h
 case seq x y=>split at h <;> cases h
 case region id l d =>
  split at h
  ·rename_i is his;cases d
   ·simp only [Bool.false_eq_true,if_false,snJ] at h;cases h
   ·simp only [if_true] at h;split at h;rotate_left
    ·split at h <;> cases h
    rename_i m hm;split at h
    ·cases h
    cases h;unfold drawn at hm;split at hm
    ·split at hm
     ·rename_i hp;split at hm
      ·rename_i hc;cases hm;simp only [Bool.and_eq_true] at hc;exact ⟨id,l,is,rfl,his,hp,hc.1,hc.2⟩
      ·cases hm
     ·cases hm
    ·cases hm
  ·cases h
 case cond=>split at h <;> cases h
theorem comp_regT {P:Program} {raws:List Nat} {c:Code} {last:Nat} {dt:DT} (h:comp P raws c=some (.regT last dt)):∃id l is t,c=.region id l true∧opers P raws l l.toList=some is∧pickT is t=some dt∧P.follows .mixedOrders=true∧Region.noSelect l=true∧drawT l is t false (Array.replicate l.size false)=true:=by
 cases c <;> simp only [comp,reduceCtorEq,snJ,Option.map_eq_some_iff,and_false,exists_false] at h
 case seq x y=>split at h <;> cases h
 case region id l d =>
  split at h
  ·rename_i is his;cases d
   ·simp only [Bool.false_eq_true,if_false,snJ] at h;cases h
   ·simp only [if_true] at h;split at h
    ·split at h <;> cases h
    ·split at h
     ·rename_i m hm;cases h;unfold drawnT at hm;split at hm
      ·rename_i t _;split at hm
       ·rename_i hp;split at hm
        ·rename_i hc;cases hm;simp only [Bool.and_eq_true] at hc;exact ⟨id,l,is,t,rfl,his,hp,hc.1,hc.2.1,hc.2.2⟩
        ·cases hm
       ·cases hm
      ·cases hm
     ·cases h
  ·cases h
 case cond=>split at h <;> cases h
theorem comp_regL {P:Program} {raws:List Nat} {c:Code} {last k:Nat} {d:List Nat} {ops:List IOp} {io:IOp} (h:comp P raws c=some (.regL last d k ops io)):∃id l is,c=.region id l true∧opers P raws l l.toList=some is∧pickO is d=some ops∧is[k]?=some io∧(io.g=none∧∃y ys,io.p=.callV y ys)∧P.follows .mixedOrders=true∧drawOK l is (d++[k])=true:=by
 cases c <;> simp only [comp,reduceCtorEq,snJ,Option.map_eq_some_iff,and_false,exists_false] at h
 case seq x y=>split at h <;> cases h
 case region id l d0 =>
  split at h
  ·rename_i is his;cases d0
   ·simp only [Bool.false_eq_true,if_false,snJ] at h;cases h
   ·simp only [if_true] at h;split at h;rotate_left
    ·split at h <;> cases h
    rename_i m hm;split at h
    ·rename_i x hx;cases h;obtain ⟨e1,e2,e3,e4⟩:=lastV_spec hx;unfold drawn at hm;split at hm
     ·split at hm
      ·rename_i hp;split at hm
       ·rename_i hc;cases hm;simp only [Bool.and_eq_true] at hc;simp only at e1 e2;rw [e1,e2] at hp;have hl:=pickO_len hp;obtain ⟨p1,p2⟩:=pickO_app (by simpa using hl) hp;refine ⟨id,l,is,rfl,his,p1,?_,⟨e3,e4⟩,hc.1,by rw [←e1]; exact hc.2⟩;simp only [pickO] at p2;split at p2
        ·rename_i o' r' q1 q2;cases p2;exact q1
        ·cases p2
       ·cases hm
      ·cases hm
     ·cases hm
    ·cases h
  ·cases h
 case cond=>split at h <;> cases h
theorem VC.block {id:Nat} {b:IC} (h:VC X (.code b::.blk id::k) S):VC X (.code (.block id b)::k) S:=by
 intro ρ ac w hs c hc;obtain ⟨y,rfl,hy⟩:=comp_block hc;refine wp_block (wp_mono (h ρ ac w hs y hy) ?_);intro e a' w' hq;cases e <;> exact hq
theorem VC.blk {id:Nat} (h:VC X k S):VC X (.blk id::k) S:=h
def exitK (id:Nat):List Fr→Option (List Fr)
 | []=>none
 | .blk i::k=>bif id == i then some k else exitK id k
 | .code _::k=>exitK id k
 | .mid _::k=>exitK id k
theorem exitK_wp {id:Nat}:∀ {k k':List Fr},exitK id k=some k'→∀ {a w},wpK X k' .normal a w→wpK X k (.exit id) a w
 | .blk i::k,k',h,a,w,hw=>by
  simp only [exitK] at h;by_cases hi:id=i
  ·subst hi;simp only [beq_self_eq_true,cnT,snJ] at h;subst h;simpa [wpK] using hw
  ·have:(id == i)=false:=by simpa using hi
   rw [this] at h;simp only [cnF] at h;simpa [wpK,hi] using exitK_wp h hw
 | .code _::k,k',h,a,w,hw=>exitK_wp (k:=k) h hw
 | .mid _::k,k',h,a,w,hw=>exitK_wp (k:=k) h hw
theorem VC.exit {id:Nat} {k':List Fr} (hk:exitK id k=some k') (h:VC X k' S):VC X (.code (.exit id)::k) S:=by
 intro ρ ac w hs c hc;cases comp_exit hc;exact wp_exit (exitK_wp hk (h ρ ac w hs))
theorem ret_wp:∀ {k:List Fr} {a w},X.bot .ret a w→wpK X k .ret a w
 | [],_,_,h=>h
 | .blk _::k,_,_,h=>ret_wp (k:=k) h
 | .code _::k,_,_,h=>ret_wp (k:=k) h
 | .mid _::k,_,_,h=>ret_wp (k:=k) h
theorem VC.ret (h:FinOK S X.rv X.Post):VC X (.code .ret::k) S:=by
 intro ρ ac w hs c hc;cases comp_ret hc;exact wp_ret (ret_wp ⟨ρ,S,hs,h⟩)
theorem VC.mid {Post:St→Prop} (h:Post S):VC X (.mid Post::k) S:=fun ρ a w hs=>⟨ρ,S,hs,h⟩
def S0.ren (θ:List Nat):S0→S0
 | .val v=>.val v
 | .hd h n=>.hd (θ.getD h 0) n
 | .own h=>.own (θ.getD h 0)
 | .el h i sz n=>.el (θ.getD h 0) i sz n
 | .opt c h n=>.opt c (θ.getD h 0) n
 | .bsl k=>.bsl (θ.getD k 0)
 | .prj k i j=>.prj (θ.getD k 0) i j
 | .pel k i sz n=>.pel (θ.getD k 0) i sz n
def SC.ren (θ:List Nat):SC→SC
 | .o x=>.o (x.ren θ)
 | .agg l=>.agg (l.map (S0.ren θ))
def SV.ren (θ:List Nat):SV→SV
 | .c x=>.c (x.ren θ)
 | .tup l=>.tup (l.map (SC.ren θ))
theorem S0.ren_den (θ:List Nat) (ρ:Nat→Value) (x:S0):(x.ren θ).den ρ=x.den fun i=>ρ (θ.getD i 0):=by cases x <;> rfl
theorem SC.ren_den (θ:List Nat) (ρ:Nat→Value) (x:SC):(x.ren θ).den ρ=x.den fun i=>ρ (θ.getD i 0):=by
 cases x with
 | o x=>exact S0.ren_den θ ρ x
 | agg l=>simp only [SC.ren,SC.den,List.map_map]; congr 2; exact List.map_congr_left fun y _=>S0.ren_den θ ρ y
theorem SV.ren_den (θ:List Nat) (ρ:Nat→Value) (x:SV):(x.ren θ).den ρ=x.den fun i=>ρ (θ.getD i 0):=by
 cases x with
 | c x=>exact SC.ren_den θ ρ x
 | tup l=>simp only [SV.ren,SV.den,List.map_map]; congr 2; exact List.map_congr_left fun y _=>SC.ren_den θ ρ y
def qEa:List Nat→Bool
 | []=>true
 | x::r=>!r.contains x && qEa r
theorem nodup_spec:∀ {l:List Nat},qEa l=true→∀(i j x:Nat),l[i]?=some x→l[j]?=some x→i=j
 | [],_,i,j,x,hi,_=>by simp at hi
 | y::r,h,i,j,x,hi,hj=>by
  simp only [qEa,Bool.and_eq_true,Bool.not_eq_true'] at h;cases i <;> cases j
  ·rfl
  ·simp at hi hj;subst hi;have:=List.mem_of_getElem? hj;simp_all
  ·simp at hi hj;subst hj;have:=List.mem_of_getElem? hi;simp_all
  ·simp at hi hj;rw [nodup_spec h.2 _ _ x hi hj]
end
end Go.Eng
namespace Go.Eng
set_option linter.unusedVariables false
set_option linter.unusedSimpArgs false
def resSem (tmps:Array Value):ResultVar→Sem Value
 | .tmp t=>pure (tmps.getD t undef)
 | .cell a t=>do loadVar t (←asAddr (tmps.getD a undef))
theorem rv_run {E:Env} {ρ:Nat→Value} {S:St} {a:Act} {w:World} (hs:Sat E ρ S a w) {r:ResultVar} {rs:List ResultVar} {x:RV} {p:Prop} {v:SC} (hx:rvs E.P [r]=some [x]) (h:rvE S x=some (p,v)) (hp:p) :
  (resSem a.tmps r).run E.P w=.ok (v.den ρ) w∧v.lt S.hp.length:=by
 cases r with
 | tmp t =>
  simp only [rvs,snJ,List.cons.injEq,and_true] at hx;subst hx;simp only [rvE] at h;split at h
  ·rename_i c y hg;simp only [snJ,Prod.mk.injEq] at h;obtain ⟨rfl,rfl⟩:=h;obtain ⟨h1,_,h3⟩:=hs.sl t c _ hg;refine ⟨?_,h3 hp⟩;have:=h1 hp;simp [resSem,Array.getD_eq_getD_getElem?,this,SV.den]
  ·cases h
 | cell c t =>
  simp only [rvs] at hx;split at hx
  ·rename_i n s hn h0;simp only [rvs,snJ] at h0;subst h0;simp only [snJ,List.cons.injEq,and_true] at hx;subst hx;simp only [rvE] at h;split at h
   ·rename_i cc hh off hg;obtain ⟨h1,_,h3⟩:=hs.sl c cc _ hg;split at h
    ·rename_i e l hsb;obtain ⟨b,hv,hb,_⟩:=hs.hp.sat hh _ hsb;have hlt:=hs.hp.lt hh _ hsb;have hcell:∀j u,(l.map (S0.den ρ))[j]?=some u→w.cell? ⟨b,j,none⟩=some u:=fun j u hu=>by
      rw [cell_of_row w b j _ e (0,0) hb];simpa using hu
     have key:cc→a.tmps.getD c undef=.pointer (some ⟨b,off,none⟩):=fun hcc=>by
      have:=h1 hcc;simp only [SV.den,SC.den,S0.den,hv,qAy] at this;simp [Array.getD_eq_getD_getElem?,this]
     cases n with
     | none =>
      simp only at h;split at h
      ·rename_i y hy;simp only [snJ,Prod.mk.injEq] at h;obtain ⟨rfl,rfl⟩:=h;refine ⟨?_,hlt y (List.mem_of_getElem? hy)⟩;simp only [resSem,Sem.run_bind,key hp,asAddr,Sem.run_pure,Result.andThen_ok,SC.den];exact qEx hn (hcell off _ (by simp [hy]))
      ·cases h
     | some m =>
      simp only at h;cases hb':Nat.ble (off+m) l.length with
      | false=>rw [hb'] at h; cases h
      | true =>
       rw [hb'] at h;simp only [cnT,snJ,Prod.mk.injEq] at h;obtain ⟨rfl,rfl⟩:=h;have hle:off+m≤l.length:=by simpa using hb'
       refine ⟨?_,fun y hy=>hlt y (List.mem_of_mem_drop (List.mem_of_mem_take hy))⟩;simp only [resSem,Sem.run_bind,key hp,asAddr,Sem.run_pure,Result.andThen_ok];have e1:(qCq l off m).map (S0.den ρ)=((l.map (S0.den ρ)).drop off).take m:=by
        unfold qCq;rw [←List.map_drop,←List.map_take]
       have hr:=qGp (P:=E.P) (w:=w) (t:=t) (n:=m) (ad:=⟨b,off,none⟩) (cs:=((l.map (S0.den ρ)).drop off).take m) hn (by simp; omega)
        (fun j v hv=>by rw [←qDi,add_add,qDi]; exact hcell _ _ (sub_get hv))
       rw [hr,SC.den,e1]
    ·cases h
   ·cases h
  ·cases hx
theorem rvs_cons {P:Program} {r:ResultVar} {rs:List ResultVar} {xs:List RV} (h:rvs P (r::rs)=some xs):∃x s,xs=x::s∧rvs P [r]=some [x]∧rvs P rs=some s:=by
 cases r with
 | tmp t =>
  simp only [rvs] at h;split at h
  ·rename_i s hs;cases h;exact ⟨_,_,rfl,rfl,hs⟩
  ·cases h
 | cell a t =>
  simp only [rvs] at h;split at h
  ·rename_i n s hn hs;cases h;exact ⟨_,_,rfl,by simp [rvs,hn],hs⟩
  ·cases h
theorem rvs_run {E:Env} {ρ:Nat→Value} {S:St} {a:Act} {w:World} (hs:Sat E ρ S a w):∀ {rs:List ResultVar} {xs:List RV} {p:Prop} {l:List SC},rvs E.P rs=some xs→resE S xs=some (p,l)→p →
  (rs.mapM (resSem a.tmps)).run E.P w=.ok (l.map (SC.den ρ)) w∧∀v∈l,v.lt S.hp.length
 | [],xs,p,l,hx,h,hp=>by
  simp only [rvs,snJ] at hx;subst hx;simp only [resE,snJ,Prod.mk.injEq] at h;obtain ⟨_,rfl⟩:=h;exact ⟨by simp,fun v hv=>by simp at hv⟩
 | r::rs,xs,p,l,hx,h,hp=>by
  obtain ⟨x,s,rfl,h1,h2⟩:=rvs_cons hx;simp only [resE] at h;split at h
  ·rename_i q v q2 l2 h3 h4;simp only [snJ,Prod.mk.injEq] at h;obtain ⟨rfl,rfl⟩:=h;obtain ⟨e1,e2⟩:=rv_run (rs:=[]) hs h1 h3 hp.1;obtain ⟨e3,e4⟩:=rvs_run hs h2 h4 hp.2;refine ⟨?_,fun u hu=>?_⟩
   ·rw [List.mapM_cons,Sem.run_bind,e1];simp only [Result.andThen_ok,Sem.run_bind,e3,Sem.run_pure,List.map_cons]
   ·rcases List.mem_cons.1 hu with rfl | hu
    ·exact e2
    ·exact e4 u hu
  ·cases h
theorem results_run {E:Env} {ρ:Nat→Value} {S:St} {a:Act} {w:World} (hs:Sat E ρ S a w) {fn:Func} {xs:List RV} {p:Prop} {l:List SC} (hx:rvs E.P fn.results.toList=some xs) (h:resE S xs=some (p,l)) (hp:p) :
  (results fn a.tmps).run E.P w=.ok ((mkRes l).den ρ) w∧(mkRes l).lt S.hp.length:=by
 obtain ⟨e1,e2⟩:=rvs_run hs hx h hp;constructor
 ·have hrs:results fn a.tmps=(do let vs ←fn.results.mapM (resSem a.tmps); pure (if h:vs.size=1 then vs[0] else .tuple vs)):=by
   unfold results;congr 2
  rw [hrs,Array.mapM_eq_mapM_toList];simp only [Sem.run_bind,Sem.run_map,e1,Result.andThen_ok,Sem.run_pure];congr 1
  rcases l with _ | ⟨x,_ | ⟨y,r⟩⟩
  ·rfl
  ·simp [mkRes,SV.den]
  ·simp [mkRes,SV.den]
 ·rcases l with _ | ⟨x,_ | ⟨y,r⟩⟩
  ·exact fun v hv=>by simp at hv
  ·exact e2 x (by simp)
  ·exact e2
theorem Stays.refl (X:Nat→Prop) (w:World):Stays X w w:=⟨rfl,rfl,Nat.le_refl _,fun _ _ _=>rfl⟩
def chk (P:Program) (f:Nat) (raws:List Nat):Option (IC × List RV × Nat) :=
 match P.funcs[f]? with
 | some fn=>match fn.body with
  | some c=>match comp P raws c,rvs P fn.results.toList with
   | some ic,some rv=>some (ic,rv,fn.ntmps)
   | _,_=>none
  | none=>none
 | none=>none
def noX:Nat→Prop:=fun _=>False
theorem HpSat.nil (X:Nat→Prop) (w:World) (ht:qFv X w) (ρ:Nat→Value):HpSat X w w ρ [] :=
 ⟨fun h hh=>by simp at hh,fun h sb hh=>by simp at hh,fun h sb hh=>by simp at hh,fun h h' sb sb' b _ hh=>by simp at hh,ht⟩
theorem HpSat.past {X:Nat→Prop} {w0 w w':World} {ρ:Nat→Value} {hp:List SB} (h:HpSat X w0 w ρ hp) (hf:Stays X w0 w) (hf':Stays (fun _=>False) w w'):HpSat X w0 w' ρ hp∧Stays X w0 w':=by
 have hk:∀k,k<w.heap.size→Same w w' k:=fun k hk=>hf'.block k hk id
 refine ⟨⟨h.ref,fun i sb hi=>SB.sat_keep (h.sat i sb hi) (fun k h1 _=>hk k (Nat.lt_of_lt_of_le h1 hf.size)) (fun k hz=>hk k hz.lt) fun hx k hfp=>hk k (h.fp_lt hi hx hfp).1,h.lt,h.apart,h.tab⟩,?_⟩;exact hf.keep hf'.os hf'.output hf'.size fun k h1 _=>hk k (Nat.lt_of_lt_of_le h1 hf.size)
def word (f:List Value→Option (Prop × Value)):Con:=fun args _ =>
 match vals (args.filterMap fun | .c (.o x)=>some x | _=>none) with
 | some vs=>bif vs.length == args.length then (match f vs with
  | some (p,r)=>some (p,.c (.o (.val r)),none)
  | none=>none) else none
 | none=>none
theorem word_args {ρ:Nat→Value}:∀ {args:List SV} {vs:List Value},vals (args.filterMap fun | .c (.o x)=>some x | _=>none)=some vs→vs.length=args.length→args.map (SV.den ρ)=vs:=by
 intro args;have hle:∀(args:List SV),(args.filterMap fun | .c (.o x)=>some x | _=>none).length≤args.length:=fun args=>List.length_filterMap_le _ _
 have hvl:∀ {l:List S0} {vs:List Value},vals l=some vs→vs.length=l.length:=fun {l vs} h=>by rw [←vals_map (ρ:=ρ) h,List.length_map]
 induction args with
 | nil=>intro vs h hl; simp at hl; subst hl; rfl
 | cons x r ih =>
  intro vs h hl;cases x with
  | tup l =>
   exfalso;have h':vals (r.filterMap fun | .c (.o x)=>some x | _=>none)=some vs:=by simpa using h
   have h1:=hvl h';have h2:=hle r;simp at hl;omega
  | c y =>
   cases y with
   | agg l =>
    exfalso;have h':vals (r.filterMap fun | .c (.o x)=>some x | _=>none)=some vs:=by simpa using h
    have h1:=hvl h';have h2:=hle r;simp at hl;omega
   | o z =>
    simp only [List.filterMap_cons] at h;cases z with
    | val v =>
     simp only [vals] at h;split at h
     ·rename_i s hs;simp only [snJ] at h;subst h;simp only [List.map_cons,SV.den,SC.den,S0.den];rw [ih hs (by simpa using hl)]
     ·cases h
    | hd h0 n=>simp [vals] at h
    | own h0=>simp [vals] at h
    | el h0 i sz n=>simp [vals] at h
    | opt c h0 n=>simp [vals] at h
    | bsl k=>simp [vals] at h
    | prj k i j=>simp [vals] at h
    | pel k i sz n=>simp [vals] at h
theorem Valid.word {P:Program} {f:Nat} {g:List Value→Option (Prop × Value)} (h:∀vs p r,g vs=some (p,r)→p→∀w,qFv noX w→Calls P f vs.toArray w fun e w'=>e=.returned r∧Stays (fun _=>False) w w'):Valid P f (Eng.word g):=by
 intro args hp p r q hC hpp hlt;unfold Eng.word at hC;split at hC
 ·rename_i vs hvs;by_cases hl:vs.length=args.length
  ·simp only [hl,beq_self_eq_true,cnT] at hC;split at hC
   ·rename_i p' r' hg;simp only [snJ,Prod.mk.injEq] at hC;obtain ⟨rfl,rfl,rfl⟩:=hC;refine ⟨trivial,fun X w0 w ρ hhp hf=>?_⟩;rw [word_args hvs hl];refine (h vs _ r' hg hpp w (tab_stable hhp.tab hf.block fun _ _ hx=>hx.elim)).mono ?_;rintro e w' ⟨rfl,hf'⟩
    exact ⟨rfl,hhp.past hf hf'⟩
   ·cases hC
  ·have:(vs.length == args.length)=false:=by simpa using hl
   rw [this] at hC;cases hC
 ·cases hC
theorem Fixed.lt {w:World} {b:Nat} (h:Fixed noX w w b):b<w.heap.size:=by
 rcases h with h | h
 ·exact h.1
 ·exact Froz.lt h
theorem HpSat.fixed_no {X:Nat→Prop} {w0 w:World} {ρ:Nat→Value} {hp:List SB} (h:HpSat X w0 w ρ hp) {b:Nat} (hb:Fixed X w0 w b) {i:Nat} {sb:SB} (hi:hp[i]?=some sb) (hx:sb.ex=true) (hk:b∈fp (ρ i)):False:=by
 rcases hb with ⟨h1,h2⟩ | h1
 ·rcases (h.fp_lt hi hx hk).2 with hx | hx
  ·omega
  ·exact h2 hx
 ·exact h.thaw hi hx hk h1
theorem HpSat.viewOf {X:Nat→Prop} {w0 w:World} {ρ:Nat→Value} {hp:List SB} (h:HpSat X w0 w ρ hp) (hf:Stays X w0 w) {i:Nat} {t:ET} {l:List t.T} (hsb:(∃e,hp[i]?=some (.row t e l))∨hp[i]?=some (.view t l)):ViewAt noX w w t (ρ i) l:=by
 rcases hsb with ⟨e,hsb⟩ | hsb
 ·obtain ⟨h1,h2⟩:=h.sat i _ hsb;rcases h1.2 with ⟨hv,hn⟩ | ⟨g,cap,cur,hv,hb,hg,hnc,hcm,hcs,htake⟩
  ·have hnil:l=[]:=List.eq_nil_of_length_eq_zero hn;subst hnil;exact ⟨none,0,hv,Nat.le_refl _,fun j u hu=>by simp at hu⟩
  ·refine ⟨_,cap,hv,hnc,fun j u hu=>⟨_,rfl,World.ownsRow.cells h1 (g:=g) (by rw [hv]; rfl) j u hu,(.inl ⟨(Array.getElem?_eq_some_iff.1 hg).1,id⟩)⟩⟩
 ·obtain ⟨a,cap,hv,hc,h1⟩:=h.sat i _ hsb;refine ⟨a,cap,hv,hc,fun j u hu=>?_⟩;obtain ⟨ad,ha,h2,h3⟩:=h1 j u hu;refine ⟨ad,ha,h2,.inl ⟨?_,id⟩⟩;rcases h3 with ⟨h3,_⟩ | h3
  ·exact Nat.lt_of_lt_of_le h3 hf.size
  ·exact h3.lt
def S0.shut:S0→Bool
 | .val _=>true
 | _=>false
def SC.shut:SC→Bool
 | .o x=>x.shut
 | .agg l=>l.all S0.shut
def SV.shut:SV→Bool
 | .c x=>x.shut
 | .tup l=>l.all SC.shut
theorem S0.shut_den {x:S0} (h:x.shut=true) (ρ ρ':Nat→Value):x.den ρ=x.den ρ':=by
 cases x <;> first | rfl | cases h
theorem S0.shut_lt {x:S0} (h:x.shut=true) (n:Nat):x.lt n:=by
 cases x <;> first | trivial | cases h
theorem S0.shut_map {l:List S0} (h:l.all S0.shut=true) (ρ ρ':Nat→Value):l.map (S0.den ρ)=l.map (S0.den ρ') :=
 List.map_congr_left fun x hx=>S0.shut_den (List.all_eq_true.1 h x hx) ρ ρ'
theorem SC.shut_den {x:SC} (h:x.shut=true) (ρ ρ':Nat→Value):x.den ρ=x.den ρ':=by
 cases x with
 | o y=>exact S0.shut_den h ρ ρ'
 | agg l =>
  show Value.agg _=Value.agg _;rw [S0.shut_map h ρ ρ']
theorem SC.shut_lt {x:SC} (h:x.shut=true) (n:Nat):x.lt n:=by
 cases x with
 | o y=>exact S0.shut_lt h n
 | agg l=>exact fun y hy=>S0.shut_lt (List.all_eq_true.1 h y hy) n
theorem SV.shut_den {x:SV} (h:x.shut=true) (ρ ρ':Nat→Value):x.den ρ=x.den ρ':=by
 cases x with
 | c y=>exact SC.shut_den h ρ ρ'
 | tup l =>
  show Value.tuple _=Value.tuple _;rw [show l.map (SC.den ρ)=l.map (SC.den ρ') from List.map_congr_left fun y hy=>SC.shut_den (List.all_eq_true.1 h y hy) ρ ρ']
theorem SV.shut_lt {x:SV} (h:x.shut=true) (n:Nat):x.lt n:=by
 cases x with
 | c y=>exact SC.shut_lt h n
 | tup l=>exact fun y hy=>SC.shut_lt (List.all_eq_true.1 h y hy) n
end Go.Eng
