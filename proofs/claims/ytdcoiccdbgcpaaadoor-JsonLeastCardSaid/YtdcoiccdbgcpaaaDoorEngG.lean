/-
  Bags and maps: how their elements and references are laid. No program.
-/
import Derived.MapKept
import Derived.ChangeMaps5
import Derived.Carry
import Derived.Test.YtdcoiccdbgcpaaaDoorEngH
namespace Go.Eng
set_option linter.unusedVariables false
set_option linter.unusedSimpArgs false
theorem qEq {v:Value} (h:qDr v):v.oneCell'=true:=by cases v <;> simp_all [qDr,Value.oneCell']
theorem isRef_ptr {v:Value} {n:Nat} (h:qDr v):qDr (ptrAdd v n):=by
 cases v <;> simp_all [qDr,ptrAdd]
 rename_i a; cases a <;> simp_all [qDr,ptrAdd]
theorem isRef_el {v:Value} {n:Nat} (h:qDr v):qDr (qC2 v n):=by
 cases v <;> simp_all [qDr,qC2]
 rename_i a _ _; cases a <;> simp_all [qDr,qC2]
theorem cells_one {v:Value} (h:v.oneCell'=true):v.cells = #[v]:=by cases v <;> simp_all [Value.cells,Value.oneCell']
theorem isRef_base {v:Value} {n:Nat} (h:v.oneCell'=true):(qC2 v n).oneCell'=true:=by
 cases v <;> simp_all [qC2,Value.oneCell']
 rename_i a _ _; cases a <;> simp_all [qC2,Value.oneCell']
theorem S0.den_one {ρ:Nat→Value} {n:Nat} (hr:∀i<n,qDr (ρ i)) {x:S0} (hl:x.lt n) (ho:x.one):(x.den ρ).oneCell'=true:=by
 cases x with
 | val v=>exact ho
 | hd h k=>exact qEq (isRef_ptr (hr h hl))
 | own h=>exact qEq (hr h hl)
 | el h i sz k=>exact qEq (isRef_el (hr h hl))
 | opt c h k =>
  cases c with
  | true=>exact qEq (isRef_ptr (hr h hl))
  | false=>rfl
 | bsl k=>exact baseV_one _
 | prj k i j=>exact projV_one _ _ _
 | pel k i sz off=>exact isRef_base (baseV_one _)
theorem allOne_den {ρ:Nat→Value} {n:Nat} (hr:∀i<n,qDr (ρ i)):∀ {l:List S0},(∀x∈l,x.lt n)→allOne l→∀v∈l.map (S0.den ρ),v.oneCell'=true
 | [],_,_,v,hv=>by simp at hv
 | x::r,hl,ho,v,hv=>by
  simp only [List.map_cons,List.mem_cons] at hv;rcases hv with rfl | hv
  ·exact S0.den_one hr (hl x (by simp)) ho.1
  ·exact allOne_den hr (fun y hy=>hl y (by simp [hy])) ho.2 v hv
theorem SV.cells_den {ρ:Nat→Value} {n:Nat} (hr:∀i<n,qDr (ρ i)) {v:SV} {l:List S0} (h:v.cells=some l) (hl:v.lt n):(v.den ρ).cells=(l.map (S0.den ρ)).toArray∧∀x∈l,x.lt n:=by
 unfold SV.cells at h;split at h
 ·cases h
 ·cases h
 ·rename_i x h1 h2;simp only [snJ] at h;subst h;refine ⟨?_,fun y hy=>by simp at hy; subst hy; exact hl⟩;simp only [SV.den,SC.den,List.map_cons,List.map_nil];apply cells_one;cases x with
  | val v=>cases v <;> first | rfl | (exact absurd rfl (h1 _)) | (exact absurd rfl (h2 _))
  | hd h k=>exact qEq (isRef_ptr (hr h hl))
  | own h=>exact qEq (hr h hl)
  | el h i sz k=>exact qEq (isRef_el (hr h hl))
  | opt c h k =>
   cases c with
   | true=>exact qEq (isRef_ptr (hr h hl))
   | false=>rfl
  | bsl k=>exact baseV_one _
  | prj k i j=>exact projV_one _ _ _
  | pel k i sz off=>exact isRef_base (baseV_one _)
 ·rename_i l';simp only [snJ] at h;subst h;exact ⟨rfl,hl⟩
 ·cases h
theorem setL_length:∀(cs:List S0) (l:List S0) (i:Nat),(setL l i cs).length=l.length
 | [],l,i=>rfl
 | x::r,l,i=>by simp [setL,setL_length r]
theorem setL_mem {p:S0→Prop}:∀(cs:List S0) (l:List S0) (i:Nat),(∀x∈cs,p x)→(∀x∈l,p x)→∀x∈setL l i cs,p x
 | [],l,i,_,hl=>hl
 | x::r,l,i,hc,hl=>setL_mem r _ _ (fun y hy=>hc y (by simp [hy])) fun y hy=>by
  rcases List.mem_or_eq_of_mem_set hy with h | rfl
  ·exact hl y h
  ·exact hc y (by simp)
theorem qEp (f:S0→Value):∀(cs:List S0) (l:List S0) (i:Nat),i+cs.length≤l.length →
  (setL l i cs).map f=(l.map f).take i++cs.map f++(l.map f).drop (i+cs.length)
 | [],l,i,h=>by simp [setL]
 | x::r,l,i,h=>by
  simp only [List.length_cons] at h;simp only [setL,List.map_cons];rw [qEp f r (l.set i x) (i+1) (by simp; omega),List.map_set];have hi:i<(l.map f).length:=by simp; omega
  rw [List.take_set,List.drop_set_of_lt (by omega),List.take_succ_eq_append_getElem hi,List.set_append_right _ _ (by simp; omega)];have h0:i - (List.take i (l.map f)).length=0:=by
   have:i<l.length:=by omega
   simp; omega
  rw [h0];simp only [List.set_cons_zero,List.append_assoc,List.cons_append,List.nil_append];rw [show i+1+r.length=i+(r.length+1) by omega];rfl
theorem fold_setL (f:S0→Value) (off:Nat):∀(cs:List S0) (k:Nat) (l:List S0),
  ((cs.map f).zipIdx k).foldl (fun (acc:Array Value) (p:Value × Nat)=>acc.setIfInBounds (off+p.2) p.1) (l.map f).toArray=((setL l (off+k) cs).map f).toArray
 | [],k,l=>rfl
 | x::r,k,l=>by
  simp only [List.map_cons,List.zipIdx_cons,List.foldl_cons,setL];rw [show ((l.map f).toArray.setIfInBounds (off+k) (f x))=((l.set (off+k) x).map f).toArray by simp [List.map_set]];rw [fold_setL f off r (k+1) (l.set (off+k) x)];rfl
section
variable {E:Env} {ρ:Nat→Value} {S:St} {a:Act} {o:Oper} {act:Prop}
theorem mv_ok (hs:qE4 ρ S a) (hact:act) {x:Operand} {y:Arg} (hx:arg x=some y) (ho:o.op=.move x∨o.op=.assign x) {Γ:Nat→Option Con}:OpOK E ρ S a o (runP Γ S act (.mv y)):=by
 simp only [runP];split
 ·rename_i p v h;refine qAj (fun hp=>(qAf hs hact hx h hp).2) (fun hp w0 _ w=>?_);obtain ⟨h1,_⟩:=qAf hs hact hx h hp;rcases ho with ho | ho <;> (unfold execOp; simp [ho,h1])
 ·trivial
theorem pickB_sound {c:Bool} {u v:Value} {p:Prop} {z:SV} (h:pickB c u v=.still p z):z=.c (.o (.val (if c then u else v))):=by
 unfold pickB at h;split at h <;> simp only [ret1,RR.still.injEq,reduceCtorEq] at h <;> obtain ⟨_,rfl⟩:=h <;> cases c <;> simp
 
theorem pick_ok (hs:qE4 ρ S a) (hact:act) {c x y:Operand} {c' x' y':Arg} (hc:arg c=some c') (hx:arg x=some x') (hy:arg y=some y') (ho:o.op=.pick c x y) {Γ:Nat→Option Con} :
  OpOK E ρ S a o (runP Γ S act (.pick c' x' y')):=by
 simp only [runP];split
 ·rename_i pc cb h1;split
  ·rename_i pa va pb vb h2 h3;split
   ·rename_i q v h4;have hv:=pickB_sound h4;subst hv;refine qAj (fun hp=>trivial) (fun hp w0 _ w=>?_);obtain ⟨e1,_⟩:=qAf hs hact hc h1 hp.1;unfold execOp;cases cb
    ·obtain ⟨e3,_⟩:=qAf hs ⟨hact,rfl⟩ hy h3 hp.2.2;simp [ho,e1,e3,SV.den,SC.den,S0.den,asBool]
    ·obtain ⟨e2,_⟩:=qAf hs ⟨hact,rfl⟩ hx h2 hp.2.1;simp [ho,e1,e2,SV.den,SC.den,S0.den,asBool]
   ·trivial
  ·rename_i pa v h2 _;refine qAj (fun hp=>(qAf hs ⟨hact,hp.2.1 hact⟩ hx h2 (hp.2.2 hp.2.1)).2) (fun hp w0 _ w=>?_);obtain ⟨e1,_⟩:=qAf hs hact hc h1 hp.1;obtain ⟨e2,_⟩:=qAf hs ⟨hact,hp.2.1 hact⟩ hx h2 (hp.2.2 hp.2.1);have hcb:=hp.2.1 hact;subst hcb;unfold execOp;simp [ho,e1,e2,SV.den,SC.den,S0.den,asBool]
  ·rename_i pb v _ h3;refine qAj (fun hp=>(qAf hs ⟨hact,hp.2.1 hact⟩ hy h3 (hp.2.2 hp.2.1)).2) (fun hp w0 _ w=>?_);obtain ⟨e1,_⟩:=qAf hs hact hc h1 hp.1;obtain ⟨e2,_⟩:=qAf hs ⟨hact,hp.2.1 hact⟩ hy h3 (hp.2.2 hp.2.1);have hcb:=hp.2.1 hact;subst hcb;unfold execOp;simp [ho,e1,e2,SV.den,SC.den,S0.den,asBool]
  ·trivial
 ·trivial
theorem conv_ok {s d:TypeId} {x:Operand} {ks k k':IntKind} {n:Int} (raw:Bool) (h1:E.P.underlying s=some (.int ks)) (h2:E.P.underlying d=some (.int k)) (hx:a.eval x=.int k' n) (ho:o.op=.convert s d x) :
  OpOK E ρ S a o (fit raw k n):=by
 refine fit_ok fun w=>?_
 unfold execOp;simp [ho,hx,convert,run_underlying h1,run_underlying h2,Conv.intToInt]
theorem strc_ok (hs:qE4 ρ S a) (hact:act) {s d:TypeId} {x:Operand} {y:Arg} (h1:E.P.underlying s=some .string) (h2:E.P.underlying d=some .string) (hx:arg x=some y) (ho:o.op=.convert s d x) {Γ:Nat→Option Con} :
  OpOK E ρ S a o (runP Γ S act (.strc y)):=by
 simp only [runP];split
 ·rename_i p s' h;refine qAj (fun hp=>trivial) (fun hp w0 _ w=>?_);obtain ⟨e1,_⟩:=qAf hs hact hx h hp;unfold execOp;simp [ho,e1,SV.den,SC.den,S0.den,convert,run_underlying h1,run_underlying h2]
 ·trivial
theorem zero_of {P:Program} {t:Nat} {z:List Value} (h:qB2 P t=some z):∃i v,P.info? t=some i∧i.zero=some v∧v.cells.toList=z:=by
 unfold qB2 at h;split at h
 ·rename_i i hi;split at h
  ·rename_i v hv;exact ⟨i,v,hi,hv,by simpa using h⟩
  ·cases h
 ·cases h
theorem qF6 {P:Program} {t:Nat} {i:TypeInfo} {v:Value} (h:P.info? t=some i) (hz:i.zero=some v) (w:World):(zeroValue t).run P w=.ok v w:=by
 simp [zeroValue,typeInfo,h,hz]
theorem new_ok {p:Prop} {e:Nat} {l:List S0} (hl:p→∀x∈l,x.lt S.hp.length)
  (h:p→∀w,Cls E ρ S.hp w→(execOp a.eval o).run E.P w=.ok (.value (.pointer (some ⟨w.heap.size,0,none⟩))) (w.alloc (.cells (l.map (S0.den ρ)).toArray e))) :
  OpOK E ρ S a o (.ok p (.c (.o (.hd S.hp.length 0))) (S.hp++[.cells e l])):=by
 intro hp;refine ⟨by simp [SV.lt,SC.lt,S0.lt],by simp,fun w hw K Q hK=>?_⟩;have hr:=h hp w hw;have hll:=hl hp;obtain ⟨ρ',hag,hnew,hsat⟩:=hw.1.alloc hw.2 (.cells (l.map (S0.den ρ)).toArray e) (.cells e l) (.pointer (some ⟨w.heap.size,0,none⟩)) rfl
  (fun ρ' hag hn=>⟨w.heap.size,rfl,by rw [heap_alloc_new w,show l.map (S0.den ρ')=l.map (S0.den ρ) from List.map_congr_left fun y hy=>S0.den_congr hag (hll y hy)],.inl hw.2.size⟩)
  (fun x hx=>S0.lt_mono (Nat.le_succ _) (hll x hx)) trivial
 have:=hK ρ' _ hag ⟨hsat,hw.2.alloc _⟩;simp only [SV.den,SC.den,S0.den,hnew,ptrAdd,Addr.add,if_true] at this;unfold Oper.wp;rw [hr];exact this
theorem alloc_ok {e:Nat} {z:List Value} (hz:qB2 E.P e=some z) (ho:o.op=.alloc e) {Γ:Nat→Option Con}:OpOK E ρ S a o (runP Γ S act (.alloc e z)):=by
 obtain ⟨i,v,h1,h2,rfl⟩:=zero_of hz;refine new_ok (fun _ x hx=>?_) (fun _ w _=>?_)
 ·simp only [List.mem_map] at hx;obtain ⟨u,_,rfl⟩:=hx;trivial
 ·have e1:(v.cells.toList.map S0.val).map (S0.den ρ)=v.cells.toList:=by
   rw [List.map_map];exact (List.map_congr_left fun _ _=>rfl).trans (List.map_id _)
  rw [e1];unfold execOp;simp [ho,Instr.alloc,qF6 h1 h2,newVar,newRow]
theorem box_ok (hw0:∀i<S.hp.length,qDr (ρ i)) (hs:qE4 ρ S a) (hact:act) {e n:Nat} {x:Operand} {y:Arg} (hx:arg x=some y) (ho:o.op=.box e x) {Γ:Nat→Option Con}:OpOK E ρ S a o (runP Γ S act (.box e n y)):=by
 simp only [runP];split
 ·rename_i p v h;split
  ·rename_i l hl;refine new_ok (fun hp=>?_) (fun hp w _=>?_)
   ·exact (SV.cells_den hw0 hl (qAf hs hact hx h hp).2).2
   ·obtain ⟨e1,e2⟩:=qAf hs hact hx h hp;have e3:=(SV.cells_den hw0 hl e2).1;unfold execOp;simp [ho,e1,Instr.box,newVar,newRow,e3]
  ·trivial
 ·trivial
theorem qFf (hw0:∀i<S.hp.length,qDr (ρ i)) (hs:qE4 ρ S a) (hact:act) (place:Nat→Option (Nat × Nat)) :
  ∀(ps:List (Nat × Operand)) (rs:List (Nat × Nat × Arg)) (l m:List S0) (p:Prop),
   (ps.map fun x=>(place x.1,arg x.2))=(rs.map fun x=>(some (x.1,x.2.1),some x.2.2))→fillL S act rs l=some (p,m)→p→(∀x∈l,x.lt S.hp.length) →
   Instr.fill place (l.map (S0.den ρ)).toArray (ps.map fun x=>(x.1,a.eval x.2))=some (m.map (S0.den ρ)).toArray∧(∀x∈m,x.lt S.hp.length)
 | [],rs,l,m,p,hr,h,hp,hlt=>by
  cases rs with
  | nil =>
   simp only [fillL,snJ,Prod.mk.injEq] at h;obtain ⟨_,rfl⟩:=h;exact ⟨rfl,hlt⟩
  | cons _ _=>simp at hr
 | (i,x)::ps,rs,l,m,p,hr,h,hp,hlt=>by
  cases rs with
  | nil=>simp at hr
  | cons r rs =>
   obtain ⟨off,sz,y⟩:=r;simp only [List.map_cons,List.cons.injEq,Prod.mk.injEq] at hr;obtain ⟨⟨h1,h2⟩,hr⟩:=hr;simp only [fillL] at h;split at h
   ·rename_i q v hv;split at h
    ·rename_i cs hcs;cases hb:(cs.length == sz && Nat.ble (off+sz) l.length) with
     | false=>rw [hb] at h; simp at h
     | true =>
      rw [hb] at h;simp only [cnT] at h;split at h
      ·rename_i q2 m2 h3;simp only [snJ,Prod.mk.injEq] at h;obtain ⟨rfl,rfl⟩:=h;obtain ⟨e1,e2⟩:=qAf hs hact h2 hv hp.1;obtain ⟨e3,e4⟩:=SV.cells_den hw0 hcs e2;simp only [Bool.and_eq_true,beq_iff_eq,Nat.ble_eq] at hb;obtain ⟨i1,i2⟩:=qFf hw0 hs hact place ps rs (setL l off cs) m2 q2 hr h3 hp.2 (setL_mem cs l off e4 hlt);refine ⟨?_,i2⟩;simp only [List.map_cons,Instr.fill,h1,e1,e3];have hsz:¬((cs.map (S0.den ρ)).toArray.size≠sz):=by simp [hb.1]
       have hle:¬(off+(cs.map (S0.den ρ)).toArray.size > (l.map (S0.den ρ)).toArray.size):=by simp; omega
       simp only [hsz,hle,decide_false,Bool.or_self,Bool.false_eq_true,if_false];rw [←i1];congr 1
       have:=fold_setL (S0.den ρ) off cs 0 l;simp only [Nat.add_zero] at this;rw [←this,←Array.foldl_toList];simp [Array.toList_zipIdx]
      ·cases h
    ·cases h
   ·cases h
theorem places_spec {P:Program} {fs:List Field}:∀ {ps:List (Nat × Operand)} {rs:List (Nat × Nat × Arg)},places P fs ps=some rs →
  ∀place:Nat→Option (Nat × Nat),(∀(i:Nat) (f:Field) (ti:TypeInfo),fs[i]?=some f→P.info? f.type=some ti→place i=some (f.offset,ti.size)) →
  (ps.map fun x=>(place x.1,arg x.2))=(rs.map fun x=>(some (x.1,x.2.1),some x.2.2))
 | [],rs,h,place,_=>by simp only [places,snJ] at h; subst h; rfl
 | (i,x)::ps,rs,h,place,hpl=>by
  simp only [places] at h;split at h
  ·rename_i f y s h1 h2 h3;split at h
   ·rename_i ti h4;simp only [snJ] at h;subst h;simp only [List.map_cons,h2,hpl i f ti h1 h4,places_spec h3 place hpl]
   ·cases h
  ·cases h
theorem placesA_spec {sz:Nat}:∀ {ps:List (Nat × Operand)} {rs:List (Nat × Nat × Arg)},placesA sz ps=some rs →
  (ps.map fun x=>((fun i=>some (i*sz,sz)) x.1,arg x.2))=(rs.map fun x=>(some (x.1,x.2.1),some x.2.2))
 | [],rs,h=>by simp only [placesA,snJ] at h; subst h; rfl
 | (i,x)::ps,rs,h=>by
  simp only [placesA] at h;split at h
  ·rename_i y s h1 h2;simp only [snJ] at h;subst h;simp only [List.map_cons,h1,placesA_spec h2]
  ·cases h
theorem run_mapM_list {α β:Type} {P:Program} {w:World} (f:α→Sem β) (g:α→β):∀(l:List α),(∀x∈l,(f x).run P w=.ok (g x) w)→(l.mapM f).run P w=.ok (l.map g) w
 | [],_=>by simp
 | x::l,h=>by
  have h1:=h x (by simp);have h2:=run_mapM_list f g l fun y hy=>h y (by simp [hy])
  simp [List.mapM_cons,h1,h2]
theorem build_ok (hw0:∀i<S.hp.length,qDr (ρ i)) (hs:qE4 ρ S a) (hact:act) {t:Nat} {fs:Array Field} {z:List Value} {ps:Array (Nat × Operand)} {rs:List (Nat × Nat × Arg)}
  (hu:E.P.underlying t=some (.struct fs)) (hz:qB2 E.P t=some z) (hps:places E.P fs.toList ps.toList=some rs) (hall:fs.toList.all (fun f=>(E.P.info? f.type).isSome)=true) (ho:o.op=.build t ps) {Γ:Nat→Option Con} :
  OpOK E ρ S a o (runP Γ S act (.build z rs)):=by
 obtain ⟨i,v,h1,h2,rfl⟩:=zero_of hz;simp only [runP];split
 ·rename_i p l h;have hplace:∀(i:Nat) (f:Field) (ti:TypeInfo),fs.toList[i]?=some f→E.P.info? f.type=some ti→((fs.toList.map fun f=>(f.offset,E.P.cellsOf f.type)).toArray)[i]?=some (f.offset,ti.size):=by
   intro i f ti hf hti;simp only [List.getElem?_toArray,List.getElem?_map,hf,Option.map_some,Program.cellsOf,hti,Option.getD_some]
  have hsp:=places_spec hps _ hplace;have e1:(v.cells.toList.map S0.val).map (S0.den ρ)=v.cells.toList:=by
   rw [List.map_map];exact (List.map_congr_left fun _ _=>rfl).trans (List.map_id _)
  have key:p→Instr.fill (fun i=>((fs.toList.map fun f=>(f.offset,E.P.cellsOf f.type)).toArray)[i]?) v.cells (ps.toList.map fun x=>(x.1,a.eval x.2))=some (l.map (S0.den ρ)).toArray∧(∀x∈l,x.lt S.hp.length):=by
   intro hp;have:=qFf hw0 hs hact _ ps.toList rs _ l p hsp h hp (fun x hx=>by
    simp only [List.mem_map] at hx;obtain ⟨u,_,rfl⟩:=hx;trivial)
   rw [e1] at this;exact this
  refine qAj (fun hp=>(key hp).2) (fun hp w0 _ w=>?_);have hm:((fs.mapM fun f=>do pure (f.offset,←sizeOf f.type)):Sem (Array (Nat × Nat))).run E.P w=.ok ((fs.toList.map fun f=>(f.offset,E.P.cellsOf f.type)).toArray) w:=by
   rw [Array.mapM_eq_mapM_toList];rw [Sem.run_map,run_mapM_list _ (fun f:Field=>(f.offset,E.P.cellsOf f.type))]
   ·rfl
   ·intro f hf;have:=List.all_eq_true.1 hall f hf;obtain ⟨ti,hti⟩:=Option.isSome_iff_exists.1 this;simp [sizeOf,typeInfo,hti,Program.cellsOf]
  unfold execOp;simp only [ho,Instr.build,Sem.run_bind,qF6 h1 h2,Result.andThen_ok,run_underlying hu,hm];have hk:=(key hp).1;have:(Array.map (fun x=>match x with | (i,x)=>(i,a.eval x)) ps).toList=ps.toList.map fun x=>(x.1,a.eval x.2):=by simp
  rw [this,hk];rfl
 ·trivial
theorem buildA_ok {Γ:Nat→Option Con} (hw0:∀i<S.hp.length,qDr (ρ i)) (hs:qE4 ρ S a) (hact:act) {t n e:Nat} {i0:TypeInfo} {z:List Value} {ps:Array (Nat × Operand)} {rs:List (Nat × Nat × Arg)}
  (hu:E.P.underlying t=some (.array n e)) (hz:qB2 E.P t=some z) (hi:E.P.info? e=some i0) (hps:placesA i0.size ps.toList=some rs) (ho:o.op=.build t ps) :
  OpOK E ρ S a o (runP Γ S act (.build z rs)):=by
 obtain ⟨i,v,h1,h2,rfl⟩:=zero_of hz;simp only [runP];split
 ·rename_i p l h;have hsp:=placesA_spec hps;have e1:(v.cells.toList.map S0.val).map (S0.den ρ)=v.cells.toList:=by
   rw [List.map_map];exact (List.map_congr_left fun _ _=>rfl).trans (List.map_id _)
  have key:p→Instr.fill (fun i=>some (i*i0.size,i0.size)) v.cells (ps.toList.map fun x=>(x.1,a.eval x.2))=some (l.map (S0.den ρ)).toArray∧(∀x∈l,x.lt S.hp.length):=by
   intro hp;have:=qFf hw0 hs hact (fun i=>some (i*i0.size,i0.size)) ps.toList rs _ l p hsp h hp (fun x hx=>by
    simp only [List.mem_map] at hx;obtain ⟨u,_,rfl⟩:=hx;trivial)
   rw [e1] at this;exact this
  refine qAj (fun hp=>(key hp).2) (fun hp w0 _ w=>?_);have hsz:∀w,(sizeOf e).run E.P w=.ok i0.size w:=fun w=>by simp [sizeOf,typeInfo,hi]
  unfold execOp;simp only [ho,Instr.build,Sem.run_bind,qF6 h1 h2,Result.andThen_ok,run_underlying hu,hsz];have hk:=(key hp).1;have:(Array.map (fun x=>match x with | (i,x)=>(i,a.eval x)) ps).toList=ps.toList.map fun x=>(x.1,a.eval x.2):=by simp
  rw [this,hk];rfl
 ·trivial
end
end Go.Eng
namespace Go.Eng
set_option linter.unusedVariables false
set_option linter.unusedSimpArgs false
theorem qA3:∀(ks:List NK) (x:NT ks) (vs:List Value),(qA1 ks x vs).length=ks.length
 | [],_,_=>rfl
 | .int _::r,x,vs=>by simp only [qA1,List.length_cons,qA3 r]
 | .bool::r,x,vs=>by simp only [qA1,List.length_cons,qA3 r]
 | .str::r,x,vs=>by simp only [qA1,List.length_cons,qA3 r]
 | .map::r,x,vs=>by simp only [qA1,List.length_cons,qA3 r]
theorem qEh {ks:List NK}:∀ {l:List (NT ks)} {rs:List (List Value)},rs.length=l.length→(qA8 ks l rs).length=l.length*ks.length
 | [],[],_=>by simp [qA8]
 | x::l,r::rs,h=>by
  simp only [qA8,List.length_append,qA3,List.length_cons];rw [qEh (l:=l) (rs:=rs) (by simpa using h),Nat.add_mul];omega
 | [],_::_,h=>by simp at h
 | _::_,[],h=>by simp at h
theorem qA6.len {X:Nat→Prop} {w0 w:World} {ks:List NK}:∀ {l:List (NT ks)} {rs:List (List Value)},qA6 X w0 w ks l rs→rs.length=l.length
 | [],[],_=>rfl
 | x::l,r::rs,h=>by simp only [List.length_cons,qA6.len h.2]
 | [],_::_,h=>h.elim
 | _::_,[],h=>h.elim
theorem qA6.at {X:Nat→Prop} {w0 w:World} {ks:List NK} (d:NT ks):∀ {l:List (NT ks)} {rs:List (List Value)},qA6 X w0 w ks l rs→∀ {i:Nat},i<l.length→∃r,rs[i]?=some r∧qBg X w0 w ks (l.getD i d) r
 | [],[],_,i,hi=>by simp at hi
 | x::l,r::rs,h,i,hi=>by
  cases i with
  | zero=>exact ⟨r,rfl,h.1⟩
  | succ i =>
   obtain ⟨r',h1,h2⟩:=qA6.at d h.2 (i:=i) (by simpa using hi);exact ⟨r',by simpa using h1,by simpa [List.getD] using h2⟩
 | [],_::_,h,_,_=>h.elim
 | _::_,[],h,_,_=>h.elim
theorem bagVals_get {ks:List NK} (d:NT ks):∀(l:List (NT ks)) (rs:List (List Value)) (i k:Nat) (r:List Value) (u:Value),rs.length=l.length→rs[i]?=some r→(qA1 ks (l.getD i d) r)[k]?=some u→(qA8 ks l rs)[i*ks.length+k]?=some u
 | [],[],i,k,r,u,_,hr,_=>by simp at hr
 | x::l,r0::rs,i,k,r,u,h,hr,hu=>by
  have hk:k<ks.length:=by
   have:=(List.getElem?_eq_some_iff.1 hu).1;rwa [qA3] at this
  cases i with
  | zero =>
   simp at hr;subst hr;simp only [qA8,Nat.zero_mul,Nat.zero_add];rw [List.getElem?_append_left (by rw [qA3]; exact hk)];simpa [List.getD] using hu
  | succ i =>
   simp only [qA8];rw [List.getElem?_append_right (by rw [qA3,Nat.add_mul]; omega),qA3,show (i+1)*ks.length+k - ks.length=i*ks.length+k by rw [Nat.add_mul]; omega];exact bagVals_get d l rs i k r u (by simpa using h) (by simpa using hr) (by simpa [List.getD] using hu)
 | [],_::_,_,_,_,_,h,_,_=>by simp at h
 | _::_,[],_,_,_,_,h,_,_=>by simp at h
theorem bagVals_append {ks:List NK}:∀(l m:List (NT ks)) (rs qs:List (List Value)),rs.length=l.length→qA8 ks (l++m) (rs++qs)=qA8 ks l rs++qA8 ks m qs
 | [],m,[],qs,_=>rfl
 | x::l,m,r::rs,qs,h=>by
  simp only [List.cons_append,qA8,List.append_assoc];rw [bagVals_append l m rs qs (by simpa using h)]
 | [],_,_::_,_,h=>by simp at h
 | _::_,_,[],_,h=>by simp at h
theorem bagVals_take {ks:List NK}:∀(l:List (NT ks)) (rs:List (List Value)) (n:Nat),rs.length=l.length→qA8 ks (l.take n) (rs.take n)=(qA8 ks l rs).take (n*ks.length)
 | [],[],n,_=>by simp [qA8]
 | x::l,r::rs,n,h=>by
  cases n with
  | zero=>simp [qA8]
  | succ n =>
   simp only [List.take_succ_cons,qA8];have e1:((qA1 ks x r).take ((n+1)*ks.length))=qA1 ks x r:=List.take_of_length_le (by rw [qA3,Nat.add_mul]; omega);rw [bagVals_take l rs n (by simpa using h),List.take_append,e1,qA3,show (n+1)*ks.length - ks.length=n*ks.length by rw [Nat.add_mul]; omega]
 | [],_::_,_,h=>by simp at h
 | _::_,[],_,h=>by simp at h
theorem bagVals_set {ks:List NK} (y:NT ks):∀(l:List (NT ks)) (rs:List (List Value)) (i:Nat) (r:List Value),rs.length=l.length→rs[i]?=some r →
  qA8 ks (l.set i y) rs=(qA8 ks l rs).take (i*ks.length)++qA1 ks y r++(qA8 ks l rs).drop ((i+1)*ks.length)
 | [],[],i,r,_,hr=>by simp at hr
 | x::l,r0::rs,i,r,h,hr=>by
  cases i with
  | zero =>
   simp at hr;subst hr;simp only [List.set_cons_zero,qA8,Nat.zero_mul,List.take_zero,List.nil_append,Nat.zero_add,Nat.one_mul];rw [List.drop_left' (qA3 ..)]
  | succ i =>
   simp only [List.set_cons_succ,qA8];have e1:((qA1 ks x r0).take ((i+1)*ks.length))=qA1 ks x r0:=List.take_of_length_le (by rw [qA3,Nat.add_mul]; omega);have e2:((qA1 ks x r0).drop ((i+1+1)*ks.length))=[]:=List.drop_eq_nil_of_le (by rw [qA3,Nat.add_mul,Nat.add_mul]; omega);rw [bagVals_set y l rs i r (by simpa using h) (by simpa using hr),List.take_append,e1,qA3,show (i+1)*ks.length - ks.length=i*ks.length by rw [Nat.add_mul]; omega,
    List.drop_append,e2,qA3,show (i+1+1)*ks.length - ks.length=(i+1)*ks.length by rw [Nat.add_mul (i+1)]; omega]
   simp only [List.append_assoc,List.nil_append]
 | [],_::_,_,_,h,_=>by simp at h
 | _::_,[],_,_,h,_=>by simp at h
theorem bagVals_el {ks:List NK} (d:NT ks):∀(l:List (NT ks)) (rs:List (List Value)) (i:Nat) (r:List Value),rs.length=l.length→rs[i]?=some r →
  qA1 ks (l.getD i d) r=((qA8 ks l rs).drop (i*ks.length)).take ks.length
 | [],[],i,r,_,hr=>by simp at hr
 | x::l,r0::rs,i,r,h,hr=>by
  cases i with
  | zero =>
   simp at hr;subst hr;simp only [List.getD,List.getElem?_cons_zero,Option.getD_some,qA8,Nat.zero_mul,List.drop_zero];rw [List.take_left' (qA3 ..)]
  | succ i =>
   simp only [List.getD,List.getElem?_cons_succ,qA8];have:=bagVals_el d l rs i r (by simpa using h) (by simpa using hr);rw [List.getD] at this;have e2:((qA1 ks x r0).drop ((i+1)*ks.length))=[]:=List.drop_eq_nil_of_le (by rw [qA3,Nat.add_mul]; omega);rw [this,List.drop_append,e2,qA3,List.nil_append,show (i+1)*ks.length - ks.length=i*ks.length by rw [Nat.add_mul]; omega]
 | [],_::_,_,_,h,_=>by simp at h
 | _::_,[],_,_,h,_=>by simp at h
theorem qGl.one {X:Nat→Prop} {w0 w:World} {v:Value}:∀ {m:MapC},qGl X w0 w v m→v.oneCell'=true
 | none,h=>by rw [show v=_ from h]; rfl
 | some m,⟨b,es,c,h,_⟩=>by rw [h]; rfl
theorem qG6 {X:Nat→Prop} {w0 w:World}:∀ {ks:List NK} {x:NT ks} {vs:List Value},qBg X w0 w ks x vs→∀v∈qA1 ks x vs,v.oneCell'=true
 | [],_,_,h,v,hv=>by simp [qA1] at hv
 | .int _::r,x,vs,h,v,hv=>by
  simp only [qA1,List.mem_cons] at hv;rcases hv with rfl | hv
  ·rfl
  ·exact qG6 (ks:=r) (x:=x.2) h v hv
 | .bool::r,x,vs,h,v,hv=>by
  simp only [qA1,List.mem_cons] at hv;rcases hv with rfl | hv
  ·rfl
  ·exact qG6 (ks:=r) (x:=x.2) h v hv
 | .str::r,x,vs,h,v,hv=>by
  simp only [qA1,List.mem_cons] at hv;rcases hv with rfl | hv
  ·rfl
  ·exact qG6 (ks:=r) (x:=x.2) h v hv
 | .map::r,x,_,⟨v0,vs',rfl,h1,h2⟩,v,hv=>by
  simp only [qA1,List.mem_cons,List.headD_cons,List.tail_cons] at hv;rcases hv with rfl | hv
  ·exact h1.one
  ·exact qG6 (ks:=r) (x:=x.2) h2 v hv
theorem BagOK.slice {X:Nat→Prop} {w0 w:World} {ks:List NK} {e:Nat} {l:List (NT ks)} {u:Value} {rs:List (List Value)} (h:BagOK X w0 w ks e l u rs):∃ad cap,u=.slice ad l.length cap:=by
 rcases h.row.2 with ⟨hv,hn⟩ | ⟨g,cap,cur,hv,_⟩
 ·exact ⟨none,0,by rw [hv,hn]⟩
 ·exact ⟨_,_,hv⟩
theorem BagOK.one {X:Nat→Prop} {w0 w:World} {ks:List NK} {e:Nat} {l:List (NT ks)} {u:Value} {rs:List (List Value)} (h:BagOK X w0 w ks e l u rs):u.oneCell'=true:=by
 obtain ⟨_,_,h⟩:=h.slice;rw [h]; rfl
theorem drop_cons {α:Type} {l:List α} {j:Nat} {v:α} {r:List α} (h:l.drop j=v::r):l[j]?=some v∧l.drop (j+1)=r:=by
 have h1:(l.drop j)[0]?=some v:=by rw [h]; rfl
 rw [List.getElem?_drop] at h1;refine ⟨by simpa using h1,?_⟩;rw [←List.drop_drop,h];rfl
theorem qD4 {X:Nat→Prop} {w0 w:World} {ρ:Nat→Value} {k i:Nat} {u:Value} {rs:List (List Value)} {r:List Value} (hk:ρ k=bagV u rs) (hr:rs[i]?=some r):∀(ks:List NK) (x:NT ks) (j:Nat),qBg X w0 w ks x (r.drop j) →
  (qBz k i ks x j).map (S0.den ρ)=qA1 ks x (r.drop j)
 | [],_,_,_=>rfl
 | .int _::q,x,j,h=>by simp only [qBz,qA1,List.map_cons,S0.den,qD4 hk hr q x.2 j h]
 | .bool::q,x,j,h=>by simp only [qBz,qA1,List.map_cons,S0.den,qD4 hk hr q x.2 j h]
 | .str::q,x,j,h=>by simp only [qBz,qA1,List.map_cons,S0.den,qD4 hk hr q x.2 j h]
 | .map::q,x,j,⟨v,vs',he,h1,h2⟩=>by
  obtain ⟨e1,e2⟩:=drop_cons he;have h3:=qD4 hk hr q x.2 (j+1) (by rw [e2]; exact h2);simp only [qBz,qA1,List.map_cons,S0.den,h3,he,List.headD_cons,List.tail_cons];rw [hk,projV_bag u hr e1 h1.one,e2]
theorem qFi {k i n:Nat} (hk:k<n):∀(ks:List NK) (x:NT ks) (j:Nat),∀y∈qBz k i ks x j,y.lt n
 | [],_,_,y,hy=>by simp [qBz] at hy
 | .int _::q,x,j,y,hy=>by
  simp only [qBz,List.mem_cons] at hy;rcases hy with rfl | hy
  ·trivial
  ·exact qFi hk q x.2 j y hy
 | .bool::q,x,j,y,hy=>by
  simp only [qBz,List.mem_cons] at hy;rcases hy with rfl | hy
  ·trivial
  ·exact qFi hk q x.2 j y hy
 | .str::q,x,j,y,hy=>by
  simp only [qBz,List.mem_cons] at hy;rcases hy with rfl | hy
  ·trivial
  ·exact qFi hk q x.2 j y hy
 | .map::q,x,j,y,hy=>by
  simp only [qBz,List.mem_cons] at hy;rcases hy with rfl | hy
  ·exact hk
  ·exact qFi hk q x.2 (j+1) y hy
theorem qGy {X:Nat→Prop} {w0 w:World}:∀ {ks:List NK} {x y:NT ks} {off:Nat} {v:S0},nkSet ks x off v=some y →
  off<ks.length∧∃u,v=.val u∧u.oneCell'=true∧(∀vs,qA1 ks y vs=(qA1 ks x vs).set off u)∧∀vs,qBg X w0 w ks x vs→qBg X w0 w ks y vs
 | [],x,y,off,v,h=>by simp [nkSet] at h
 | .int q::r,x,y,0,v,h=>by
  simp only [nkSet] at h;split at h
  ·rename_i q' n;cases hq:decide (q'=q) with
   | false=>rw [hq] at h; simp at h
   | true =>
    rw [hq] at h;simp only [cnT,snJ] at h;subst h;have:=of_decide_eq_true hq;subst this;exact ⟨Nat.succ_pos _,_,rfl,rfl,fun vs=>rfl,fun vs h=>h⟩
  ·cases h
 | .bool::r,x,y,0,v,h=>by
  simp only [nkSet] at h;split at h
  ·simp only [snJ] at h;subst h;exact ⟨Nat.succ_pos _,_,rfl,rfl,fun vs=>rfl,fun vs h=>h⟩
  ·cases h
 | .str::r,x,y,0,v,h=>by
  simp only [nkSet] at h;split at h
  ·simp only [snJ] at h;subst h;exact ⟨Nat.succ_pos _,_,rfl,rfl,fun vs=>rfl,fun vs h=>h⟩
  ·cases h
 | .map::r,x,y,0,v,h=>by simp [nkSet] at h
 | .int q::r,x,y,off+1,v,h=>by
  simp only [nkSet] at h;split at h
  ·rename_i z hz;simp only [snJ] at h;subst h;obtain ⟨h1,u,h2,h3,h4,h5⟩:=qGy (X:=X) (w0:=w0) (w:=w) hz;exact ⟨by simpa using h1,u,h2,h3,fun vs=>by simp only [qA1,List.set_cons_succ,h4],fun vs h=>h5 vs h⟩
  ·cases h
 | .bool::r,x,y,off+1,v,h=>by
  simp only [nkSet] at h;split at h
  ·rename_i z hz;simp only [snJ] at h;subst h;obtain ⟨h1,u,h2,h3,h4,h5⟩:=qGy (X:=X) (w0:=w0) (w:=w) hz;exact ⟨by simpa using h1,u,h2,h3,fun vs=>by simp only [qA1,List.set_cons_succ,h4],fun vs h=>h5 vs h⟩
  ·cases h
 | .str::r,x,y,off+1,v,h=>by
  simp only [nkSet] at h;split at h
  ·rename_i z hz;simp only [snJ] at h;subst h;obtain ⟨h1,u,h2,h3,h4,h5⟩:=qGy (X:=X) (w0:=w0) (w:=w) hz;exact ⟨by simpa using h1,u,h2,h3,fun vs=>by simp only [qA1,List.set_cons_succ,h4],fun vs h=>h5 vs h⟩
  ·cases h
 | .map::r,x,y,off+1,v,h=>by
  simp only [nkSet] at h;split at h
  ·rename_i z hz;simp only [snJ] at h;subst h;obtain ⟨h1,u,h2,h3,h4,h5⟩:=qGy (X:=X) (w0:=w0) (w:=w) hz;refine ⟨by simpa using h1,u,h2,h3,fun vs=>by simp only [qA1,List.set_cons_succ,h4],fun vs ⟨v0,vs',h6,h7,h8⟩=>⟨v0,vs',h6,h7,h5 vs' h8⟩⟩
  ·cases h
theorem qFh {X:Nat→Prop} {w0 w:World}:∀ {ks:List NK} {x:NT ks} {j:Nat} {m:MapC} {vs:List Value},nkMap ks x j=some m→qBg X w0 w ks x vs→∃v,vs[j]?=some v∧qGl X w0 w v m
 | [],x,j,m,vs,h,_=>by simp [nkMap] at h
 | .int _::r,x,j,m,vs,h,h1=>qFh (ks:=r) (x:=x.2) (by simpa [nkMap] using h) h1
 | .bool::r,x,j,m,vs,h,h1=>qFh (ks:=r) (x:=x.2) (by simpa [nkMap] using h) h1
 | .str::r,x,j,m,vs,h,h1=>qFh (ks:=r) (x:=x.2) (by simpa [nkMap] using h) h1
 | .map::r,x,0,m,vs,h,⟨v,vs',he,h1,_⟩=>by
  simp only [nkMap,snJ] at h;subst h he;exact ⟨v,rfl,h1⟩
 | .map::r,x,j+1,m,vs,h,⟨v,vs',he,_,h2⟩=>by
  simp only [nkMap] at h;subst he;obtain ⟨v',h3,h4⟩:=qFh (ks:=r) (x:=x.2) h h2;exact ⟨v',by simpa using h3,h4⟩
theorem qG7:∀(ks:List NK) (x:NT ks) (j:Nat) (m:MapC) (vs:List Value),qA1 ks (nkPut ks x j m) vs=qA1 ks x vs
 | [],_,_,_,_=>rfl
 | .int _::r,x,j,m,vs=>by simp only [nkPut,qA1,qG7 r]
 | .bool::r,x,j,m,vs=>by simp only [nkPut,qA1,qG7 r]
 | .str::r,x,j,m,vs=>by simp only [nkPut,qA1,qG7 r]
 | .map::r,x,0,m,vs=>rfl
 | .map::r,x,j+1,m,vs=>by simp only [nkPut,qA1,qG7 r]
theorem qG9 {X:Nat→Prop} {w0 w w':World}:∀ {ks:List NK} {x:NT ks} {j:Nat} {m m':MapC} {vs:List Value},nkMap ks x j=some m→qBg X w0 w ks x vs →
  (∀j' v,j'≠j→vs[j']?=some v→∀k,fp1 v=some k→Same w w' k)→(∀v,vs[j]?=some v→qGl X w0 w' v m')→qBg X w0 w' ks (nkPut ks x j m') vs
 | [],x,j,m,m',vs,h,_,_,_=>by simp [nkMap] at h
 | .int _::r,x,j,m,m',vs,h,h1,h2,h3=>qG9 (ks:=r) (x:=x.2) (by simpa [nkMap] using h) h1 h2 h3
 | .bool::r,x,j,m,m',vs,h,h1,h2,h3=>qG9 (ks:=r) (x:=x.2) (by simpa [nkMap] using h) h1 h2 h3
 | .str::r,x,j,m,m',vs,h,h1,h2,h3=>qG9 (ks:=r) (x:=x.2) (by simpa [nkMap] using h) h1 h2 h3
 | .map::r,x,0,m,m',vs,h,⟨v,vs',he,h1,h1'⟩,h2,h3=>by
  subst he;refine ⟨v,vs',rfl,h3 v rfl,qBg.keep (ks:=r) (x:=x.2) h1' fun k hk=>?_⟩;obtain ⟨v',hv',hf⟩:=List.mem_filterMap.1 hk;obtain ⟨i,hi⟩:=List.getElem?_of_mem hv';exact h2 (i+1) v' (by omega) (by simpa using hi) k hf
 | .map::r,x,j+1,m,m',vs,h,⟨v,vs',he,h1,h1'⟩,h2,h3=>by
  subst he;refine ⟨v,vs',rfl,h1.keep fun k hk=>h2 0 v (by omega) rfl k hk,qG9 (ks:=r) (x:=x.2) (by simpa [nkMap] using h) h1' (fun j' v' hj hv=>h2 (j'+1) v' (by omega) (by simpa using hv)) fun v' hv=>h3 v' (by simpa using hv)⟩
theorem qF9 {rs:List (List Value)} {b:Nat}:b∈(rs.flatMap fun r=>r.filterMap fp1)↔∃i j v,qCd rs i j=some v∧fp1 v=some b:=by
 constructor
 ·intro h;obtain ⟨r,hr,h1⟩:=List.mem_flatMap.1 h;obtain ⟨v,hv,hf⟩:=List.mem_filterMap.1 h1;obtain ⟨i,hi⟩:=List.getElem?_of_mem hr;obtain ⟨j,hj⟩:=List.getElem?_of_mem hv;exact ⟨i,j,v,by simp only [qCd,hi,obS,hj],hf⟩
 ·rintro ⟨i,j,v,h,hf⟩
  unfold qCd at h;obtain ⟨r,hr,hj⟩:=Option.bind_eq_some_iff.1 h;exact List.mem_flatMap.2 ⟨r,List.mem_of_getElem? hr,List.mem_filterMap.2 ⟨v,List.mem_of_getElem? hj,hf⟩⟩
theorem qDs {u:Value} {rs:List (List Value)} {b:Nat} (hu:∃ad n c,u=.slice ad n c):b∈fp (bagV u rs)↔u.ownBlock=some b∨∃i j v,qCd rs i j=some v∧fp1 v=some b:=by
 obtain ⟨ad,n,c,rfl⟩:=hu;rw [fp_bag,List.mem_append,qF9];cases ad with
 | none=>simp [fpI,fp1,Value.ownBlock]
 | some a=>simp [fpI,fp1,Value.ownBlock,eq_comm]
theorem qA6.turn {X:Nat→Prop} {w0 w w':World} {ks:List NK} {y:NT ks}:∀ {l:List (NT ks)} {rs:List (List Value)} {i:Nat},qA6 X w0 w ks l rs →
  (∀r,rs[i]?=some r→qBg X w0 w' ks y r)→(∀i' j v,i'≠i→qCd rs i' j=some v→∀k,fp1 v=some k→Same w w' k)→qA6 X w0 w' ks (l.set i y) rs
 | [],[],i,h,_,_=>trivial
 | x::l,r::rs,0,h,h1,h2=>⟨h1 r rfl,h.2.keep fun k hk=>by
   obtain ⟨i,j,v,h3,h4⟩:=qF9.1 hk;exact h2 (i+1) j v (by omega) (by simpa [qCd] using h3) k h4⟩
 | x::l,r::rs,i+1,h,h1,h2=>⟨h.1.keep fun k hk=>by
   obtain ⟨v,hv,hf⟩:=List.mem_filterMap.1 hk;obtain ⟨j,hj⟩:=List.getElem?_of_mem hv;exact h2 0 j v (by omega) (by simpa [qCd] using hj) k hf,qA6.turn h.2 (fun r' hr=>h1 r' (by simpa using hr)) fun i' j v hi hv=>h2 (i'+1) j v (by omega) (by simpa [qCd] using hv)⟩
 | [],_::_,_,h,_,_=>h.elim
 | _::_,[],_,h,_,_=>h.elim
theorem qA6.append {X:Nat→Prop} {w0 w:World} {ks:List NK} {m:List (NT ks)} {qs:List (List Value)} (h2:qA6 X w0 w ks m qs):∀ {l:List (NT ks)} {rs:List (List Value)},qA6 X w0 w ks l rs→qA6 X w0 w ks (l++m) (rs++qs)
 | [],[],_=>h2
 | x::l,r::rs,h=>⟨h.1,qA6.append h2 h.2⟩
 | [],_::_,h=>h.elim
 | _::_,[],h=>h.elim
theorem qA6.take {X:Nat→Prop} {w0 w:World} {ks:List NK}:∀ {l:List (NT ks)} {rs:List (List Value)} (n:Nat),qA6 X w0 w ks l rs→qA6 X w0 w ks (l.take n) (rs.take n)
 | [],[],n,_=>by simp [qA6]
 | x::l,r::rs,0,h=>trivial
 | x::l,r::rs,n+1,h=>⟨h.1,qA6.take n h.2⟩
 | [],_::_,_,h=>h.elim
 | _::_,[],_,h=>h.elim
theorem refAt_take {rs:List (List Value)} {n i j:Nat} {v:Value} (h:qCd (rs.take n) i j=some v):qCd rs i j=some v:=by
 unfold qCd at h ⊢;obtain ⟨r,hr,hj⟩:=Option.bind_eq_some_iff.1 h;rw [List.getElem?_take] at hr;split at hr
 ·rw [hr]; exact hj
 ·cases hr
theorem qF8 {rs qs:List (List Value)} {i j:Nat} {v:Value} (h:qCd (rs++qs) i j=some v):(i<rs.length∧qCd rs i j=some v)∨(rs.length≤i∧qCd qs (i - rs.length) j=some v):=by
 unfold qCd at h ⊢;by_cases hi:i<rs.length
 ·rw [List.getElem?_append_left hi] at h;exact .inl ⟨hi,h⟩
 ·rw [List.getElem?_append_right (by omega)] at h;exact .inr ⟨by omega,h⟩
theorem toList_beq' (x y:BA):(x == y)=decide (x=y):=by
 show (x.data == y.data)=_;by_cases h:x=y
 ·subst h; simp
 ·have:¬x.data=y.data:=fun e=>h (ByteArray.ext e)
  rw [deF h];simpa using this
theorem findNow_ents:∀ {es:List MapEntry} {m:List (BA × Int)},(es.map fun e=>(e.key,e.val))=(m.map fun x=>(Value.string x.1,Value.int .i64 x.2))→∀(s:BA) (i:Nat),
  (mfind m s=none∧Instr.findNow .string (.string s) es i=some none∧mset m s=fun v=>m++[(s,v)]) ∨
  (∃v j e,mfind m s=some v∧Instr.findNow .string (.string s) es i=some (some (i+j,.int .i64 v))∧es[j]?=some e∧e.key=.string s∧∀v',mset m s v'=m.set j (s,v'))
 | [],[],_,s,i=>.inl ⟨rfl,rfl,rfl⟩
 | e::es,x::m,h,s,i=>by
  simp only [List.map_cons,List.cons.injEq,Prod.mk.injEq] at h;obtain ⟨⟨hk,hv⟩,h⟩:=h;by_cases hs:s=x.1
  ·refine .inr ⟨x.2,0,e,by simp [mfind,hs],?_,rfl,by rw [hk,hs],fun v'=>by simp [mset,hs]⟩;simp only [Instr.findNow,hk,Instr.sameNow,toList_beq',hs,decide_true,hv,Nat.add_zero]
  ·have hd:decide (s=x.1)=false:=by simp [hs]
   rcases findNow_ents h s (i+1) with ⟨h1,h2,h3⟩ | ⟨v,j,e',h1,h2,h3,h4,h5⟩
   ·refine .inl ⟨by simp [mfind,hd,h1],?_,?_⟩
    ·simp only [Instr.findNow,hk,Instr.sameNow,toList_beq',hd,h2]
    ·funext v
     simp [mset,hd,h3]
   ·refine .inr ⟨v,j+1,e',by simp [mfind,hd,h1],?_,by simpa using h3,h4,fun v'=>by simp [mset,hd,h5]⟩;simp only [Instr.findNow,hk,Instr.sameNow,toList_beq',hd,h2];rw [show i+1+j=i+(j+1) by omega]
 | [],_::_,h,_,_=>by simp at h
 | _::_,[],h,_,_=>by simp at h
theorem killL_len:∀(hs:List Nat) (hp:List SB),(killL hs hp).length=hp.length
 | [],hp=>rfl
 | h::r,hp=>by simp only [killL,killL_len r,List.length_set]
theorem killL_at:∀(hs:List Nat) (hp:List SB) (i:Nat) (sb:SB),(killL hs hp)[i]?=some sb→sb=.dead∨(hp[i]?=some sb∧¬i∈hs)
 | [],hp,i,sb,h=>.inr ⟨h,by simp⟩
 | x::r,hp,i,sb,h=>by
  rcases killL_at r _ i sb h with rfl | ⟨h1,h2⟩
  ·exact .inl rfl
  ·by_cases hx:i=x
   ·subst hx;have hl:i<hp.length:=by
     have:=(List.getElem?_eq_some_iff.1 h1).1;simpa using this
    rw [List.getElem?_set_self hl] at h1;exact .inl (Option.some.inj h1).symm
   ·rw [List.getElem?_set_ne (Ne.symm hx)] at h1;exact .inr ⟨h1,by simp only [List.mem_cons,not_or]; exact ⟨hx,h2⟩⟩
theorem HpSat.killL {X:Nat→Prop} {w0 w:World} {ρ:Nat→Value}:∀ {hs:List Nat} {hp:List SB},HpSat X w0 w ρ hp→HpSat X w0 w ρ (killL hs hp)
 | [],_,h=>h
 | x::r,_,h=>HpSat.killL (hs:=r) (h.kill x)
theorem bag_push {X:Nat→Prop} {w0 w w':World} {ρ:Nat→Value} {hp:List SB} (h:HpSat X w0 w ρ hp) (hs:List Nat) {ks:List NK} {e:Nat} {l:List (NT ks)} {u:Value} {rs:List (List Value)}
  (hv:∀k,k<w0.heap.size→¬X k→Same w w' k) (hz:∀k,Froz w k→Same w w' k)
  (hl:∀(i:Nat) (sb:SB) (k:Nat),¬i∈hs→hp[i]?=some sb→sb.ex=true→k∈fp (ρ i)→Same w w' k)
  (hb:BagOK X w0 w' ks e l u rs)
  (hf:∀b∈fp (bagV u rs),w.heap.size≤b∨∃i∈hs,∃sb,hp[i]?=some sb∧sb.ex=true∧b∈fp (ρ i)) :
  ∃ρ',(∀i<hp.length,ρ' i=ρ i)∧ρ' hp.length=bagV u rs∧HpSat X w0 w' ρ' (Go.Eng.killL hs hp++[.bag ks e l]):=by
 have hlen:=killL_len hs hp;have hr:∀i<hp.length,(fun i=>if i=hp.length then bagV u rs else ρ i) i=ρ i:=fun i hi=>by
  have:¬i=hp.length:=by omega
  simp [this]
 refine ⟨fun i=>if i=hp.length then bagV u rs else ρ i,hr,by simp,?_⟩;refine (h.killL (hs:=hs)).push (.bag ks e l) (by rw [hlen]; exact hr) hv hz (fun i sb k hi hx hk=>?_) ?_ trivial ?_ ?_
 ·rcases killL_at hs hp i sb hi with rfl | ⟨h1,h2⟩
  ·cases hx
  ·exact hl i sb k h2 h1 hx hk
 ·rw [hlen];simp only [if_true];exact ⟨u,rs,rfl,hb⟩
 ·rw [hlen];simp only [if_true];trivial
 ·rw [hlen];simp only [if_true];intro _ b hb' i sb' hi hx hk;rcases killL_at hs hp i sb' hi with rfl | ⟨h1,h2⟩
  ·cases hx
  ·rcases hf b hb' with hge | ⟨j,hj,sb,hsb,hx',hkb⟩
   ·have:=(h.fp_lt h1 hx hk).1;omega
   ·exact h.apart i j sb' sb b (fun e=>h2 (by rw [e]; exact hj)) h1 hsb hx hx' hk hkb
theorem nodupN_cons {x:Nat} {r:List Nat} (h:nodupN (x::r)=true):¬x∈r∧nodupN r=true:=by
 simp only [nodupN] at h;cases ha:r.all (fun y=>bif Nat.beq x y then false else true) with
 | false=>rw [ha] at h; simp at h
 | true =>
  rw [ha] at h;refine ⟨fun hx=>?_,h⟩;have:=List.all_eq_true.1 ha x hx;simp at this
theorem qEn {X:Nat→Prop} {w0 w:World} {ρ:Nat→Value} {hp:List SB} (h:HpSat X w0 w ρ hp):∀ {ks:List NK} {l:List S0} {x:NT ks} {hs:List Nat},qC9 hp ks l=some (x,hs)→nodupN hs=true →
  ∃r:List Value,qA1 ks x r=l.map (S0.den ρ)∧qBg X w0 w ks x r∧(∀(j:Nat) (v:Value) (b:Nat),r[j]?=some v→fp1 v=some b→∃i∈hs,b∈fp (ρ i)) ∧
   (∀(j j':Nat) (v v':Value) (b:Nat),r[j]?=some v→r[j']?=some v'→fp1 v=some b→fp1 v'=some b→j=j')∧∀i∈hs,∃m,hp[i]?=some (.map m)
 | [],[],x,hs,ht,_=>by
  simp only [qC9,snJ,Prod.mk.injEq] at ht;obtain ⟨_,rfl⟩:=ht;exact ⟨[],rfl,rfl,by simp,by simp,by simp⟩
 | [],_::_,x,hs,ht,_=>by simp [qC9] at ht
 | _::_,[],x,hs,ht,_=>by simp [qC9] at ht
 | .int q::r,v::l,x,hs,ht,hn=>by
  simp only [qC9] at ht;split at ht
  ·rename_i q2 n y hs' hy;cases hq:decide (q2=q) with
   | false=>rw [hq] at ht; simp at ht
   | true =>
    rw [hq] at ht;simp only [cnT,snJ,Prod.mk.injEq] at ht;obtain ⟨rfl,rfl⟩:=ht;have:=of_decide_eq_true hq;subst this;obtain ⟨r1,h1,h2,h3⟩:=qEn h hy hn;exact ⟨r1,by simp only [qA1,List.map_cons,h1,S0.den],h2,h3⟩
  ·cases ht
 | .bool::r,v::l,x,hs,ht,hn=>by
  simp only [qC9] at ht;split at ht
  ·rename_i b y hs' hy;simp only [snJ,Prod.mk.injEq] at ht;obtain ⟨rfl,rfl⟩:=ht;obtain ⟨r1,h1,h2,h3⟩:=qEn h hy hn;exact ⟨r1,by simp only [qA1,List.map_cons,h1,S0.den],h2,h3⟩
  ·cases ht
 | .str::r,v::l,x,hs,ht,hn=>by
  simp only [qC9] at ht;split at ht
  ·rename_i b y hs' hy;simp only [snJ,Prod.mk.injEq] at ht;obtain ⟨rfl,rfl⟩:=ht;obtain ⟨r1,h1,h2,h3⟩:=qEn h hy hn;exact ⟨r1,by simp only [qA1,List.map_cons,h1,S0.den],h2,h3⟩
  ·cases ht
 | .map::r,v::l,x,hs,ht,hn=>by
  simp only [qC9] at ht;split at ht
  ·rename_i y hs' hy;simp only [snJ,Prod.mk.injEq] at ht;obtain ⟨rfl,rfl⟩:=ht;obtain ⟨r1,h1,h2,h3,h4,h5⟩:=qEn h hy hn;refine ⟨.map none::r1,by simp only [qA1,List.map_cons,h1,S0.den,List.headD_cons,List.tail_cons],⟨_,_,rfl,rfl,h2⟩,fun j v b hj hf=>?_,fun j j' v v' b hj hj' hf hf'=>?_,h5⟩
   ·cases j with
    | zero=>simp at hj; subst hj; simp [fp1] at hf
    | succ j=>exact h3 j v b (by simpa using hj) hf
   ·cases j with
    | zero=>simp at hj; subst hj; simp [fp1] at hf
    | succ j =>
     cases j' with
     | zero=>simp at hj'; subst hj'; simp [fp1] at hf'
     | succ j'=>rw [h4 j j' v v' b (by simpa using hj) (by simpa using hj') hf hf']
  ·rename_i hh y hs' hy;split at ht
   ·rename_i m hsb;simp only [snJ,Prod.mk.injEq] at ht;obtain ⟨rfl,rfl⟩:=ht;obtain ⟨hn1,hn2⟩:=nodupN_cons hn;obtain ⟨r1,h1,h2,h3,h4,h5⟩:=qEn h hy hn2;have hm:qGl X w0 w (ρ hh) m:=h.sat hh _ hsb;have hfpm:∀b,fp1 (ρ hh)=some b→b∈fp (ρ hh):=fun b hb=>by
     cases hr:ρ hh <;> rw [hr] at hb <;> simp only [fp1,reduceCtorEq] at hb <;> simp_all [fp,fp1]
    have hcross:∀j v b,r1[j]?=some v→fp1 (ρ hh)=some b→fp1 v=some b→False:=fun j v b hj hf hf'=>by
     obtain ⟨i,hi,hbi⟩:=h3 j v b hj hf';obtain ⟨m',hm'⟩:=h5 i hi;exact h.apart hh i _ _ b (fun e=>hn1 (by rw [e]; exact hi)) hsb hm' rfl rfl (hfpm b hf) hbi
    refine ⟨ρ hh::r1,by simp only [qA1,List.map_cons,h1,S0.den,List.headD_cons,List.tail_cons],⟨_,_,rfl,hm,h2⟩,fun j v b hj hf=>?_,fun j j' v v' b hj hj' hf hf'=>?_,fun i hi=>?_⟩
    ·cases j with
     | zero=>simp at hj; subst hj; exact ⟨hh,by simp,hfpm b hf⟩
     | succ j =>
      obtain ⟨i,hi,hb⟩:=h3 j v b (by simpa using hj) hf;exact ⟨i,by simp [hi],hb⟩
    ·cases j with
     | zero =>
      cases j' with
      | zero=>rfl
      | succ j' =>
       simp at hj;subst hj;exact (hcross j' v' b (by simpa using hj') hf hf').elim
     | succ j =>
      cases j' with
      | zero =>
       simp at hj';subst hj';exact (hcross j v b (by simpa using hj) hf' hf).elim
      | succ j'=>rw [h4 j j' v v' b (by simpa using hj) (by simpa using hj') hf hf']
    ·rcases List.mem_cons.1 hi with rfl | hi
     ·exact ⟨m,hsb⟩
     ·exact h5 i hi
   ·cases ht
  ·cases ht
theorem qGl.excl {X X':Nat→Prop} {w0 w0' w:World} {v:Value}:∀ {m:MapC},qGl X w0 w v m→(∀b,fp1 v=some b→Excl X w0 b→Excl X' w0' b)→qGl X' w0' w v m
 | none,h,_=>h
 | some m,⟨b,es,c,hv,hb,he,hx⟩,hk=>⟨b,es,c,hv,hb,he,hk b (by rw [hv]; rfl) hx⟩
theorem qBg.excl {X X':Nat→Prop} {w0 w0' w:World}:∀ {ks:List NK} {x:NT ks} {vs:List Value},qBg X w0 w ks x vs→(∀b∈vs.filterMap fp1,Excl X w0 b→Excl X' w0' b)→qBg X' w0' w ks x vs
 | [],_,_,h,_=>h
 | .int _::r,x,_,h,hk=>qBg.excl (ks:=r) (x:=x.2) h hk
 | .bool::r,x,_,h,hk=>qBg.excl (ks:=r) (x:=x.2) h hk
 | .str::r,x,_,h,hk=>qBg.excl (ks:=r) (x:=x.2) h hk
 | .map::r,x,_,⟨v,vs',rfl,h1,h2⟩,hk=>by
  refine ⟨v,vs',rfl,h1.excl fun k hf=>hk k ?_,qBg.excl (ks:=r) (x:=x.2) h2 fun k hf=>hk k ?_⟩
  ·simp only [List.filterMap_cons,hf,List.mem_cons,true_or]
  ·simp only [List.filterMap_cons];split
   ·exact hf
   ·exact List.mem_cons.2 (.inr hf)
theorem qA6.excl {X X':Nat→Prop} {w0 w0' w:World} {ks:List NK}:∀ {l:List (NT ks)} {rs:List (List Value)},qA6 X w0 w ks l rs→(∀b∈rs.flatMap (fun r=>r.filterMap fp1),Excl X w0 b→Excl X' w0' b)→qA6 X' w0' w ks l rs
 | [],[],h,_=>trivial
 | x::l,r::rs,h,hk=>⟨h.1.excl fun k hf=>hk k (by simp only [List.flatMap_cons,List.mem_append]; exact .inl hf),qA6.excl h.2 fun k hf=>hk k (by simp only [List.flatMap_cons,List.mem_append]; exact .inr hf)⟩
 | [],_::_,h,_=>h.elim
 | _::_,[],h,_=>h.elim
theorem BagOK.exclude {X X':Nat→Prop} {w0 w0' w:World} {ks:List NK} {e:Nat} {l:List (NT ks)} {u:Value} {rs:List (List Value)} (h:BagOK X w0 w ks e l u rs) (hk:∀b∈fp (bagV u rs),Excl X w0 b→Excl X' w0' b):BagOK X' w0' w ks e l u rs:=by
 have hs:∃ad n c,u=.slice ad n c:=by obtain ⟨_,_,h1⟩:=h.slice; exact ⟨_,_,_,h1⟩
 exact ⟨h.row,fun b hb=>hk b ((qDs hs).2 (.inl hb)) (h.excl b hb),h.refs.excl fun b hb=>hk b ((qDs hs).2 (.inr (qF9.1 hb))),h.uniq,h.alone,h.pos⟩
theorem fp_of_fp1 {v:Value} {b:Nat} (h:fp1 v=some b):b∈fp v:=by
 cases v with
 | pointer a=>cases a <;> simp_all [fp,fp1]
 | slice a n c=>cases a <;> simp_all [fp,fp1]
 | map r=>cases r <;> simp_all [fp,fp1]
 | _=>all_goals simp [fp1] at h
end Go.Eng
