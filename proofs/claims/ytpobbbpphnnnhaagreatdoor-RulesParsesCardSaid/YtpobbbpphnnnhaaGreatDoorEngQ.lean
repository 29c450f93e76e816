/-
  Texts of a claim.
-/
import Derived.Test.YtpobbbpphnnnhaaGreatDoorEngH
namespace Go.Eng
set_option linter.unusedVariables false
set_option linter.unusedSimpArgs false
theorem qEs {v:Value} (h:qD1 v):v.oneCell'=true:=by cases v <;> simp_all [qD1,Value.oneCell']
theorem isRef_ptr {v:Value} {n:Nat} (h:qD1 v):qD1 (ptrAdd v n):=by
 cases v <;> simp_all [qD1,ptrAdd]
 rename_i a; cases a <;> simp_all [qD1,ptrAdd]
theorem isRef_el {v:Value} {n:Nat} (h:qD1 v):qD1 (qC9 v n):=by
 cases v <;> simp_all [qD1,qC9]
 rename_i a _ _; cases a <;> simp_all [qD1,qC9]
theorem cells_one {v:Value} (h:v.oneCell'=true):v.cells = #[v]:=by cases v <;> simp_all [Value.cells,Value.oneCell']
theorem isRef_base {v:Value} {n:Nat} (h:v.oneCell'=true):(qC9 v n).oneCell'=true:=by
 cases v <;> simp_all [qC9,Value.oneCell']
 rename_i a _ _; cases a <;> simp_all [qC9,Value.oneCell']
theorem S0.den_one {ρ:Nat→Value} {n:Nat} (hr:∀i<n,qD1 (ρ i)) {x:S0} (hl:x.lt n) (ho:x.one):(x.den ρ).oneCell'=true:=by
 cases x with
 | val v=>exact ho
 | hd h k=>exact qEs (isRef_ptr (hr h hl))
 | own h=>exact qEs (hr h hl)
 | el h i sz k=>exact qEs (isRef_el (hr h hl))
 | opt c h k =>
  cases c with
  | true=>exact qEs (isRef_ptr (hr h hl))
  | false=>rfl
 | bsl k=>exact baseV_one _
 | prj k i j=>exact projV_one _ _ _
 | pel k i sz off=>exact isRef_base (baseV_one _)
theorem allOne_den {ρ:Nat→Value} {n:Nat} (hr:∀i<n,qD1 (ρ i)):∀ {l:List S0},(∀x∈l,x.lt n)→allOne l→∀v∈l.map (S0.den ρ),v.oneCell'=true
 | [],_,_,v,hv=>by simp at hv
 | x::r,hl,ho,v,hv=>by
  simp only [List.map_cons,List.mem_cons] at hv;rcases hv with rfl | hv
  ·exact S0.den_one hr (hl x (by simp)) ho.1
  ·exact allOne_den hr (fun y hy=>hl y (by simp [hy])) ho.2 v hv
theorem SV.cells_den {ρ:Nat→Value} {n:Nat} (hr:∀i<n,qD1 (ρ i)) {v:SV} {l:List S0} (h:v.cells=some l) (hl:v.lt n):(v.den ρ).cells=(l.map (S0.den ρ)).toArray∧∀x∈l,x.lt n:=by
 unfold SV.cells at h;split at h
 ·cases h
 ·cases h
 ·rename_i x h1 h2;simp only [snJ] at h;subst h;refine ⟨?_,fun y hy=>by simp at hy; subst hy; exact hl⟩;simp only [SV.den,SC.den,List.map_cons,List.map_nil];apply cells_one;cases x with
  | val v=>cases v <;> first | rfl | (exact absurd rfl (h1 _)) | (exact absurd rfl (h2 _))
  | hd h k=>exact qEs (isRef_ptr (hr h hl))
  | own h=>exact qEs (hr h hl)
  | el h i sz k=>exact qEs (isRef_el (hr h hl))
  | opt c h k =>
   cases c with
   | true=>exact qEs (isRef_ptr (hr h hl))
   | false=>rfl
  | bsl k=>exact baseV_one _
  | prj k i j=>exact projV_one _ _ _
  | pel k i sz off=>exact isRef_base (baseV_one _)
 ·rename_i l';simp only [snJ] at h;subst h;exact ⟨rfl,hl⟩
 ·cases h
theorem setL_length:∀(cs:List S0) (l:List S0) (i:Nat),(setL l i cs).length=l.length
 | [],l,i=>rfl
 | x::r,l,i=>by simp [setL,setL_length r]
theorem setL_mem {p:S0→Prop}:∀(cs:List S0) (l:List S0) (i:Nat),(∀x∈cs,p x)→(∀x∈l,p x)→∀x∈setL l i cs,p x
 | [],l,i,_,hl=>hl
 | x::r,l,i,hc,hl=>setL_mem r _ _ (fun y hy=>hc y (by simp [hy])) fun y hy=>by
  rcases List.mem_or_eq_of_mem_set hy with h | rfl
  ·exact hl y h
  ·exact hc y (by simp)
theorem qEp (f:S0→Value):∀(cs:List S0) (l:List S0) (i:Nat),i+cs.length≤l.length →
  (setL l i cs).map f=(l.map f).take i++cs.map f++(l.map f).drop (i+cs.length)
 | [],l,i,h=>by simp [setL]
 | x::r,l,i,h=>by
  simp only [List.length_cons] at h;simp only [setL,List.map_cons];rw [qEp f r (l.set i x) (i+1) (by simp; omega),List.map_set];have hi:i<(l.map f).length:=by simp; omega
  rw [List.take_set,List.drop_set_of_lt (by omega),List.take_succ_eq_append_getElem hi,List.set_append_right _ _ (by simp; omega)];have h0:i - (List.take i (l.map f)).length=0:=by
   have:i<l.length:=by omega
   simp; omega
  rw [h0];simp only [List.set_cons_zero,List.append_assoc,List.cons_append,List.nil_append];rw [show i+1+r.length=i+(r.length+1) by omega];rfl
theorem fold_setL (f:S0→Value) (off:Nat):∀(cs:List S0) (k:Nat) (l:List S0),
  ((cs.map f).zipIdx k).foldl (fun (acc:Array Value) (p:Value × Nat)=>acc.setIfInBounds (off+p.2) p.1) (l.map f).toArray=((setL l (off+k) cs).map f).toArray
 | [],k,l=>rfl
 | x::r,k,l=>by
  simp only [List.map_cons,List.zipIdx_cons,List.foldl_cons,setL];rw [show ((l.map f).toArray.setIfInBounds (off+k) (f x))=((l.set (off+k) x).map f).toArray by simp [List.map_set]];rw [fold_setL f off r (k+1) (l.set (off+k) x)];rfl
section
variable {E:Env} {ρ:Nat→Value} {S:St} {a:Act} {o:Oper} {act:Prop}
theorem mv_ok (hs:qEz ρ S a) (hact:act) {x:Operand} {y:Arg} (hx:arg x=some y) (ho:o.op=.move x∨o.op=.assign x) {Γ:Nat→Option Con}:OpOK E ρ S a o (runP Γ S act (.mv y)):=by
 simp only [runP];split
 ·rename_i p v h;refine qAo (fun hp=>(qAh hs hact hx h hp).2) (fun hp w0 _ w=>?_);obtain ⟨h1,_⟩:=qAh hs hact hx h hp;rcases ho with ho | ho <;> (unfold execOp; simp [ho,h1])
 ·trivial
theorem pickB_sound {c:Bool} {u v:Value} {p:Prop} {z:SV} (h:pickB c u v=.still p z):z=.c (.o (.val (if c then u else v))):=by
 unfold pickB at h;split at h <;> simp only [ret1,RR.still.injEq,reduceCtorEq] at h <;> obtain ⟨_,rfl⟩:=h <;> cases c <;> simp
 
theorem pick_ok (hs:qEz ρ S a) (hact:act) {c x y:Operand} {c' x' y':Arg} (hc:arg c=some c') (hx:arg x=some x') (hy:arg y=some y') (ho:o.op=.pick c x y) {Γ:Nat→Option Con} :
  OpOK E ρ S a o (runP Γ S act (.pick c' x' y')):=by
 simp only [runP];split
 ·rename_i pc cb h1;split
  ·rename_i pa va pb vb h2 h3;split
   ·rename_i q v h4;have hv:=pickB_sound h4;subst hv;refine qAo (fun hp=>trivial) (fun hp w0 _ w=>?_);obtain ⟨e1,_⟩:=qAh hs hact hc h1 hp.1;unfold execOp;cases cb
    ·obtain ⟨e3,_⟩:=qAh hs ⟨hact,rfl⟩ hy h3 hp.2.2;simp [ho,e1,e3,SV.den,SC.den,S0.den,asBool]
    ·obtain ⟨e2,_⟩:=qAh hs ⟨hact,rfl⟩ hx h2 hp.2.1;simp [ho,e1,e2,SV.den,SC.den,S0.den,asBool]
   ·trivial
  ·rename_i pa v h2 _;refine qAo (fun hp=>(qAh hs ⟨hact,hp.2.1 hact⟩ hx h2 (hp.2.2 hp.2.1)).2) (fun hp w0 _ w=>?_);obtain ⟨e1,_⟩:=qAh hs hact hc h1 hp.1;obtain ⟨e2,_⟩:=qAh hs ⟨hact,hp.2.1 hact⟩ hx h2 (hp.2.2 hp.2.1);have hcb:=hp.2.1 hact;subst hcb;unfold execOp;simp [ho,e1,e2,SV.den,SC.den,S0.den,asBool]
  ·rename_i pb v _ h3;refine qAo (fun hp=>(qAh hs ⟨hact,hp.2.1 hact⟩ hy h3 (hp.2.2 hp.2.1)).2) (fun hp w0 _ w=>?_);obtain ⟨e1,_⟩:=qAh hs hact hc h1 hp.1;obtain ⟨e2,_⟩:=qAh hs ⟨hact,hp.2.1 hact⟩ hy h3 (hp.2.2 hp.2.1);have hcb:=hp.2.1 hact;subst hcb;unfold execOp;simp [ho,e1,e2,SV.den,SC.den,S0.den,asBool]
  ·trivial
 ·trivial
theorem conv_ok {s d:TypeId} {x:Operand} {ks k k':IntKind} {n:Int} (raw:Bool) (h1:E.P.underlying s=some (.int ks)) (h2:E.P.underlying d=some (.int k)) (hx:a.eval x=.int k' n) (ho:o.op=.convert s d x) :
  OpOK E ρ S a o (fit raw k n):=by
 refine fit_ok fun w=>?_
 unfold execOp;simp [ho,hx,convert,run_underlying h1,run_underlying h2,Conv.intToInt]
theorem strc_ok (hs:qEz ρ S a) (hact:act) {s d:TypeId} {x:Operand} {y:Arg} (h1:E.P.underlying s=some .string) (h2:E.P.underlying d=some .string) (hx:arg x=some y) (ho:o.op=.convert s d x) {Γ:Nat→Option Con} :
  OpOK E ρ S a o (runP Γ S act (.strc y)):=by
 simp only [runP];split
 ·rename_i p s' h;refine qAo (fun hp=>trivial) (fun hp w0 _ w=>?_);obtain ⟨e1,_⟩:=qAh hs hact hx h hp;unfold execOp;simp [ho,e1,SV.den,SC.den,S0.den,convert,run_underlying h1,run_underlying h2]
 ·trivial
theorem zero_of {P:Program} {t:Nat} {z:List Value} (h:qCb P t=some z):∃i v,P.info? t=some i∧i.zero=some v∧v.cells.toList=z:=by
 unfold qCb at h;split at h
 ·rename_i i hi;split at h
  ·rename_i v hv;exact ⟨i,v,hi,hv,by simpa using h⟩
  ·cases h
 ·cases h
theorem qGq {P:Program} {t:Nat} {i:TypeInfo} {v:Value} (h:P.info? t=some i) (hz:i.zero=some v) (w:World):(zeroValue t).run P w=.ok v w:=by
 simp [zeroValue,typeInfo,h,hz]
theorem new_ok {p:Prop} {e:Nat} {l:List S0} (hl:p→∀x∈l,x.lt S.hp.length)
  (h:p→∀w,Cls E ρ S.hp w→(execOp a.eval o).run E.P w=.ok (.value (.pointer (some ⟨w.heap.size,0,none⟩))) (w.alloc (.cells (l.map (S0.den ρ)).toArray e))) :
  OpOK E ρ S a o (.ok p (.c (.o (.hd S.hp.length 0))) (S.hp++[.cells e l])):=by
 intro hp;refine ⟨by simp [SV.lt,SC.lt,S0.lt],by simp,fun w hw K Q hK=>?_⟩;have hr:=h hp w hw;have hll:=hl hp;obtain ⟨ρ',hag,hnew,hsat⟩:=hw.1.alloc hw.2 (.cells (l.map (S0.den ρ)).toArray e) (.cells e l) (.pointer (some ⟨w.heap.size,0,none⟩)) rfl
  (fun ρ' hag hn=>⟨w.heap.size,rfl,by rw [heap_alloc_new w,show l.map (S0.den ρ')=l.map (S0.den ρ) from List.map_congr_left fun y hy=>S0.den_congr hag (hll y hy)],.inl hw.2.size⟩)
  (fun x hx=>S0.lt_mono (Nat.le_succ _) (hll x hx)) trivial
 have:=hK ρ' _ hag ⟨hsat,hw.2.alloc _⟩;simp only [SV.den,SC.den,S0.den,hnew,ptrAdd,Addr.add,if_true] at this;unfold Oper.wp;rw [hr];exact this
theorem alloc_ok {e:Nat} {z:List Value} (hz:qCb E.P e=some z) (ho:o.op=.alloc e) {Γ:Nat→Option Con}:OpOK E ρ S a o (runP Γ S act (.alloc e z)):=by
 obtain ⟨i,v,h1,h2,rfl⟩:=zero_of hz;refine new_ok (fun _ x hx=>?_) (fun _ w _=>?_)
 ·simp only [List.mem_map] at hx;obtain ⟨u,_,rfl⟩:=hx;trivial
 ·have e1:(v.cells.toList.map S0.val).map (S0.den ρ)=v.cells.toList:=by
   rw [List.map_map];exact (List.map_congr_left fun _ _=>rfl).trans (List.map_id _)
  rw [e1];unfold execOp;simp [ho,Instr.alloc,qGq h1 h2,newVar,newRow]
theorem box_ok (hw0:∀i<S.hp.length,qD1 (ρ i)) (hs:qEz ρ S a) (hact:act) {e n:Nat} {x:Operand} {y:Arg} (hx:arg x=some y) (ho:o.op=.box e x) {Γ:Nat→Option Con}:OpOK E ρ S a o (runP Γ S act (.box e n y)):=by
 simp only [runP];split
 ·rename_i p v h;split
  ·rename_i l hl;refine new_ok (fun hp=>?_) (fun hp w _=>?_)
   ·exact (SV.cells_den hw0 hl (qAh hs hact hx h hp).2).2
   ·obtain ⟨e1,e2⟩:=qAh hs hact hx h hp;have e3:=(SV.cells_den hw0 hl e2).1;unfold execOp;simp [ho,e1,Instr.box,newVar,newRow,e3]
  ·trivial
 ·trivial
theorem qFe (hw0:∀i<S.hp.length,qD1 (ρ i)) (hs:qEz ρ S a) (hact:act) (place:Nat→Option (Nat × Nat)) :
  ∀(ps:List (Nat × Operand)) (rs:List (Nat × Nat × Arg)) (l m:List S0) (p:Prop),
   (ps.map fun x=>(place x.1,arg x.2))=(rs.map fun x=>(some (x.1,x.2.1),some x.2.2))→fillL S act rs l=some (p,m)→p→(∀x∈l,x.lt S.hp.length) →
   Instr.fill place (l.map (S0.den ρ)).toArray (ps.map fun x=>(x.1,a.eval x.2))=some (m.map (S0.den ρ)).toArray∧(∀x∈m,x.lt S.hp.length)
 | [],rs,l,m,p,hr,h,hp,hlt=>by
  cases rs with
  | nil =>
   simp only [fillL,snJ,Prod.mk.injEq] at h;obtain ⟨_,rfl⟩:=h;exact ⟨rfl,hlt⟩
  | cons _ _=>simp at hr
 | (i,x)::ps,rs,l,m,p,hr,h,hp,hlt=>by
  cases rs with
  | nil=>simp at hr
  | cons r rs =>
   obtain ⟨off,sz,y⟩:=r;simp only [List.map_cons,List.cons.injEq,Prod.mk.injEq] at hr;obtain ⟨⟨h1,h2⟩,hr⟩:=hr;simp only [fillL] at h;split at h
   ·rename_i q v hv;split at h
    ·rename_i cs hcs;cases hb:(cs.length == sz && Nat.ble (off+sz) l.length) with
     | false=>rw [hb] at h; simp at h
     | true =>
      rw [hb] at h;simp only [cnT] at h;split at h
      ·rename_i q2 m2 h3;simp only [snJ,Prod.mk.injEq] at h;obtain ⟨rfl,rfl⟩:=h;obtain ⟨e1,e2⟩:=qAh hs hact h2 hv hp.1;obtain ⟨e3,e4⟩:=SV.cells_den hw0 hcs e2;simp only [Bool.and_eq_true,beq_iff_eq,Nat.ble_eq] at hb;obtain ⟨i1,i2⟩:=qFe hw0 hs hact place ps rs (setL l off cs) m2 q2 hr h3 hp.2 (setL_mem cs l off e4 hlt);refine ⟨?_,i2⟩;simp only [List.map_cons,Instr.fill,h1,e1,e3];have hsz:¬((cs.map (S0.den ρ)).toArray.size≠sz):=by simp [hb.1]
       have hle:¬(off+(cs.map (S0.den ρ)).toArray.size > (l.map (S0.den ρ)).toArray.size):=by simp; omega
       simp only [hsz,hle,decide_false,Bool.or_self,Bool.false_eq_true,if_false];rw [←i1];congr 1
       have:=fold_setL (S0.den ρ) off cs 0 l;simp only [Nat.add_zero] at this;rw [←this,←Array.foldl_toList];simp [Array.toList_zipIdx]
      ·cases h
    ·cases h
   ·cases h
theorem places_spec {P:Program} {fs:List Field}:∀ {ps:List (Nat × Operand)} {rs:List (Nat × Nat × Arg)},places P fs ps=some rs →
  ∀place:Nat→Option (Nat × Nat),(∀(i:Nat) (f:Field) (ti:TypeInfo),fs[i]?=some f→P.info? f.type=some ti→place i=some (f.offset,ti.size)) →
  (ps.map fun x=>(place x.1,arg x.2))=(rs.map fun x=>(some (x.1,x.2.1),some x.2.2))
 | [],rs,h,place,_=>by simp only [places,snJ] at h; subst h; rfl
 | (i,x)::ps,rs,h,place,hpl=>by
  simp only [places] at h;split at h
  ·rename_i f y s h1 h2 h3;split at h
   ·rename_i ti h4;simp only [snJ] at h;subst h;simp only [List.map_cons,h2,hpl i f ti h1 h4,places_spec h3 place hpl]
   ·cases h
  ·cases h
theorem placesA_spec {sz:Nat}:∀ {ps:List (Nat × Operand)} {rs:List (Nat × Nat × Arg)},placesA sz ps=some rs →
  (ps.map fun x=>((fun i=>some (i*sz,sz)) x.1,arg x.2))=(rs.map fun x=>(some (x.1,x.2.1),some x.2.2))
 | [],rs,h=>by simp only [placesA,snJ] at h; subst h; rfl
 | (i,x)::ps,rs,h=>by
  simp only [placesA] at h;split at h
  ·rename_i y s h1 h2;simp only [snJ] at h;subst h;simp only [List.map_cons,h1,placesA_spec h2]
  ·cases h
theorem run_mapM_list {α β:Type} {P:Program} {w:World} (f:α→Sem β) (g:α→β):∀(l:List α),(∀x∈l,(f x).run P w=.ok (g x) w)→(l.mapM f).run P w=.ok (l.map g) w
 | [],_=>by simp
 | x::l,h=>by
  have h1:=h x (by simp);have h2:=run_mapM_list f g l fun y hy=>h y (by simp [hy])
  simp [List.mapM_cons,h1,h2]
theorem build_ok (hw0:∀i<S.hp.length,qD1 (ρ i)) (hs:qEz ρ S a) (hact:act) {t:Nat} {fs:Array Field} {z:List Value} {ps:Array (Nat × Operand)} {rs:List (Nat × Nat × Arg)}
  (hu:E.P.underlying t=some (.struct fs)) (hz:qCb E.P t=some z) (hps:places E.P fs.toList ps.toList=some rs) (hall:fs.toList.all (fun f=>(E.P.info? f.type).isSome)=true) (ho:o.op=.build t ps) {Γ:Nat→Option Con} :
  OpOK E ρ S a o (runP Γ S act (.build z rs)):=by
 obtain ⟨i,v,h1,h2,rfl⟩:=zero_of hz;simp only [runP];split
 ·rename_i p l h;have hplace:∀(i:Nat) (f:Field) (ti:TypeInfo),fs.toList[i]?=some f→E.P.info? f.type=some ti→((fs.toList.map fun f=>(f.offset,E.P.cellsOf f.type)).toArray)[i]?=some (f.offset,ti.size):=by
   intro i f ti hf hti;simp only [List.getElem?_toArray,List.getElem?_map,hf,Option.map_some,Program.cellsOf,hti,Option.getD_some]
  have hsp:=places_spec hps _ hplace;have e1:(v.cells.toList.map S0.val).map (S0.den ρ)=v.cells.toList:=by
   rw [List.map_map];exact (List.map_congr_left fun _ _=>rfl).trans (List.map_id _)
  have key:p→Instr.fill (fun i=>((fs.toList.map fun f=>(f.offset,E.P.cellsOf f.type)).toArray)[i]?) v.cells (ps.toList.map fun x=>(x.1,a.eval x.2))=some (l.map (S0.den ρ)).toArray∧(∀x∈l,x.lt S.hp.length):=by
   intro hp;have:=qFe hw0 hs hact _ ps.toList rs _ l p hsp h hp (fun x hx=>by
    simp only [List.mem_map] at hx;obtain ⟨u,_,rfl⟩:=hx;trivial)
   rw [e1] at this;exact this
  refine qAo (fun hp=>(key hp).2) (fun hp w0 _ w=>?_);have hm:((fs.mapM fun f=>do pure (f.offset,←sizeOf f.type)):Sem (Array (Nat × Nat))).run E.P w=.ok ((fs.toList.map fun f=>(f.offset,E.P.cellsOf f.type)).toArray) w:=by
   rw [Array.mapM_eq_mapM_toList];rw [Sem.run_map,run_mapM_list _ (fun f:Field=>(f.offset,E.P.cellsOf f.type))]
   ·rfl
   ·intro f hf;have:=List.all_eq_true.1 hall f hf;obtain ⟨ti,hti⟩:=Option.isSome_iff_exists.1 this;simp [sizeOf,typeInfo,hti,Program.cellsOf]
  unfold execOp;simp only [ho,Instr.build,Sem.run_bind,qGq h1 h2,Result.andThen_ok,run_underlying hu,hm];have hk:=(key hp).1;have:(Array.map (fun x=>match x with | (i,x)=>(i,a.eval x)) ps).toList=ps.toList.map fun x=>(x.1,a.eval x.2):=by simp
  rw [this,hk];rfl
 ·trivial
theorem buildA_ok {Γ:Nat→Option Con} (hw0:∀i<S.hp.length,qD1 (ρ i)) (hs:qEz ρ S a) (hact:act) {t n e:Nat} {i0:TypeInfo} {z:List Value} {ps:Array (Nat × Operand)} {rs:List (Nat × Nat × Arg)}
  (hu:E.P.underlying t=some (.array n e)) (hz:qCb E.P t=some z) (hi:E.P.info? e=some i0) (hps:placesA i0.size ps.toList=some rs) (ho:o.op=.build t ps) :
  OpOK E ρ S a o (runP Γ S act (.build z rs)):=by
 obtain ⟨i,v,h1,h2,rfl⟩:=zero_of hz;simp only [runP];split
 ·rename_i p l h;have hsp:=placesA_spec hps;have e1:(v.cells.toList.map S0.val).map (S0.den ρ)=v.cells.toList:=by
   rw [List.map_map];exact (List.map_congr_left fun _ _=>rfl).trans (List.map_id _)
  have key:p→Instr.fill (fun i=>some (i*i0.size,i0.size)) v.cells (ps.toList.map fun x=>(x.1,a.eval x.2))=some (l.map (S0.den ρ)).toArray∧(∀x∈l,x.lt S.hp.length):=by
   intro hp;have:=qFe hw0 hs hact (fun i=>some (i*i0.size,i0.size)) ps.toList rs _ l p hsp h hp (fun x hx=>by
    simp only [List.mem_map] at hx;obtain ⟨u,_,rfl⟩:=hx;trivial)
   rw [e1] at this;exact this
  refine qAo (fun hp=>(key hp).2) (fun hp w0 _ w=>?_);have hsz:∀w,(sizeOf e).run E.P w=.ok i0.size w:=fun w=>by simp [sizeOf,typeInfo,hi]
  unfold execOp;simp only [ho,Instr.build,Sem.run_bind,qGq h1 h2,Result.andThen_ok,run_underlying hu,hsz];have hk:=(key hp).1;have:(Array.map (fun x=>match x with | (i,x)=>(i,a.eval x)) ps).toList=ps.toList.map fun x=>(x.1,a.eval x.2):=by simp
  rw [this,hk];rfl
 ·trivial
end
end Go.Eng
