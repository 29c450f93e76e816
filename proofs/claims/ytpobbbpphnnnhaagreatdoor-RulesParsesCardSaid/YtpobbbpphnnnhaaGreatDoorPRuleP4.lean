/-
  Texts of a claim.
-/
import Derived.Tactics
import Derived.Tactics2
import Derived.Defers
import Derived.Recover
import Derived.Laws.Pointers
import Derived.WalkKit
import Derived.Test.YtpobbbpphnnnhaaGreatDoorRP
import Derived.Test.YtpobbbpphnnnhaaGreatDoorEngHand
namespace Go.Proofs.YtpobbbpphnnnhaaGreatDoor
open Go.RowKit Go.Eng
set_option linter.unusedVariables false
set_option linter.unusedSimpArgs false
set_option maxRecDepth 100000 in
theorem caught_idle (a b c:Addr) (w:World) :
  CallsD Tryz.prog 7 #[.pointer (some a),.pointer (some b),.pointer (some c)] .returning w fun e u' w'=>e=.returned (.tuple #[])∧u'=.returning∧w'=w:=by
 refine callsD_of_wpS Tryz.func7 rfl fun c₀ cs hu=>?_
 apply wpS_seq;apply wpS_region;simp [wpOpsS,go_sem,recoverD,hu,Tryz.ntmps7,Exit.thenS];apply wpS_seq;apply wpS_region;simp [wpOpsS,go_sem,Exit.thenS];refine wpS_cond (t:=false) (by simp [Act.eval,Array.replicate]) ?_;simp only [Bool.false_eq_true,if_false];refine wpS_of_wp (wp_skip ?_);cases c₀;simp_all [bodyPostS,results,Tryz.results7]
theorem wp_tmps {P:Program} {c:Go.Code} {Q:Exit→Act→World→Prop} {T T':Array Value} {d:List Deferred} {w:World} (h:T'=T) (hw:Go.Code.wp P c Q ⟨T,d⟩ w):Go.Code.wp P c Q ⟨T',d⟩ w:=h ▸ hw
theorem run_assert {P:Program} {T:TypeId} {fs:Array Field} (h:P.underlying T=some (.struct fs)) (v:Value) (xT:TypeId) (w:World):(Instr.typeAssert (.iface T v) xT T true).run P w=.ok (.tuple #[v,.bool true]) w:=by
 simp [Instr.typeAssert,run_underlying h,go_sem,Result.andThen]
set_option maxRecDepth 100000 in
set_option maxHeartbeats 400000 in
theorem caught_panic (a b c:Nat) (x y z:Value) (k n:Int) (older:List PanicEntry) (w:World) (la:a<w.heap.size) (lb:b<w.heap.size) (lc:c<w.heap.size) (ha:w.cell? ⟨a,0,none⟩=some x) (hb:w.cell? ⟨b,0,none⟩=some y) (hc:w.cell? ⟨c,0,none⟩=some z) (fa:w.frozen? ⟨a,0,none⟩=false) (fb:w.frozen? ⟨b,0,none⟩=false) (fc:w.frozen? ⟨c,0,none⟩=false)
  (hab:a≠b) (hac:a≠c) (hbc:b≠c) :
  CallsD Tryz.prog 7 #[.pointer (some ⟨a,0,none⟩),.pointer (some ⟨b,0,none⟩),.pointer (some ⟨c,0,none⟩)] (.panicking ({ v:=.iface 29 (.agg #[.int .i64 k,.int .i64 n]),recovered:=false }::older)) w fun e u' w'=>e=.returned (.tuple #[])∧u'=.panicking ({ v:=.iface 29 (.agg #[.int .i64 k,.int .i64 n]),recovered:=true }::older)∧∃W0:World,W0.heap.size=w.heap.size+1∧(∀k<w.heap.size,W0.heap[k]?=w.heap[k]?)∧W0.os=w.os∧W0.output=w.output∧w'=(((W0.setCell ⟨a,0,none⟩ (.slice none 0 0)).setCell ⟨b,0,none⟩ (.int .i64 k)).setCell ⟨c,0,none⟩ (.int .i64 n)).drew:=by
 have hta:=fun (v:Value) (xT:TypeId) (w:World)=>run_assert (P:=Tryz.prog) Tryz.underlying29 v xT w
 refine callsD_of_wpS Tryz.func7 rfl fun c₀ cs hu=>?_
 apply wpS_seq;apply wpS_region;simp [wpOpsS,go_sem,recoverD,hu,Tryz.ntmps7,Exit.thenS];apply wpS_seq;apply wpS_region;simp [wpOpsS,go_sem,Exit.thenS];refine wpS_cond (t:=true) (by simp [Act.eval,Array.replicate]) ?_;simp only [if_true];apply wpS_seq;apply wpS_region;simp [wpOpsS,go_sem,Exit.thenS,hta];apply wpS_seq;apply wpS_seq;apply wpS_region;simp [wpOpsS,go_sem,Exit.thenS];refine wpS_cond (t:=false) (by simp [Act.eval,Array.replicate]) ?_;simp only [Bool.false_eq_true,if_false];refine wpS_of_wp (wp_skip ?_);simp only [Exit.thenS];refine wpS_of_wp ?_;let I:Value:=.iface 29 (.agg #[.int .i64 k,.int .i64 n])
 let Tu:Value:=.tuple #[.agg #[.int .i64 k,.int .i64 n],.bool true]
 refine wp_tmps (T := #[.pointer (some ⟨a,0,none⟩),.pointer (some ⟨b,0,none⟩),.pointer (some ⟨c,0,none⟩),I,.pointer (some ⟨w.heap.size,0,none⟩),.bool true,I,I,.bool true,Tu,I,Tu,.agg #[.int .i64 k,.int .i64 n],.bool true,.bool true,.bool false,undef,undef,undef,undef,undef]) (by kernel_rfl) ?_;obtain ⟨W,hW⟩:∃W,W=w.alloc (Obj.cells #[Value.int IntKind.i64 k,Value.int IntKind.i64 n] 29):=⟨_,rfl⟩;rw [←hW];have oa:W.cell? ⟨a,0,none⟩=some x:=by subst hW; simp [go_sem,ha,la]
 have ob:W.cell? ⟨b,0,none⟩=some y:=by subst hW; simp [go_sem,hb,lb]
 have oc:W.cell? ⟨c,0,none⟩=some z:=by subst hW; simp [go_sem,hc,lc]
 have ga:W.frozen? ⟨a,0,none⟩=false:=by subst hW; simp [go_sem,fa,la]
 have gb:W.frozen? ⟨b,0,none⟩=false:=by subst hW; simp [go_sem,fb,lb]
 have gc:W.frozen? ⟨c,0,none⟩=false:=by subst hW; simp [go_sem,fc,lc]
 have f0:W.cell? ⟨w.heap.size,0,none⟩=some (.int .i64 k):=by subst hW; simp [go_sem]
 have f1:W.cell? ⟨w.heap.size,1,none⟩=some (.int .i64 n):=by subst hW; simp [go_sem]
 have hs1:W.heap.size=w.heap.size+1:=by subst hW; exact Array.size_push ..
 have hs2:∀k<w.heap.size,W.heap[k]?=w.heap[k]?:=fun k hk=>by
  subst hW;show (w.heap.push _)[k]?=_;rw [Array.getElem?_push,if_neg (Nat.ne_of_lt hk)]
 have hs3:W.os=w.os:=by subst hW; rfl
 have hs4:W.output=w.output:=by subst hW; rfl
 clear hW ha hb hc fa fb fc;go_region
 exact ⟨rfl,_,rfl,.tuple #[],by simp [results,Tryz.results7],rfl,rfl,W,hs1,hs2,hs3,hs4,rfl⟩
abbrev RNk:List NK:=[.int .i64,.int .i64,.int .i64,.rw .str,.int .i64,.str]
def pHp (p:rules_parser):List SB:=[.cells 33 [.val (.string p.text),.val (.int .i64 p.at_),.val (.int .i64 p.open_),.bsl 2],.dead,.bag RNk 44 p.out]
def pHp0 (text:BA):List SB:=[.cells 33 [.val (.string text),.val (.int .i64 0),.val (.int .i64 0),.val (.slice none 0 0)]]
theorem rule_con {X:Nat→Prop} {w0 w:World} {ρ:Nat→Value} {text:BA} {n:Nat} (hs:HpSat X w0 w ρ (pHp0 text)) (hf:Stays X w0 w) (hρ:ρ 0=.pointer (some ⟨n,0,none⟩)) {o:(rules_parser × Int) ⊕ PV} (ho:zbl_s ⟨text,0,0,[]⟩=some o) :
  Calls Tryz.prog 8 #[.pointer (some ⟨n,0,none⟩)] w fun e w'=>Sum.elim (fun r=>e=.returned (.int .i64 r.2)∧(∃ρ',ρ' 0=.pointer (some ⟨n,0,none⟩)∧HpSat X w0 w' ρ' (pHp r.1))∧Stays X w0 w') (fun q=>e=.panicked [{ v:=panV q,recovered:=false }]∧Stays X w0 w') o:=by
 have key:∀(R:Type) (k:SV→List SB→Option R) (kp:PV→Option R),panC zbl_w [.c (.o (.hd 0 0))] (pHp0 text) R k kp=(zbl_s ⟨text,0,0,[]⟩).bind fun o=>Sum.elim (fun r=>k (.c (.o (.val (.int .i64 r.2)))) (pHp r.1)) kp o:=fun R k kp=>by kernel_rfl
 have h1:=pan_use zbl_ok (args:=[.c (.o (.hd 0 0))]) (hp:=pHp0 text) (o:=Sum.elim (fun r=>.inl (.c (.o (.val (.int .i64 r.2))),pHp r.1)) .inr o) (by rw [key,ho]; cases o <;> rfl) (by simp [SV.lt,SC.lt,S0.lt,pHp0]) hs hf
 have e:([SV.c (.o (.hd 0 0))].map (SV.den ρ)).toArray = #[.pointer (some ⟨n,0,none⟩)]:=by simp [SV.den,SC.den,S0.den,hρ,ptrAdd,Addr.add]
 rw [e] at h1;refine h1.mono ?_;intro e w' hp;cases o with
 | inl r =>
  obtain ⟨ρ',a1,a2,a3,a4,a5,a6⟩:=hp;exact ⟨a3,⟨ρ',(a1 0 (by simp [pHp0])).trans hρ,a5⟩,a6⟩
 | inr q=>exact hp
theorem next_con {X:Nat→Prop} {w0 w:World} {ρ:Nat→Value} {p:rules_parser} {n:Nat} (hs:HpSat X w0 w ρ (pHp p)) (hf:Stays X w0 w) (hρ:ρ 0=.pointer (some ⟨n,0,none⟩)) {r:rules_parser × Int} (ho:zbf_s p=some r) :
  Calls Tryz.prog 9 #[.pointer (some ⟨n,0,none⟩)] w fun e w'=>e=.returned (.int .i64 r.2)∧(∃ρ',ρ' 0=.pointer (some ⟨n,0,none⟩)∧HpSat X w0 w' ρ' (pHp r.1))∧Stays X w0 w':=by
 have key:∀(R:Type) (k:SV→List SB→Option R),loudC zbf_w [.c (.o (.hd 0 0))] (pHp p) R k=(zbf_s p).bind fun r=>k (.c (.o (.val (.int .i64 r.2)))) (pHp r.1):=fun R k=>by kernel_rfl
 have h1:=loud_use zbf_ok (args:=[.c (.o (.hd 0 0))]) (hp:=pHp p) (v:=.c (.o (.val (.int .i64 r.2)))) (hp':=pHp r.1) (by rw [key,ho]; rfl) (by simp [SV.lt,SC.lt,S0.lt,pHp]) hs hf;have e:([SV.c (.o (.hd 0 0))].map (SV.den ρ)).toArray = #[.pointer (some ⟨n,0,none⟩)]:=by simp [SV.den,SC.den,S0.den,hρ,ptrAdd,Addr.add]
 rw [e] at h1;refine h1.mono ?_;rintro e w' ⟨ρ',a1,a2,a3,a4,a5,a6⟩
 exact ⟨a3,⟨ρ',(a1 0 (by simp [pHp])).trans hρ,a5⟩,a6⟩
theorem fail_con {X:Nat→Prop} {w0 w:World} {ρ:Nat→Value} {p:rules_parser} {n:Nat} (hs:HpSat X w0 w ρ (pHp p)) (hf:Stays X w0 w) (hρ:ρ 0=.pointer (some ⟨n,0,none⟩)) {q:PV} (ho:zbb_s p=some (.inr q)) :
  Calls Tryz.prog 10 #[.pointer (some ⟨n,0,none⟩)] w fun e w'=>e=.panicked [{ v:=panV q,recovered:=false }]∧Stays X w0 w':=by
 have key:∀(R:Type) (k:SV→List SB→Option R) (kp:PV→Option R),panC zbb_w [.c (.o (.hd 0 0))] (pHp p) R k kp=(zbb_s p).bind fun o=>Sum.elim (fun r=>k (.tup []) (pHp p)) kp o:=fun R k kp=>by kernel_rfl
 have h1:=pan_use zbb_ok (args:=[.c (.o (.hd 0 0))]) (hp:=pHp p) (o:=.inr q) (by rw [key,ho]; rfl) (by simp [SV.lt,SC.lt,S0.lt,pHp]) hs hf;have e:([SV.c (.o (.hd 0 0))].map (SV.den ρ)).toArray = #[.pointer (some ⟨n,0,none⟩)]:=by simp [SV.den,SC.den,S0.den,hρ,ptrAdd,Addr.add]
 rw [e] at h1;exact h1
abbrev wAt (w:World) (text:BA):World :=
 (((w.alloc (Obj.cells #[.slice none 0 0] 22)).alloc (Obj.cells #[.int .i64 0] 23)).alloc (Obj.cells #[.int .i64 0] 3)).alloc (Obj.cells #[.string text,.int .i64 0,.int .i64 0,.slice none 0 0] 33)
abbrev pX (w:World):Nat→Prop:=fun b=>b=w.heap.size+1+1+1
theorem alloc_at {w:World} {o:Obj} {k:Nat}:(w.alloc o).heap[k]?=if k=w.heap.size then some o else w.heap[k]?:=by
 show (w.heap.push _)[k]?=_;rw [Array.getElem?_push]
theorem alloc_size {w:World} {o:Obj}:(w.alloc o).heap.size=w.heap.size+1:=Array.size_push ..
theorem wAt_old {w:World} {text:BA} {k:Nat} (hk:k<w.heap.size):(wAt w text).heap[k]?=w.heap[k]?:=by
 simp only [wAt,alloc_at,alloc_size];rw [if_neg (by omega),if_neg (by omega),if_neg (by omega),if_neg (by omega)]
theorem wAt_size {w:World} {text:BA}:(wAt w text).heap.size=w.heap.size+4:=by simp only [wAt,alloc_size]
theorem wAt_tab {X:Nat→Prop} {w:World} {text:BA} (ht:qFv X w):qFv (pX w) (wAt w text) :=
 tab_stable ht (fun k hk _=>wAt_old hk) fun k hk hx=>absurd hx (by simp only [pX]; omega)
theorem start_sat {X:Nat→Prop} {w:World} (text:BA) (ht:qFv X w):∃ρ:Nat→Value,ρ 0=.pointer (some ⟨w.heap.size+1+1+1,0,none⟩)∧HpSat (pX w) (wAt w text) (wAt w text) ρ (pHp0 text):=by
 obtain ⟨ρ',_,h2,h3⟩:=(HpSat.nil (pX w) (wAt w text) (wAt_tab ht) (fun _=>undef)).more (.cells 33 [.val (.string text),.val (.int .i64 0),.val (.int .i64 0),.val (.slice none 0 0)]) (.pointer (some ⟨w.heap.size+1+1+1,0,none⟩)) trivial
  (fun ρ' _=>⟨_,rfl,by simp only [wAt,alloc_at,alloc_size]; rw [if_pos trivial]; simp [S0.den],.inr rfl⟩) (by simp [SB.lt,S0.lt]) (fun _ b hb i sb' hi=>by simp at hi)
 exact ⟨ρ',h2,h3⟩
theorem rule_call {X:Nat→Prop} {w:World} (text:BA) (ht:qFv X w) {o:(rules_parser × Int) ⊕ PV} (ho:zbl_s ⟨text,0,0,[]⟩=some o) :
  Calls Tryz.prog 8 #[.pointer (some ⟨w.heap.size+1+1+1,0,none⟩)] (wAt w text) fun e w'=>Sum.elim (fun r=>e=.returned (.int .i64 r.2)∧(∃ρ',ρ' 0=.pointer (some ⟨w.heap.size+1+1+1,0,none⟩)∧HpSat (pX w) (wAt w text) w' ρ' (pHp r.1))∧Stays (pX w) (wAt w text) w') (fun q=>e=.panicked [{ v:=panV q,recovered:=false }]∧Stays (pX w) (wAt w text) w') o:=by
 obtain ⟨ρ,h1,h2⟩:=start_sat text ht;exact rule_con h2 (Stays.refl _ _) h1 ho
theorem qE0 {w:World} {b:Nat} {v:Value} {T:TypeId} (h:w.heap[b]?=some (.cells #[v] T (0,0))):w.cell? ⟨b,0,none⟩=some v:=by simp [World.cell?,h]
theorem froz_of {w:World} {b:Nat} {v:Value} {T:TypeId} (h:w.heap[b]?=some (.cells #[v] T (0,0))):w.frozen? ⟨b,0,none⟩=false:=by simp [World.frozen?,h]
theorem lt_of_at {w:World} {b:Nat} {o:Obj} (h:w.heap[b]?=some o):b<w.heap.size:=(Array.getElem?_eq_some_iff.1 h).1
structure Laid (w:World) (a:Nat) (x y z:Value):Prop where
 h0:w.heap[a]?=some (.cells #[x] 22 (0,0))
 h1:w.heap[a+1]?=some (.cells #[y] 23 (0,0))
 h2:w.heap[a+1+1]?=some (.cells #[z] 3 (0,0))
theorem Laid.start (w:World) (text:BA):Laid (wAt w text) w.heap.size (.slice none 0 0) (.int .i64 0) (.int .i64 0):=by
 refine ⟨?_,?_,?_⟩ <;> simp only [wAt,alloc_at,alloc_size]
 ·rw [if_neg (by omega),if_neg (by omega),if_neg (by omega),if_pos trivial]
 ·rw [if_neg (by omega),if_neg (by omega),if_pos trivial]
 ·rw [if_neg (by omega),if_pos trivial]
theorem Laid.keep {w w':World} {a:Nat} {x y z:Value} (h:Laid w a x y z) (hk:∀k,k=a∨k=a+1∨k=a+1+1→w'.heap[k]?=w.heap[k]?):Laid w' a x y z :=
 ⟨(hk _ (.inl rfl)).trans h.h0,(hk _ (.inr (.inl rfl))).trans h.h1,(hk _ (.inr (.inr rfl))).trans h.h2⟩
theorem Laid.set {w:World} {a:Nat} {x y z:Value} (h:Laid w a x y z) (x' y' z':Value):Laid (((w.setCell ⟨a,0,none⟩ x').setCell ⟨a+1,0,none⟩ y').setCell ⟨a+1+1,0,none⟩ z') a x' y' z':=by
 have g0:=heap_setCell_same w a 0 _ _ x' h.h0;have g1:=heap_setCell_same (w.setCell ⟨a,0,none⟩ x') (a+1) 0 _ _ y' ((heap_setCell_other w ⟨a,0,none⟩ (a+1) x' (by simp)).trans h.h1);have g2:=heap_setCell_same ((w.setCell ⟨a,0,none⟩ x').setCell ⟨a+1,0,none⟩ y') (a+1+1) 0 _ _ z' (((heap_setCell_other _ ⟨a+1,0,none⟩ (a+1+1) y' (by simp)).trans (heap_setCell_other w ⟨a,0,none⟩ (a+1+1) x' (by simp; omega))).trans h.h2);exact ⟨((heap_setCell_other _ ⟨a+1+1,0,none⟩ a z' (by simp; omega)).trans (heap_setCell_other _ ⟨a+1,0,none⟩ a y' (by simp))).trans g0,(heap_setCell_other _ ⟨a+1+1,0,none⟩ (a+1) z' (by simp)).trans g1,g2⟩
theorem set3_other {w:World} {a k:Nat} {x y z:Value} (hk:k≠a∧k≠a+1∧k≠a+1+1):(((w.setCell ⟨a,0,none⟩ x).setCell ⟨a+1,0,none⟩ y).setCell ⟨a+1+1,0,none⟩ z).heap[k]?=w.heap[k]? :=
 ((heap_setCell_other _ ⟨a+1+1,0,none⟩ k z hk.2.2).trans (heap_setCell_other _ ⟨a+1,0,none⟩ k y hk.2.1)).trans (heap_setCell_other _ ⟨a,0,none⟩ k x hk.1)
theorem set3_size {w:World} {a:Nat} {x y z:Value}:(((w.setCell ⟨a,0,none⟩ x).setCell ⟨a+1,0,none⟩ y).setCell ⟨a+1+1,0,none⟩ z).heap.size=w.heap.size:=by simp [World.setCell]
def qFr (X:Nat→Prop) (w:World) (r:List (NT RNk) × Int × Int) (e:Ending) (w':World):Prop :=
 ∃ρ':Nat→Value,e=.returned (.tuple #[baseV (ρ' 0),.int .i64 r.2.1,.int .i64 r.2.2])∧HpSat X w w' ρ' [.bag RNk 44 r.1]∧Stays X w w'
theorem post_nil {X:Nat→Prop} {w w':World} (ht:qFv X w) (hf:Stays X w w') (k n:Int):qFr X w ([],k,n) (.returned (.tuple #[.slice none 0 0,.int .i64 k,.int .i64 n])) w':=by
 have h0:HpSat X w w' (fun _=>undef) []:=⟨fun h hh=>(by simp at hh),fun h sb hh=>(by simp at hh),fun h sb hh=>(by simp at hh),fun h h' sb sb' b _ hh=>(by simp at hh),ht⟩;have h1:=qFp (t:=.bag RNk) (x:=.val (.slice none 0 0)) rfl h0 44;exact ⟨_,rfl,h1,hf⟩
theorem pan_tail {X:Nat→Prop} {w w1:World} {text:BA} (ht:qFv X w) (hf1:Stays (pX w) (wAt w text) w1) (k n:Int) :
  CallsD Tryz.prog 7 #[.pointer (some ⟨w.heap.size,0,none⟩),.pointer (some ⟨w.heap.size+1,0,none⟩),.pointer (some ⟨w.heap.size+1+1,0,none⟩)] (.panicking [{ v:=.iface 29 (.agg #[.int .i64 k,.int .i64 n]),recovered:=false }]) w1 fun e u' w'=>e=.returned (.tuple #[])∧u'=.panicking [{ v:=.iface 29 (.agg #[.int .i64 k,.int .i64 n]),recovered:=true }] ∧
   w'.cell? ⟨w.heap.size,0,none⟩=some (.slice none 0 0)∧w'.cell? ⟨w.heap.size+1,0,none⟩=some (.int .i64 k)∧w'.cell? ⟨w.heap.size+1+1,0,none⟩=some (.int .i64 n)∧Stays X w w':=by
 have L:Laid w1 w.heap.size (.slice none 0 0) (.int .i64 0) (.int .i64 0):=(Laid.start w text).keep fun k hk=>hf1.block k (by rw [wAt_size]; omega) (by simp only [pX]; omega)
 refine (caught_panic w.heap.size (w.heap.size+1) (w.heap.size+1+1) _ _ _ k n [] w1 (lt_of_at L.h0) (lt_of_at L.h1) (lt_of_at L.h2) (qE0 L.h0) (qE0 L.h1) (qE0 L.h2) (froz_of L.h0) (froz_of L.h1) (froz_of L.h2) (by omega) (by omega) (by omega)).mono ?_;rintro e u' w'' ⟨rfl,rfl,W0,z1,z2,z3,z4,rfl⟩
 have L2:=(L.keep (w':=W0) fun k hk=>z2 k (by have h0:=lt_of_at L.h0; have h1:=lt_of_at L.h1; have h2:=lt_of_at L.h2; omega)).set (.slice none 0 0) (.int .i64 k) (.int .i64 n);refine ⟨rfl,rfl,qE0 L2.h0,qE0 L2.h1,qE0 L2.h2,?_⟩;have hsz:=hf1.size;rw [wAt_size] at hsz;refine Stays.drew ⟨z3.trans hf1.os,z4.trans hf1.output,by rw [set3_size,z1]; omega,fun j hj _=>?_⟩;rw [set3_other ⟨by omega,by omega,by omega⟩,z2 j (by omega),hf1.block j (by rw [wAt_size]; omega) (by simp only [pX]; omega),wAt_old hj]
set_option maxRecDepth 100000 in
set_option maxHeartbeats 1000000 in
theorem parse_large {X:Nat→Prop} (text:BA) (w:World) (ht:qFv X w) (hs:(1024:Int)<text.size):Calls Tryz.prog 4 #[.string text] w fun e w'=>qFr X w ([],10,0) e w':=by
 go_enter_defers Tryz.func4,Tryz.ntmps4
 go_wp2
 simp [bodyPostD,Leaves,results,Tryz.results4,go_sem];exact post_nil ht ((((Stays.refl X w).alloc _).alloc _).alloc _) 10 0
set_option maxRecDepth 100000 in
set_option maxHeartbeats 1000000 in
theorem parse_pan {X:Nat→Prop} (text:BA) (w:World) (ht:qFv X w) (hs:¬(1024:Int)<text.size) {k n:Int} (ho:zbl_s ⟨text,0,0,[]⟩=some (.inr (29,.agg #[.int .i64 k,.int .i64 n]))):Calls Tryz.prog 4 #[.string text] w fun e w'=>qFr X w ([],k,n) e w':=by
 have hmf:∀(fn:Fn) (first cap:Array Value) (w:World),(Instr.makeFunc fn first cap).run Tryz.prog w=.ok (.func fn first cap) w:=fun _ _ _ _=>rfl
 have hcall:=rule_call text ht ho;go_enter_defers Tryz.func4,Tryz.ntmps4
 go_wp2_with (go_at_call 8; refine hcall.mono ?_; rintro e w1 ⟨rfl,hf1⟩)
 refine leaves_cons (f:=7) (args := #[.pointer (some ⟨w.heap.size,0,none⟩),.pointer (some ⟨w.heap.size+1,0,none⟩),.pointer (some ⟨w.heap.size+1+1,0,none⟩)]) (by simp) (by simp [go_sem]) ?_;refine (pan_tail ht hf1 k n).mono ?_;rintro e u' W3 ⟨rfl,rfl,c0,c1,c2,hf⟩
 simp [Leaves,settle,results,Tryz.results4,go_sem,c0,c1,c2];exact post_nil ht hf k n
set_option maxRecDepth 100000 in
set_option maxHeartbeats 1000000 in
theorem parse_fail {X:Nat→Prop} (text:BA) (w:World) (ht:qFv X w) (hs:¬(1024:Int)<text.size) {p:rules_parser} {i:Int} {q:rules_parser × Int} {k n:Int} (ho:zbl_s ⟨text,0,0,[]⟩=some (.inl (p,i))) (hn:zbf_s p=some q) (hq:q.2≠0) (hx:zbb_s q.1=some (.inr (29,.agg #[.int .i64 k,.int .i64 n]))) :
  Calls Tryz.prog 4 #[.string text] w fun e w'=>qFr X w ([],k,n) e w':=by
 have hmf:∀(fn:Fn) (first cap:Array Value) (w:World),(Instr.makeFunc fn first cap).run Tryz.prog w=.ok (.func fn first cap) w:=fun _ _ _ _=>rfl
 have hcall:=rule_call text ht ho;go_enter_defers Tryz.func4,Tryz.ntmps4
 go_wp2_with (first
  | (go_at_call 8; refine hcall.mono ?_; rintro e w1 ⟨rfl,⟨ρ1,r1,s1⟩,f1⟩)
  | (go_at_call 9; refine (next_con s1 f1 r1 hn).mono ?_; rintro e w2 ⟨rfl,⟨ρ2,r2,s2⟩,f2⟩)
  | (go_at_call 10; refine (fail_con s2 f2 r2 hx).mono ?_; rintro e w3 ⟨rfl,f3⟩))
 refine leaves_cons (f:=7) (args := #[.pointer (some ⟨w.heap.size,0,none⟩),.pointer (some ⟨w.heap.size+1,0,none⟩),.pointer (some ⟨w.heap.size+1+1,0,none⟩)]) (by simp) (by simp [go_sem]) ?_;refine (pan_tail ht f3 k n).mono ?_;rintro e u' W3 ⟨rfl,rfl,c0,c1,c2,hf⟩
 simp [Leaves,settle,results,Tryz.results4,go_sem,c0,c1,c2];exact post_nil ht hf k n
theorem pHp_cell {X:Nat→Prop} {w0 w:World} {ρ:Nat→Value} {p:rules_parser} {n:Nat} (hs:HpSat X w0 w ρ (pHp p)) (hρ:ρ 0=.pointer (some ⟨n,0,none⟩)):w.cell? ⟨n,3,none⟩=some (baseV (ρ 2)):=by
 obtain ⟨b,h1,h2,_⟩:=hs.sat 0 _ rfl;rw [hρ] at h1;simp only [Value.pointer.injEq,snJ,Addr.mk.injEq,and_true] at h1;subst h1;simp [World.cell?,h2,S0.den]
theorem pHp_slice {X:Nat→Prop} {w0 w:World} {ρ:Nat→Value} {p:rules_parser} (hs:HpSat X w0 w ρ (pHp p)):∃a n c,baseV (ρ 2)=.slice a n c:=by
 obtain ⟨u,rs,hv,hb⟩:=hs.sat 2 _ rfl;rcases hb.row.2 with ⟨h0,_⟩ | ⟨g,cap,cur,h0,_⟩
 ·exact ⟨_,_,_,by rw [hv,qBd _ (by rw [h0]; rfl),h0]⟩
 ·exact ⟨_,_,_,by rw [hv,qBd _ (by rw [h0]; rfl),h0]⟩
theorem ok_tail {X:Nat→Prop} {w w2:World} {text:BA} {ρ:Nat→Value} {p:rules_parser} (ht:qFv X w) (f2:Stays (pX w) (wAt w text) w2) (s2:HpSat (pX w) (wAt w text) w2 ρ (pHp p)) (v:Value) :
  qFr X w (p.out,0,0) (.returned (.tuple #[baseV (ρ 2),.int .i64 0,.int .i64 0])) (((w2.setCell ⟨w.heap.size,0,none⟩ v).setCell ⟨w.heap.size+1,0,none⟩ (.int .i64 0)).setCell ⟨w.heap.size+1+1,0,none⟩ (.int .i64 0)):=by
 have hsz:=f2.size;rw [wAt_size] at hsz;have hx:∀b,Excl (pX w) (wAt w text) b→w.heap.size+3≤b:=fun b hb=>by
  rcases hb with hb | hb
  ·rw [wAt_size] at hb; omega
  ·simp only [pX] at hb; omega
 refine ⟨_,rfl,bag_alone s2 (i:=2) rfl ht (fun b hb=>.inl (by have:=hx b hb; omega)) (fun b _ hb=>set3_other (by have:=hx b hb; omega)),f2.os,f2.output,by rw [set3_size]; omega,fun j hj _=>?_⟩;rw [set3_other ⟨by omega,by omega,by omega⟩,f2.block j (by rw [wAt_size]; omega) (by simp only [pX]; omega),wAt_old hj]
set_option maxRecDepth 100000 in
set_option maxHeartbeats 1000000 in
theorem parse_ok {X:Nat→Prop} (text:BA) (w:World) (ht:qFv X w) (hs:¬(1024:Int)<text.size) {p:rules_parser} {i:Int} {q:rules_parser} (ho:zbl_s ⟨text,0,0,[]⟩=some (.inl (p,i))) (hn:zbf_s p=some (q,0)) :
  Calls Tryz.prog 4 #[.string text] w fun e w'=>qFr X w (q.out,0,0) e w':=by
 have hmf:∀(fn:Fn) (first cap:Array Value) (w:World),(Instr.makeFunc fn first cap).run Tryz.prog w=.ok (.func fn first cap) w:=fun _ _ _ _=>rfl
 have hcall:=rule_call text ht ho;go_enter_defers Tryz.func4,Tryz.ntmps4
 go_wp2_with (first
  | (go_at_call 8; refine hcall.mono ?_; rintro e w1 ⟨rfl,⟨ρ1,r1,s1⟩,f1⟩)
  | (go_at_call 9; refine (next_con s1 f1 r1 hn).mono ?_; rintro e w2 ⟨rfl,⟨ρ2,r2,s2⟩,f2⟩; have c3:=pHp_cell s2 r2; obtain ⟨sa,sn,sc,hsl⟩:=pHp_slice s2; rw [hsl] at c3; have L:Laid w2 w.heap.size (.slice none 0 0) (.int .i64 0) (.int .i64 0):=(Laid.start w text).keep fun k hk=>f2.block k (by rw [wAt_size]; omega) (by simp only [pX]; omega); have c0:=qE0 L.h0; have c1:=qE0 L.h1; have c2:=qE0 L.h2; have g0:=froz_of L.h0; have g1:=froz_of L.h1; have g2:=froz_of L.h2))
 refine leaves_cons (f:=7) (args := #[.pointer (some ⟨w.heap.size,0,none⟩),.pointer (some ⟨w.heap.size+1,0,none⟩),.pointer (some ⟨w.heap.size+1+1,0,none⟩)]) (by simp) (by simp [go_sem]) ?_;refine (caught_idle ⟨w.heap.size,0,none⟩ ⟨w.heap.size+1,0,none⟩ ⟨w.heap.size+1+1,0,none⟩ _).mono ?_;rintro e u' W3 ⟨rfl,rfl,rfl⟩
 have L3:=L.set (.slice sa sn sc) (.int .i64 0) (.int .i64 0);have d0:=qE0 L3.h0;have d1:=qE0 L3.h1;have d2:=qE0 L3.h2;have hP:=ok_tail ht f2 s2 (.slice sa sn sc);rw [hsl] at hP;generalize ((w2.setCell ⟨w.heap.size,0,none⟩ (.slice sa sn sc)).setCell ⟨w.heap.size+1,0,none⟩ (.int .i64 0)).setCell ⟨w.heap.size+1+1,0,none⟩ (.int .i64 0)=W3 at *
 simp [Leaves,settle,results,Tryz.results4,go_sem,d0,d1,d2];exact hP
def caughtQ (q:PV):Option (List (NT RNk) × Int × Int) :=
 match q with
 | (29,.agg ⟨[.int .i64 k,.int .i64 n]⟩)=>some ([],k,n)
 | _=>none
noncomputable def qC6 (text:BA):Option (List (NT RNk) × Int × Int) :=
 bif decide ((1024:Int)<text.size) then some ([],10,0) else
 (zbl_s ⟨text,0,0,[]⟩).bind fun o=>Sum.elim (fun r=>(zbf_s r.1).bind fun q=>bif decide (q.2=0) then some (q.1.out,0,0) else (zbb_s q.1).bind fun o=>Sum.elim (fun _=>none) caughtQ o) caughtQ o
theorem caught_of {q:PV} {r:List (NT RNk) × Int × Int} (h:caughtQ q=some r):∃k n,q=(29,.agg #[.int .i64 k,.int .i64 n])∧r=([],k,n):=by
 unfold caughtQ at h;split at h
 ·cases h; exact ⟨_,_,rfl,rfl⟩
 ·cases h
theorem parse_all {X:Nat→Prop} (text:BA) (w:World) (ht:qFv X w) {r:List (NT RNk) × Int × Int} (hr:qC6 text=some r):Calls Tryz.prog 4 #[.string text] w fun e w'=>qFr X w r e w':=by
 unfold qC6 at hr;by_cases hs:(1024:Int)<text.size
 ·rw [deT hs] at hr;cases hr;exact parse_large text w ht hs
 ·rw [deF hs] at hr;obtain ⟨o,ho,h2⟩:=Option.bind_eq_some_iff.1 (show (zbl_s ⟨text,0,0,[]⟩).bind _=_ from hr);cases o with
  | inr q =>
   obtain ⟨k,n,rfl,rfl⟩:=caught_of h2;exact parse_pan text w ht hs ho
  | inl r0 =>
   obtain ⟨p,i⟩:=r0;obtain ⟨⟨q,j⟩,hn,h3⟩:=Option.bind_eq_some_iff.1 (show (zbf_s p).bind _=_ from h2);by_cases hj:j=0
   ·subst hj;cases h3;exact parse_ok text w ht hs ho hn
   ·rw [deF hj] at h3;simp only [cnF] at h3;obtain ⟨o2,hx,h4⟩:=Option.bind_eq_some_iff.1 h3;cases o2 with
    | inl u=>cases h4
    | inr q2 =>
     obtain ⟨k,n,rfl,rfl⟩:=caught_of h4;exact parse_fail text w ht hs ho hn hj hx
def rParse_da:=(qAa (dVC (dCO dS)) dNil)
def rParse_db:Dec Unit (List SB):=dNil
noncomputable def rules_Parse_c:CS:=mkC rParse_da rParse_db (fun x y=>qC6 x.1) (fun x y r=>.tup [.o (.bsl 0),.o (.val (.int .i64 r.2.1)),.o (.val (.int .i64 r.2.2))]) fun x y r=>[.bag RNk 44 r.1]
theorem rules_Parse_val:qAj Tryz.prog 4 rules_Parse_c:=by
 refine ⟨mkC_nat _ _ _ _ _,fun args hp v hp' hC hlt X w ρ hhp=>?_⟩;unfold rules_Parse_c mkC at hC;obtain ⟨x,h1,h2⟩:=Option.bind_eq_some_iff.1 hC;obtain ⟨y,h3,h4⟩:=Option.bind_eq_some_iff.1 h2;obtain ⟨r,h5,h6⟩:=Option.bind_eq_some_iff.1 h4;have e1:=Dec.ok _ _ _ h1;have e2:=Dec.ok _ _ _ h3;subst e1 e2;simp only [snJ,Prod.mk.injEq] at h6;obtain ⟨rfl,rfl⟩:=h6;obtain ⟨s,u⟩:=x;refine (parse_all s w hhp.tab h5).mono ?_;rintro e w' ⟨ρ',rfl,g1,g2⟩
 refine ⟨ρ',fun i hi=>absurd hi (Nat.not_lt_zero _),Nat.zero_le _,?_,?_,g1,g2⟩
 ·simp [SV.den,SC.den,S0.den]
 ·intro x hx;simp only [List.mem_cons,List.not_mem_nil,or_false] at hx;rcases hx with rfl | rfl | rfl <;> simp [SC.lt,S0.lt]
noncomputable def rules_Parse_w:CQ:=qBs [] rules_Parse_c
theorem rules_Parse_ok:qAg Tryz.prog 4 rules_Parse_w:=qB3 rules_Parse_val
end Go.Proofs.YtpobbbpphnnnhaaGreatDoor
namespace Go.Proofs.YtpobbbpphnnnhaaGreatDoor
open Go.Eng
set_option linter.unusedVariables false
set_option linter.unusedSimpArgs false
def panR (c:Int) (b:Nat):PV:=(29,.agg #[.int .i64 c,.int .i64 (b:Int)])
def rsR (t:BA) (o:Nat):Rd (RNl × Int)→(rules_parser × Int) ⊕ PV
 | .ok b x=>.inl (⟨t,(b:Int),(o:Int),x.1⟩,x.2)
 | .bad c b=>.inr (panR c b)
def rsL (t:BA) (o:Nat):Rd (RNl × Int)→PV ⊕ (Int × BA × Int × Int × RNl)
 | .ok b x=>.inr (x.2,t,(b:Int),(o:Int),x.1)
 | .bad c b=>.inl (panR c b)
section
variable {t:BA} (hs:t.size≤1024)
include hs
omit hs in
theorem u_enter {a o:Nat} {out:RNl} {b:Nat} (ho:o≤32):zba_s ⟨t,(a:Int),(o:Int),out⟩ (b:Int)=some (if o=32 then .inr (panR 11 b) else .inl ⟨t,(a:Int),((o+1:Nat):Int),out⟩):=by
 unfold zba_s;dsimp only;by_cases h:o=32
 ·rw [deT (by omega),cnT,if_pos h];rfl
 ·rw [deF (by omega),cnF,if_neg h,qAb (by unfold qAf; omega)];rfl
theorem u_atom {g:RuT} (hg:AdvG t g) {self:rules_parser→Option ((rules_parser × Int) ⊕ PV)} {a o:Nat} {out:RNl} (ha:a≤t.size) (ho:o≤32) (hl:out.length≤a)
  (h0:∀a' o':Nat,a<a'→a'≤t.size→o'≤32→self ⟨t,(a':Int),(o':Int),out⟩=some (rsR t o' (g 0 a' o' out 0)))
  (h3:∀a' o':Nat,a<a'→a'≤t.size→o'≤32→zbl_t self ⟨t,(a':Int),(o':Int),out⟩=some (rsR t o' (g 3 a' o' out 0))) :
  zay_t self ⟨t,(a:Int),(o:Int),out⟩=some (rsR t o (atomF t g a o out)):=by
 have h1:=qB6 t a;have h2:=qA6 t a ha;have hb:=skip_idem t a;have hp2:qE4 t true a=qE4 t true (qAq t a):=by unfold qE4; rw [hb]
 have hpa:qFb t a=qFb t (qAq t a):=by unfold qFb; rw [hp2]
 have hte:testS t a out=testS t (qAq t a) out:=by unfold testS; rw [hpa]
 unfold zay_t atomF;rw [u_nextk hs o out a ha,obS,hte];dsimp only;generalize qAq t a=i at *
 have k1:=u_keyw hs o out i h2 (w:=bNot) (by decide) (by decide);have k2:=u_keyw hs o out i h2 (w:=bHas) (by decide) (by decide);have k3:=u_sign hs o out i h2 (c:=40) rfl;rw [hb] at k1 k2 k3;rw [show (⟨#[110,111,116]⟩:BA)=bNot from rfl,show (⟨#[104,97,115]⟩:BA)=bHas from rfl,k1,obS];by_cases hi:t.size≤i
 ·have wo:∀w:BA,0<w.size→qA5 t i≠w:=fun w hw h=>by rw [word_out hi] at h; subst h; exact absurd hw (by decide)
  rw [if_pos hi,if_neg (wo _ (by decide))];dsimp only;rw [cnF,k2,obS,if_neg (wo _ (by decide))];dsimp only;rw [cnF,k3,obS,if_neg (by rw [qBm (by omega)]; decide)];dsimp only;rw [cnF,u_path hs o out i h2,obS];have:qFb t i=.bad 180 i:=by
   unfold qFb qE4;dsimp only;rw [hb,if_pos hi]
  rw [this];rfl
 ·rw [if_neg hi];by_cases w1:qA5 t i=bNot
  ·have hin:=qCc h2 w1;have e:bNot.size=3:=rfl;rw [if_pos w1,if_pos w1];dsimp only;rw [cnT,u_enter ho,obS];by_cases h32:o=32
   ·rw [if_pos h32,if_pos h32];rfl
   ·rw [if_neg h32,if_neg h32];simp only [Sum.elim_inl];rw [h0 (i+bNot.size) (o+1) (by omega) hin (by omega),obS];rw [e];cases hr:g 0 (i+3) (o+1) out 0 with
    | bad c b=>rfl
    | ok b x =>
     obtain ⟨q1,q2,q3⟩:=hg 0 (i+3) (o+1) b out 0 x (by omega) hr;show (gd (qAf (((o+1:Nat):Int) - 1)) _:Option ((rules_parser × Int) ⊕ PV))=_;rw [qAb (by unfold qAf; omega),show (((o+1:Nat):Int) - 1)=(o:Int) by omega];show (zbg_s ⟨t,(b:Int),(o:Int),x.1⟩ _).bind _=_;rw [u_node _ _ _ _ (by omega)];rfl
  ·rw [if_neg w1,if_neg w1];dsimp only;rw [cnF,k2,obS];by_cases w2:qA5 t i=bHas
   ·have hin:=qCc h2 w2;have e:bHas.size=3:=rfl;rw [if_pos w2,if_pos w2];dsimp only;rw [cnT,u_path hs o out (i+bHas.size) hin,obS,e];cases hp:qFb t (i+3) with
    | bad c b=>rfl
    | ok b l =>
     show (zbg_s ⟨t,(b:Int),(o:Int),out⟩ _).bind _=_;rw [u_node _ _ _ _ (by omega)];rfl
   ·rw [if_neg w2,if_neg w2];dsimp only;rw [cnF,k3,obS];by_cases h40:bAt t (i:Int)=40
    ·have h5:=bNN (by omega) h40;rw [if_pos h40,if_pos h40];dsimp only;rw [cnT,u_enter ho,obS];by_cases h32:o=32
     ·rw [if_pos h32,if_pos h32];rfl
     ·rw [if_neg h32,if_neg h32];simp only [Sum.elim_inl];rw [h3 (i+1) (o+1) (by omega) (by omega) (by omega),obS];cases hr:g 3 (i+1) (o+1) out 0 with
      | bad c b=>rfl
      | ok b x =>
       obtain ⟨q1,q2,q3⟩:=hg 3 (i+1) (o+1) b out 0 x (by omega) hr;show (zbp_s ⟨t,(b:Int),((o+1:Nat):Int),x.1⟩ 41).bind _=_;rw [u_sign hs _ _ b q1 rfl,obS];show _=some (rsR t o (if bAt t (qAq t b:Int)=41 then .ok (qAq t b+1) x else .bad 180 (qAq t b)));by_cases h41:bAt t (qAq t b:Int)=41
       ·rw [if_pos h41,if_pos h41];show (gd (qAf (((o+1:Nat):Int) - 1)) _:Option ((rules_parser × Int) ⊕ PV))=_;rw [qAb (by unfold qAf; omega),show (((o+1:Nat):Int) - 1)=(o:Int) by omega];rfl
       ·rw [if_neg h41,if_neg h41];rfl
    ·rw [if_neg h40,if_neg h40];dsimp only;rw [cnF,u_path hs o out i h2,obS];unfold testS;cases hp:qFb t i with
     | bad c b=>rfl
     | ok b l =>
      have h5:=pathS_adv h2 hp;simp only [rsP,Sum.elim_inl];rw [u_oper hs o out b h5.2.1 h5.2.2,obS];cases hop:opS t b with
      | none=>rfl
      | some x =>
       obtain ⟨op,n⟩:=x;have h6:=opS_adv hop;simp only [Sum.elim_inl];rw [u_value hs o out (b+n) h6.2,obS];cases hv:valS t (decide (op=11)) (b+n) with
       | bad c b'=>rfl
       | ok b' z =>
        show (zbg_s ⟨t,(b':Int),(o:Int),out⟩ _).bind _=_;rw [u_node _ _ _ _ (by omega)];rfl
omit hs in
theorem u_conj {g:RuT} (hg:AdvG t g) {self:rules_parser→Option ((rules_parser × Int) ⊕ PV)} {a o:Nat} {out:RNl} (ha:a≤t.size) (ho:o≤32) (hl:out.length≤a)
  (h0:self ⟨t,(a:Int),(o:Int),out⟩=some (rsR t o (g 0 a o out 0)))
  (h2:∀(b:Nat) (x:RNl × Int),a<b→b≤t.size→x.1.length≤b→zaz_p0 self x.2 t (b:Int) (o:Int) x.1=some (rsL t o (g 2 b o x.1 x.2))) :
  zaz_t self ⟨t,(a:Int),(o:Int),out⟩=some (rsR t o (thenF g 0 2 a o out)):=by
 unfold zaz_t thenF;rw [h0,obS];cases hr:g 0 a o out 0 with
 | bad c b=>rfl
 | ok b x =>
  obtain ⟨q1,q2,q3⟩:=hg 0 a o b out 0 x ha hr;rw [if_pos (.inl rfl)] at q2;show (zaz_p0 self x.2 t (b:Int) (o:Int) x.1).bind _=_;rw [h2 b x q2 q1 (by omega),obS];show _=some (rsR t o (g 2 b o x.1 x.2));cases g 2 b o x.1 x.2 <;> rfl
theorem u_more {g:RuT} (hg:AdvG t g) {self:rules_parser→Option ((rules_parser × Int) ⊕ PV)} {a o:Nat} {out:RNl} {acc:Int} (ha:a≤t.size) (ho:o≤32) (hl:out.length≤a)
  (h0:∀a':Nat,a<a'→a'≤t.size→self ⟨t,(a':Int),(o:Int),out⟩=some (rsR t o (g 0 a' o out 0)))
  (h2:∀(b:Nat) (out':RNl) (x:Int),a<b→b≤t.size→out'.length≤b→zaz_p0 self x t (b:Int) (o:Int) out'=some (rsL t o (g 2 b o out' x))) :
  zaz_p0 self acc t (a:Int) (o:Int) out=some (rsL t o (moreF t g bAnd 1 0 2 a o out acc)):=by
 have g1:=qB6 t a;have g2:=qA6 t a ha;have k1:=u_keyw hs o out a ha (w:=bAnd) (by decide) (by decide);unfold zaz_p0 moreF;by_cases w1:qA5 t (qAq t a)=bAnd
 ·have hin:=qCc g2 w1;have e:bAnd.size=3:=rfl;rw [if_pos w1] at k1 ⊢;have hst:qEg self acc t (a:Int) (o:Int) out=some (match g 0 (qAq t a+bAnd.size) o out 0 with
    | .bad c b=>.inr (.inl (panR c b))
    | .ok b x=>.inl ((x.1.length:Int),t,(b:Int),(o:Int),x.1++[(1,acc,x.2,[],0,⟨#[]⟩,())])):=by
   unfold qEg;rw [show (⟨#[97,110,100]⟩:BA)=bAnd from rfl,k1,obS];dsimp only;rw [cnT,h0 _ (by omega) hin,obS];cases hr:g 0 (qAq t a+bAnd.size) o out 0 with
   | bad c b=>rfl
   | ok b x =>
    obtain ⟨q1,q2,q3⟩:=hg 0 _ o b out 0 x hin hr;show (zbg_s ⟨t,(b:Int),(o:Int),x.1⟩ _).bind _=_;rw [u_node _ _ _ _ (by omega)];rfl
  cases hr:g 0 (qAq t a+bAnd.size) o out 0 with
  | bad c b =>
   rw [hr] at hst;exact qAi hst
  | ok b x =>
   obtain ⟨q1,q2,q3⟩:=hg 0 _ o b out 0 x hin hr;rw [if_pos (.inl rfl)] at q2;rw [hr] at hst;exact (qAr hst).trans (h2 b _ _ (by omega) q1 (by simp; omega))
 ·rw [if_neg w1] at k1 ⊢;refine qAi ?_;unfold qEg;rw [show (⟨#[97,110,100]⟩:BA)=bAnd from rfl,k1];rfl
omit hs in
theorem u_rule {g:RuT} (hg:AdvG t g) {self:rules_parser→Option ((rules_parser × Int) ⊕ PV)} {a o:Nat} {out:RNl} (ha:a≤t.size) (ho:o≤32) (hl:out.length≤a)
  (h0:zaz_t self ⟨t,(a:Int),(o:Int),out⟩=some (rsR t o (g 1 a o out 0)))
  (h2:∀(b:Nat) (x:RNl × Int),a<b→b≤t.size→x.1.length≤b→zbl_p0 self x.2 t (b:Int) (o:Int) x.1=some (rsL t o (g 4 b o x.1 x.2))) :
  zbl_t self ⟨t,(a:Int),(o:Int),out⟩=some (rsR t o (thenF g 1 4 a o out)):=by
 unfold zbl_t thenF;rw [h0,obS];cases hr:g 1 a o out 0 with
 | bad c b=>rfl
 | ok b x =>
  obtain ⟨q1,q2,q3⟩:=hg 1 a o b out 0 x ha hr;rw [if_pos (.inr (.inl rfl))] at q2;show (zbl_p0 self x.2 t (b:Int) (o:Int) x.1).bind _=_;rw [h2 b x q2 q1 (by omega),obS];show _=some (rsR t o (g 4 b o x.1 x.2));cases g 4 b o x.1 x.2 <;> rfl
theorem u_more2 {g:RuT} (hg:AdvG t g) {self:rules_parser→Option ((rules_parser × Int) ⊕ PV)} {a o:Nat} {out:RNl} {acc:Int} (ha:a≤t.size) (ho:o≤32) (hl:out.length≤a)
  (h0:∀a':Nat,a+1<a'→a'≤t.size→zaz_t self ⟨t,(a':Int),(o:Int),out⟩=some (rsR t o (g 1 a' o out 0)))
  (h2:∀(b:Nat) (out':RNl) (x:Int),a<b→b≤t.size→out'.length≤b→zbl_p0 self x t (b:Int) (o:Int) out'=some (rsL t o (g 4 b o out' x))) :
  zbl_p0 self acc t (a:Int) (o:Int) out=some (rsL t o (moreF t g bOr 2 1 4 a o out acc)):=by
 have g1:=qB6 t a;have g2:=qA6 t a ha;have k1:=u_keyw hs o out a ha (w:=bOr) (by decide) (by decide);unfold zbl_p0 moreF;by_cases w1:qA5 t (qAq t a)=bOr
 ·have hin:=qCc g2 w1;have e:bOr.size=2:=rfl;rw [if_pos w1] at k1 ⊢;have hst:qEi self acc t (a:Int) (o:Int) out=some (match g 1 (qAq t a+bOr.size) o out 0 with
    | .bad c b=>.inr (.inl (panR c b))
    | .ok b x=>.inl ((x.1.length:Int),t,(b:Int),(o:Int),x.1++[(2,acc,x.2,[],0,⟨#[]⟩,())])):=by
   unfold qEi;rw [show (⟨#[111,114]⟩:BA)=bOr from rfl,k1,obS];dsimp only;rw [cnT,h0 _ (by omega) hin,obS];cases hr:g 1 (qAq t a+bOr.size) o out 0 with
   | bad c b=>rfl
   | ok b x =>
    obtain ⟨q1,q2,q3⟩:=hg 1 _ o b out 0 x hin hr;show (zbg_s ⟨t,(b:Int),(o:Int),x.1⟩ _).bind _=_;rw [u_node _ _ _ _ (by omega)];rfl
  cases hr:g 1 (qAq t a+bOr.size) o out 0 with
  | bad c b =>
   rw [hr] at hst;exact qAi hst
  | ok b x =>
   obtain ⟨q1,q2,q3⟩:=hg 1 _ o b out 0 x hin hr;rw [if_pos (.inr (.inl rfl))] at q2;rw [hr] at hst;exact (qAr hst).trans (h2 b _ _ (by omega) q1 (by simp; omega))
 ·rw [if_neg w1] at k1 ⊢;refine qAi ?_;unfold qEi;rw [show (⟨#[111,114]⟩:BA)=bOr from rfl,k1];rfl
theorem u_all:∀n:Nat,∀k,n≤k→(∀(a o:Nat) (out:RNl),5*(t.size+1 - a)+1≤n→a≤t.size→o≤32→out.length≤a→zay_n k ⟨t,(a:Int),(o:Int),out⟩=some (rsR t o (ruS t n 0 a o out 0))) ∧
  (∀(a o:Nat) (out:RNl),5*(t.size+1 - a)+2≤n→a≤t.size→o≤32→out.length≤a→zaz_t (zay_n k) ⟨t,(a:Int),(o:Int),out⟩=some (rsR t o (ruS t n 1 a o out 0))) ∧
  (∀(a o:Nat) (out:RNl) (acc:Int),5*(t.size+1 - a)+1≤n→a≤t.size→o≤32→out.length≤a→zaz_p0 (zay_n k) acc t (a:Int) (o:Int) out=some (rsL t o (ruS t n 2 a o out acc))) ∧
  (∀(a o:Nat) (out:RNl),5*(t.size+1 - a)+3≤n→a≤t.size→o≤32→out.length≤a→zbl_t (zay_n k) ⟨t,(a:Int),(o:Int),out⟩=some (rsR t o (ruS t n 3 a o out 0))) ∧
  (∀(a o:Nat) (out:RNl) (acc:Int),5*(t.size+1 - a)+1≤n→a≤t.size→o≤32→out.length≤a→zbl_p0 (zay_n k) acc t (a:Int) (o:Int) out=some (rsL t o (ruS t n 4 a o out acc)))
 | 0,k,_=>⟨fun a o out h=>by omega,fun a o out h=>by omega,fun a o out acc h=>by omega,fun a o out h=>by omega,fun a o out acc h=>by omega⟩
 | n+1,k,hk=>by
  obtain ⟨i0,i1,i2,i3,i4⟩:=u_all n k (by omega);have hg:=ruS_adv (t:=t) n;refine ⟨fun a o out h ha ho hl=>?_,fun a o out h ha ho hl=>?_,fun a o out acc h ha ho hl=>?_,fun a o out h ha ho hl=>?_,fun a o out acc h ha ho hl=>?_⟩
  ·obtain ⟨k',rfl⟩:∃k',k=k'+1:=⟨k - 1,by omega⟩;obtain ⟨j0,_,_,j3,_⟩:=u_all n k' (by omega);exact u_atom hs hg ha ho hl (fun a' o' h1 h2 h3=>j0 a' o' out (by omega) h2 h3 (by omega)) (fun a' o' h1 h2 h3=>j3 a' o' out (by omega) h2 h3 (by omega))
  ·exact u_conj hg ha ho hl (i0 a o out (by omega) ha ho hl) (fun b x h1 h2 h3=>i2 b o x.1 x.2 (by omega) h2 ho h3)
  ·exact u_more hs hg ha ho hl (fun a' h1 h2=>i0 a' o out (by omega) h2 ho (by omega)) (fun b out' x h1 h2 h3=>i2 b o out' x (by omega) h2 ho h3)
  ·exact u_rule hg ha ho hl (i1 a o out (by omega) ha ho hl) (fun b x h1 h2 h3=>i4 b o x.1 x.2 (by omega) h2 ho h3)
  ·exact u_more2 hs hg ha ho hl (fun a' h1 h2=>i1 a' o out (by omega) h2 ho (by omega)) (fun b out' x h1 h2 h3=>i4 b o out' x (by omega) h2 ho h3)
theorem u_s0 (n a o:Nat) (out:RNl) (h:5*(t.size+1 - a)+1≤n) (ha:a≤t.size) (ho:o≤32) (hl:out.length≤a):zay_s ⟨t,(a:Int),(o:Int),out⟩=some (rsR t o (ruS t n 0 a o out 0)) :=
 evt_eq (N:=n) fun k hk=>(u_all hs n k hk).1 a o out h ha ho hl
theorem u_s:∀n:Nat,(∀(a o:Nat) (out:RNl),5*(t.size+1 - a)+2≤n→a≤t.size→o≤32→out.length≤a→zaz_t zay_s ⟨t,(a:Int),(o:Int),out⟩=some (rsR t o (ruS t n 1 a o out 0))) ∧
  (∀(a o:Nat) (out:RNl) (acc:Int),5*(t.size+1 - a)+1≤n→a≤t.size→o≤32→out.length≤a→zaz_p0 zay_s acc t (a:Int) (o:Int) out=some (rsL t o (ruS t n 2 a o out acc))) ∧
  (∀(a o:Nat) (out:RNl),5*(t.size+1 - a)+3≤n→a≤t.size→o≤32→out.length≤a→zbl_t zay_s ⟨t,(a:Int),(o:Int),out⟩=some (rsR t o (ruS t n 3 a o out 0))) ∧
  (∀(a o:Nat) (out:RNl) (acc:Int),5*(t.size+1 - a)+1≤n→a≤t.size→o≤32→out.length≤a→zbl_p0 zay_s acc t (a:Int) (o:Int) out=some (rsL t o (ruS t n 4 a o out acc)))
 | 0=>⟨fun a o out h=>by omega,fun a o out acc h=>by omega,fun a o out h=>by omega,fun a o out acc h=>by omega⟩
 | n+1=>by
  obtain ⟨i1,i2,i3,i4⟩:=u_s n;have hg:=ruS_adv (t:=t) n;refine ⟨fun a o out h ha ho hl=>?_,fun a o out acc h ha ho hl=>?_,fun a o out h ha ho hl=>?_,fun a o out acc h ha ho hl=>?_⟩
  ·exact u_conj hg ha ho hl (u_s0 hs n a o out (by omega) ha ho hl) (fun b x h1 h2 h3=>i2 b o x.1 x.2 (by omega) h2 ho h3)
  ·exact u_more hs hg ha ho hl (fun a' h1 h2=>u_s0 hs n a' o out (by omega) h2 ho (by omega)) (fun b out' x h1 h2 h3=>i2 b o out' x (by omega) h2 ho h3)
  ·exact u_rule hg ha ho hl (i1 a o out (by omega) ha ho hl) (fun b x h1 h2 h3=>i4 b o x.1 x.2 (by omega) h2 ho h3)
  ·exact u_more2 hs hg ha ho hl (fun a' h1 h2=>i1 a' o out (by omega) h2 ho (by omega)) (fun b out' x h1 h2 h3=>i4 b o out' x (by omega) h2 ho h3)
end
theorem u_Parse (t:BA):qC6 t=some ((ruleR t).1,(ruleR t).2.1,(ruleR t).2.2):=by
 unfold qC6 ruleR;by_cases h:1024<t.size
 ·rw [deT (by omega),if_pos h];rfl
 ·have hs:t.size≤1024:=by omega
  rw [deF (by omega),if_neg h,cnF];have h1:=(u_s hs (5*t.size+9)).2.2.1 0 0 [] (by omega) (by omega) (by omega) (by simp);rw [show zbl_s ⟨t,0,0,[]⟩=zbl_t zay_s ⟨t,((0:Nat):Int),((0:Nat):Int),[]⟩ from rfl,h1,obS];cases hr:ruS t (5*t.size+9) 3 0 0 [] 0 with
  | bad c b=>rfl
  | ok b x =>
   obtain ⟨q1,q2,q3⟩:=ruS_adv _ 3 0 0 b [] 0 x (by omega) hr;show (zbf_s ⟨t,(b:Int),0,x.1⟩).bind _=_;rw [u_nextk hs 0 x.1 b q1,obS];have h2:=qA6 t b q1;dsimp only;by_cases h3:qAq t b<t.size
   ·have:¬qCk t (qAq t b)=0:=by
     unfold qCk;rw [if_neg (by omega)]
     (repeat' split) <;> decide
    rw [deF this,cnF,if_pos h3];rfl
   ·have:qCk t (qAq t b)=0:=by
     unfold qCk;rw [if_pos (by omega)]
    rw [deT this,cnT,if_neg h3]
end Go.Proofs.YtpobbbpphnnnhaaGreatDoor
