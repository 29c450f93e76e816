/-
  Texts of a claim.
-/
import Derived.SevenTiedAt
import Derived.Deep.DeepHandedRow
import Derived.Lib.LaidTab
import Derived.WalkKit
import Derived.ProofKit
import Derived.OpenShut
import Derived.ShutString
import Derived.ChangeOld
import Derived.Below
import Derived.Carry
import Derived.SizedLaws
import Derived.Test.YtobmafbliahplaaDoorIdHalvesWalk
import Derived.Test.YtobmafbliahplaaDoorCards
import Derived.Test.YtobmafbliahplaaDoorTie
namespace Go.Proofs.YtobmafbliahplaaDoor.idHalves
open Go.ChangeShapes Go.WideShapes Go.ChangeAt Go.RowKit
open Go.ChangeMaps (open_string shut_string)
set_option linter.unusedVariables false
set_option linter.unusedSimpArgs false
theorem own:ownKnob Tryd.prog.godebug=none:=by kernel_rfl
theorem laidOut:laidOutB Tryd.prog=true:=by kernel_rfl
set_option maxRecDepth 100000 in
theorem contract (H:Type) (enc:TypeId × Value→H) (W:World) (base:Nat) (args:Array Value) (ds gs:List (DataW H)) (before:List MemPlace)
  (hval:∀(j:Nat) t v,Tryd.f3.params[j]?=some t→args[j]?=some v→Value.okWide Tryd.prog W .any base t v)
  (hW:DataW.Whole enc Tryd.prog Tryd.f3.params.toList Rows.idHalvesSpec.vars false W args.toList ds gs before)
  (hsz:(DataW.weightsEach Tryd.prog (Tryd.f3.params.toList++(OpenSpec.ofChange Rows.idHalvesSpec).bare.plain.varTypes Tryd.prog) (ds++gs)).all (· ≤ reachBytes)=true) (hL:laidMetH Tryd.prog Rows.idHalvesRow.laid W) :
  Calls Tryd.prog 3 args W fun e W'=>∃v,e=.returned v∧Rows.idHalvesSpec.post enc Tryd.prog Tryd.f3 false true false false W args v W':=by
 have hW':=hW;obtain ⟨p,q,hA0,hV,rfl,hfz,hnd⟩:=hW;have hA:DataW.TrodAll enc Tryd.prog W 0 (fun _=>true) true Tryd.f3.params.toList args.toList ds p:=hA0;rw [Tryd.params3] at hA hval hsz;obtain ⟨v0,vs0,d0,ds0,p0,q0,hargs,rfl,rfl,h0,r0⟩:=trodAll_cons hA;obtain ⟨v1,vs1,d1,ds1,p1,q1,rfl,rfl,rfl,h1,r1⟩:=trodAll_cons r0;obtain ⟨rfl,rfl,rfl⟩:=trodAll_nil r1;obtain rfl:args = #[v0,v1]:=by cases args; simp_all
 obtain ⟨rfl,rfl⟩:=trodVars_none hV;have k0:=h0;have lt0:∀x∈p0,x.block<W.heap.size:=by obtain ⟨m,hm⟩:=k0; exact DataW.trod_lt m _ _ _ hm
 have z0:∀x∈d0.weights Tryd.prog 22,x≤140737488351232:=fun x hx=>Go.Eng.reach_of (List.all_eq_true.1 hsz x (DataW.weights_mem_each (j:=0) (t:=22) rfl rfl x hx))
 have k1:=h1;have lt1:∀x∈p1,x.block<W.heap.size:=by obtain ⟨m,hm⟩:=k1; exact DataW.trod_lt m _ _ _ hm
 have z1:∀x∈d1.weights Tryd.prog 9,x≤140737488351232:=fun x hx=>Go.Eng.reach_of (List.all_eq_true.1 hsz x (DataW.weights_mem_each (j:=1) (t:=9) rfl rfl x hx))
 obtain ⟨a0,rfl,rfl,rfl,wa0'⟩:=open_int Tryd.underlying22 (hval 0 22 v0 rfl rfl) h0;have wa0:=Go.Eng.i64_of_wf wa0';obtain ⟨s1,rfl,rfl,rfl,ws1'⟩:=open_string Tryd.underlying9 (hval 1 9 v1 rfl rfl) h1;have ws1:=Go.Eng.size_of_weights z1;clear hA0 hsz;refine (idHalves_walk a0 s1 W wa0 ws1 (idHalves_tabs hL)).mono fun e W' ⟨he,bel⟩=>?_
 subst he;exact ⟨_,rfl,_,_,_,[],_,[],hW',trodAll_mk1 (shut_bool Tryd.underlying4 _),(trodAll_cons_mk (Go.Eng.LowB.trod laidOut (by kernel_rfl) (of_decide_eq_true (by kernel_rfl)) k0 bel lt0) (trodAll_cons_mk (Go.Eng.LowB.trod laidOut (by kernel_rfl) (of_decide_eq_true (by kernel_rfl)) k1 bel lt1) trodAll_mk0)),rfl,bel.frame _,fun h=>by cases h⟩
noncomputable def tab_signet_sha_k256:Array Value:=(Go.Eng.shaK256.map fun z=>Value.int .u32 z).toArray
noncomputable def tab_signet_sha_k512:Array Value:=(Go.Eng.shaK512.map fun z=>Value.int .u64 z).toArray
noncomputable def tab_signet_sha_start256:Array Value:=(Go.Eng.shaS256.map fun z=>Value.int .u32 z).toArray
noncomputable def tab_signet_sha_start384:Array Value:=(Go.Eng.shaS384.map fun z=>Value.int .u64 z).toArray
noncomputable def tab_signet_sha_start512:Array Value:=(Go.Eng.shaS512.map fun z=>Value.int .u64 z).toArray
noncomputable def qEu:Array Value:=(Go.Eng.shaK256.map fun z=>Value.int .u32 z).toArray
noncomputable def qEv:Array Value:=(Go.Eng.shaK512.map fun z=>Value.int .u64 z).toArray
noncomputable def qDr:Array Value:=(Go.Eng.shaS256.map fun z=>Value.int .u32 z).toArray
noncomputable def qDs:Array Value:=(Go.Eng.shaS384.map fun z=>Value.int .u64 z).toArray
noncomputable def qDt:Array Value:=(Go.Eng.shaS512.map fun z=>Value.int .u64 z).toArray
noncomputable def laidWorld (os:Os):World :=
 { World.holding Tryd.prog os ⟨#[],#[],[]⟩ with heap:=(((((((((((World.holding Tryd.prog os ⟨#[],#[],[]⟩).heap).modify 8 (fun | .cells _ t frozen=>.cells tab_signet_sha_k256 t frozen | o=>o)).modify 9 (fun | .cells _ t frozen=>.cells tab_signet_sha_k512 t frozen | o=>o)).modify 2 (fun | .cells _ t frozen=>.cells tab_signet_sha_start256 t frozen | o=>o)).modify 3 (fun | .cells _ t frozen=>.cells tab_signet_sha_start384 t frozen | o=>o)).modify 4 (fun | .cells _ t frozen=>.cells tab_signet_sha_start512 t frozen | o=>o)).modify 6 (fun | .cells _ t frozen=>.cells qEu t frozen | o=>o)).modify 7 (fun | .cells _ t frozen=>.cells qEv t frozen | o=>o)).modify 5 (fun | .cells _ t frozen=>.cells qDr t frozen | o=>o)).modify 0 (fun | .cells _ t frozen=>.cells qDs t frozen | o=>o)).modify 1 (fun | .cells _ t frozen=>.cells qDt t frozen | o=>o) }
theorem laid_met (os:Os):laidMet Tryd.prog Rows.idHalvesRow.laid ((laidWorld os).forCall (fun _ _=>0) ⟨#[],#[.int .i64 0,.string ⟨#[]⟩],[]⟩).memory :=
 laidMet_of_run' 8 (by kernel_rfl) (by kernel_rfl)
theorem reads (os:Os) {H:Type} (enc:TypeId × Value→H):∃places,DataW.whole enc Tryd.prog ((laidWorld os).forCall (fun _ _=>0) ⟨#[],#[.int .i64 0,.string ⟨#[]⟩],[]⟩).memory Tryd.f3.params.toList Rows.idHalvesSpec.vars false #[.int .i64 0,.string ⟨#[]⟩].toList 8=some ([.lit (.int .i64 0),.lit (.string [])],[],places) :=
 ⟨[],by kernel_rfl⟩
set_option maxRecDepth 100000 in
theorem lifted (os:Os) (started:os.Started) (H:Type) (enc:TypeId × Value→H) (F:Stop.Interp) :
  ReturnsInHanded {} Tryd.checked os 3 .any ((OpenSpec.ofChange Rows.idHalvesSpec).preRow enc Tryd.prog Tryd.f3 Rows.idHalvesRow.domain false Rows.idHalvesRow.laid) (((OpenSpec.ofChange Rows.idHalvesSpec).at F).post enc Tryd.prog Tryd.f3 false true false false):=by
 obtain ⟨places,hx⟩:=reads os enc;refine returnsInHanded_of_row (C:=Tryd.checked) (s:=(OpenSpec.ofChange Rows.idHalvesSpec)) own started (by kernel_rfl) Tryd.func3
  (witness_row_at (enc:=enc) (C:=Tryd.checked) false (laidWorld os) #[.int .i64 0,.string ⟨#[]⟩] rfl (by kernel_rfl) (by kernel_rfl) (by kernel_rfl)
   (OpenSpec.preRow_of_cond 8 hx (by kernel_rfl) (fun k hk=>by cases hk) (by kernel_rfl) (laid_met os))) ?_
 intro W base args ds gs before hval hW _ hcond hsz hL _ _;exact contract H enc W base args ds gs before hval hW hsz hL
theorem said:Rows.IdHalvesSaid :=
 OpenClaim.holds_of_cond 3 Tryd.f3 rfl rfl rfl rfl rfl rfl rfl ⟨rfl,rfl,rfl,rfl,rfl⟩ rfl rfl rfl rfl rfl (by kernel_rfl) Tryd.func3 (by kernel_rfl)
  (of_decide_eq_true (by kernel_rfl)) (by unfold Func.isWrapper; first | (rw [if_pos (by decide +kernel)]; kernel_rfl) | (rw [if_neg (by decide +kernel)]; exact ⟨rfl,rfl⟩))
  (fun os started H enc _ F=>by rw [OpenClaim.pre_eq_preRow]; exact lifted os started H enc F)
theorem plain (f:FuncId) (fn:Func) (hf:Tryd.pinned.checked.prog.funcNamed "signet/signetlaw22.IdHalves" = some f) (hfn:Tryd.pinned.checked.prog.funcs[f]?=some fn) :
  false=Tryd.pinned.checked.prog.looks []∧∀(j:Nat) t,fn.params[j]?=some t→Tryd.pinned.checked.prog.wantsStandIn t=false:=by
 obtain rfl:f=3:=Option.some.inj ((show Tryd.prog.funcNamed "signet/signetlaw22.IdHalves" = some 3 by kernel_rfl).symm.trans hf) |>.symm
 obtain rfl:fn=Tryd.f3:=(Option.some.inj (Tryd.func3.symm.trans hfn)).symm;refine ⟨by kernel_rfl,fun j t ht=>?_⟩;rw [Tryd.params3] at ht;have hm:=Array.mem_of_getElem? ht;simp only [List.mem_toArray,List.mem_cons,List.not_mem_nil,or_false] at hm;rcases hm with rfl | rfl
 ·exact (show Tryd.prog.wantsStandIn 22=false by kernel_rfl)
 ·exact (show Tryd.prog.wantsStandIn 9=false by kernel_rfl)
theorem proved:Rows.IdHalvesCardSaid :=
 Claim7.holds_tied_plain_at .later [] _ _ _ _ said (fun _ h=>by cases h) (by kernel_rfl) (fun _ h=>by cases h) idHalves_row_tie rfl ⟨rfl,rfl⟩ (by kernel_rfl) rfl plain (by kernel_rfl)
#print axioms proved
end Go.Proofs.YtobmafbliahplaaDoor.idHalves
