/-
  IdAge: its call returns true.
-/
import Derived.Below
import Derived.Carry
import Derived.ProofKit
import Derived.Deep.Slices
import Derived.Deep.Fields
import Derived.ChangeSame
import Derived.SliceStrings
import Derived.SizedLaws
import Derived.Lib.LaidU8
import Derived.Lib.LaidTab
import Derived.Shelf.Lay
import Derived.Ground.NamesProg
import Derived.Test.YtlmfmmgfiffjiaaGreatDoorPIdCheck
import Derived.Test.YtlmfmmgfiffjiaaGreatDoorEngO
import Derived.Test.YtlmfmmgfiffjiaaGreatDoorProg
import Derived.Test.YtlmfmmgfiffjiaaGreatDoorPDecRef
import Derived.Test.YtlmfmmgfiffjiaaGreatDoorEngPan
import Derived.Test.YtlmfmmgfiffjiaaGreatDoorJP
import Derived.Test.YtlmfmmgfiffjiaaGreatDoorPSha
import Derived.Test.YtlmfmmgfiffjiaaGreatDoorDecRel
import Derived.Test.YtlmfmmgfiffjiaaGreatDoorEngN
import Derived.Test.YtlmfmmgfiffjiaaGreatDoorRows
set_option linter.unusedSimpArgs false
set_option linter.unusedVariables false
namespace Go.Proofs.YtlmfmmgfiffjiaaGreatDoor
open Go.Eng
theorem qBh {α:Type} {p:Prop} [Decidable p] {a b:Option α} (h:Le a b):Le (if p then a else none) (gd p b):=fun r hr=>by
 split at hr
 ·rename_i hp;rw [qAb hp];exact h r hr
 ·cases hr
theorem qAw {α:Type} {c:Bool} {a b a' b':Option α} (h:Le a a') (h':Le b b'):Le (bif c then a else b) (bif c then a' else b'):=by cases c <;> assumption
theorem qAu {α β:Type} {x x':Option α} {f g:α→Option β} (h:Le x x') (h':∀y,Le (f y) (g y)):Le (x.bind f) (x'.bind g):=fun r hr=>by
 cases x with
 | none=>cases hr
 | some a=>rw [h a rfl]; exact h' a r hr
theorem qAo {S R:Type} {step step':S→Option (S ⊕ R)} {x:S} (n:Nat) (h:∀y,Le (step y) (step' y)):Le (runW step n x) (qAt step' x):=fun r hr=>by
 refine qE5 (n:=n) ?_;induction n generalizing x with
 | zero=>cases hr
 | succ n ih =>
  simp only [runW] at hr ⊢;cases hs:step x with
  | none=>rw [hs] at hr; cases hr
  | some y =>
   rw [hs] at hr;rw [h x y hs];cases y with
   | inl y=>exact ih hr
   | inr o=>exact hr
theorem qAx {γ δ α:Type} {s:γ ⊕ δ} {f f':γ→Option α} {g g':δ→Option α} (h:∀y,Le (f y) (f' y)) (h':∀y,Le (g y) (g' y)):Le (Sum.elim f g s) (Sum.elim f' g' s):=by
 cases s
 ·exact h _
 ·exact h' _
instance (x:Int):Decidable (InI32 x):=by unfold InI32; infer_instance
theorem qA5 {α β:Type} {x:β} {a b:Option α} (h:Le a b):Le a (gd (x=x) b):=fun r hr=>(qAb rfl b).trans (h r hr)
instance (x:Int):Decidable (qAc x):=by unfold qAc; infer_instance
class Nf (α:Type) where
 nf:{β:Type}→α→(α→β)→β
 ok:∀ {β:Type} (x:α) (k:α→β),nf x k=k x
instance:Nf Nat:=⟨fun n k=>Nat.rec (k 0) (fun m _=>k (m+1)) n,fun n k=>by cases n <;> rfl⟩
instance:Nf Int:=⟨fun x k=>match x with | .ofNat n=>Nf.nf n fun n=>k (.ofNat n) | .negSucc n=>Nf.nf n fun n=>k (.negSucc n),fun x k=>by cases x <;> exact Nf.ok _ _⟩
instance:Nf Bool:=⟨fun x k=>match x with | true=>k true | false=>k false,fun x k=>by cases x <;> rfl⟩
instance:Nf Unit:=⟨fun _ k=>k (),fun _ _=>rfl⟩
instance:Nf BA:=⟨fun x k=>match x with | ⟨⟨l⟩⟩=>k ⟨⟨l⟩⟩,fun _ _=>rfl⟩
def nfL {α β:Type} [Nf α]:List α→(List α→β)→β
 | [],k=>k []
 | a::r,k=>Nf.nf a fun a=>nfL r fun r=>k (a::r)
theorem nfL_ok {α β:Type} [Nf α]:∀(l:List α) (k:List α→β),nfL l k=k l
 | [],_=>rfl
 | a::r,k=>by rw [nfL,Nf.ok,nfL_ok r]
instance {α:Type} [Nf α]:Nf (List α):=⟨nfL,nfL_ok⟩
instance {α β:Type} [Nf α] [Nf β]:Nf (α × β):=⟨fun x k=>match x with | (a,b)=>Nf.nf a fun a=>Nf.nf b fun b=>k (a,b),fun x k=>by obtain ⟨a,b⟩:=x; show Nf.nf a _=_; rw [Nf.ok,Nf.ok]⟩
instance {α β:Type} [Nf α] [Nf β]:Nf (α ⊕ β):=⟨fun x k=>match x with | .inl a=>Nf.nf a fun a=>k (.inl a) | .inr a=>Nf.nf a fun a=>k (.inr a),fun x k=>by cases x <;> exact Nf.ok _ _⟩
instance {α:Type} [Nf α]:Nf (Option α):=⟨fun x k=>match x with | none=>k none | some a=>Nf.nf a fun a=>k (some a),fun x k=>by cases x; rfl; exact Nf.ok _ _⟩
instance:Nf Eng.Node:=⟨fun x k=>match x with | ⟨a,b,c,d,e,f⟩=>Nf.nf a fun a=>Nf.nf b fun b=>Nf.nf c fun c=>Nf.nf d fun d=>Nf.nf e fun e=>Nf.nf f fun f=>k ⟨a,b,c,d,e,f⟩,fun x k=>by obtain ⟨a,b,c,d,e,f⟩:=x; show Nf.nf a _=_; simp only [Nf.ok]⟩
instance:Nf json_reader:=⟨fun x k=>match x with | ⟨a,b,c,d,e,f,g,h,i⟩=>Nf.nf a fun a=>Nf.nf b fun b=>Nf.nf c fun c=>Nf.nf d fun d=>Nf.nf e fun e=>Nf.nf f fun f=>Nf.nf g fun g=>Nf.nf h fun h=>Nf.nf i fun i=>k ⟨a,b,c,d,e,f,g,h,i⟩,fun x k=>by obtain ⟨a,b,c,d,e,f,g,h,i⟩:=x; show Nf.nf a _=_; simp only [Nf.ok]⟩
theorem qAp {α β:Type} [Nf α] {x x':Option α} {f g:α→Option β} (h:Le x x') (h':∀y,Le (f y) (g y)):Le (x.bind fun y=>Nf.nf y f) (x'.bind g):=qAu h fun y=>by rw [Nf.ok]; exact h' y
theorem qAk {S R:Type} [Nf S] {step step':S→Option (S ⊕ R)} {x:S} (n:Nat) (h:∀y,Le (step y) (step' y)):Le (runW (fun y=>Nf.nf y step) n x) (qAt step' x):=qAo n fun y=>by rw [Nf.ok]; exact h y
abbrev Ap1 {α0 β:Type} (f:α0→Option β):={F:α0→Option β // ∀x0,Le (F x0) (f x0)}
abbrev Ap2 {α0 α1 β:Type} (f:α0→α1→Option β):={F:α0→α1→Option β // ∀x0 x1,Le (F x0 x1) (f x0 x1)}
abbrev Ap3 {α0 α1 α2 β:Type} (f:α0→α1→α2→Option β):={F:α0→α1→α2→Option β // ∀x0 x1 x2,Le (F x0 x1 x2) (f x0 x1 x2)}
set_option maxHeartbeats 0 in
def E_json_reader_blanks:Ap1 zbe_s:=by
 apply Subtype.mk
 case property =>
  repeat' first | with_reducible intro _ | with_reducible exact Le.refl (some _) | with_reducible exact Le.refl none | with_reducible apply qA5 | with_reducible apply qBh | with_reducible apply qAw | with_reducible apply qAp | with_reducible apply qAu | with_reducible apply qAx | with_reducible apply qAk 300 | with_reducible apply qAo 300 | unfold zbe_s | unfold zbe_p0 | unfold zbe_p0_step
set_option maxHeartbeats 0 in
def qDh:Ap1 zbl_s:=by
 apply Subtype.mk
 case property =>
  repeat' first | with_reducible intro _ | with_reducible exact Le.refl (some _) | with_reducible exact Le.refl none | with_reducible apply qA5 | with_reducible apply qBh | with_reducible apply qAw | with_reducible apply qAp | with_reducible apply qAu | with_reducible apply qAx | with_reducible apply qAk 300 | with_reducible apply qAo 300 | unfold zbl_s
set_option maxHeartbeats 0 in
def qCv:Ap1 zbd_s:=by
 apply Subtype.mk
 case property =>
  repeat' first | with_reducible intro _ | with_reducible exact Le.refl (some _) | with_reducible exact Le.refl none | with_reducible apply qA5 | with_reducible apply qBh | with_reducible apply qAw | with_reducible apply qAp | with_reducible apply qAu | with_reducible apply qAx | with_reducible apply qAk 300 | with_reducible apply qAo 300 | unfold zbd_s
set_option maxHeartbeats 0 in
def qF5:Ap1 zbg_s:=by
 apply Subtype.mk
 case property =>
  repeat' first | with_reducible intro _ | with_reducible exact Le.refl (some _) | with_reducible exact Le.refl none | with_reducible exact qCv.2 _ | with_reducible apply qA5 | with_reducible apply qBh | with_reducible apply qAw | with_reducible apply qAp | with_reducible apply qAu | with_reducible apply qAx | with_reducible apply qAk 300 | with_reducible apply qAo 300 | unfold zbg_s
set_option maxHeartbeats 0 in
def qFi:Ap3 zbh_s:=by
 apply Subtype.mk
 case property =>
  repeat' first | with_reducible intro _ | with_reducible exact Le.refl (some _) | with_reducible exact Le.refl none | with_reducible apply qA5 | with_reducible apply qBh | with_reducible apply qAw | with_reducible apply qAp | with_reducible apply qAu | with_reducible apply qAx | with_reducible apply qAk 300 | with_reducible apply qAo 300 | unfold zbh_s
set_option maxHeartbeats 0 in
def qDs:Ap2 zbi_s:=by
 apply Subtype.mk
 case property =>
  repeat' first | with_reducible intro _ | with_reducible exact Le.refl (some _) | with_reducible exact Le.refl none | with_reducible apply qA5 | with_reducible apply qBh | with_reducible apply qAw | with_reducible apply qAp | with_reducible apply qAu | with_reducible apply qAx | with_reducible apply qAk 300 | with_reducible apply qAo 300 | unfold zbi_s
set_option maxHeartbeats 0 in
def E_json_reader_begin:Ap2 zbc_s:=by
 apply Subtype.mk
 case property =>
  repeat' first | with_reducible intro _ | with_reducible exact Le.refl (some _) | with_reducible exact Le.refl none | with_reducible exact qFi.2 _ _ _ | with_reducible exact qDs.2 _ _ | with_reducible apply qA5 | with_reducible apply qBh | with_reducible apply qAw | with_reducible apply qAp | with_reducible apply qAu | with_reducible apply qAx | with_reducible apply qAk 300 | with_reducible apply qAo 300 | unfold zbc_s | unfold zbc_p0
set_option maxHeartbeats 0 in
def qEn:Ap1 zbn_s:=by
 apply Subtype.mk
 case property =>
  repeat' first | with_reducible intro _ | with_reducible exact Le.refl (some _) | with_reducible exact Le.refl none | with_reducible apply qA5 | with_reducible apply qBh | with_reducible apply qAw | with_reducible apply qAp | with_reducible apply qAu | with_reducible apply qAx | with_reducible apply qAk 300 | with_reducible apply qAo 300 | unfold zbn_s | unfold zbn_p0 | unfold zbn_p0_step
set_option maxHeartbeats 0 in
def E_json_reader_digits:Ap1 zbf_s:=by
 apply Subtype.mk
 case property =>
  repeat' first | with_reducible intro _ | with_reducible exact Le.refl (some _) | with_reducible exact Le.refl none | with_reducible exact qDh.2 _ | with_reducible apply qA5 | with_reducible apply qBh | with_reducible apply qAw | with_reducible apply qAp | with_reducible apply qAu | with_reducible apply qAx | with_reducible apply qAk 300 | with_reducible apply qAo 300 | unfold zbf_s | unfold zbf_p0 | unfold zbf_p0_step
set_option maxHeartbeats 0 in
def qDo:Ap2 zax_s:=by
 apply Subtype.mk
 case property =>
  repeat' first | with_reducible intro _ | with_reducible exact Le.refl (some _) | with_reducible exact Le.refl none | with_reducible apply qA5 | with_reducible apply qBh | with_reducible apply qAw | with_reducible apply qAp | with_reducible apply qAu | with_reducible apply qAx | with_reducible apply qAk 300 | with_reducible apply qAo 300 | unfold zax_s
set_option maxHeartbeats 0 in
def qDn:Ap2 zaw_s:=by
 apply Subtype.mk
 case property =>
  repeat' first | with_reducible intro _ | with_reducible exact Le.refl (some _) | with_reducible exact Le.refl none | with_reducible exact qDo.2 _ _ | with_reducible apply qA5 | with_reducible apply qBh | with_reducible apply qAw | with_reducible apply qAp | with_reducible apply qAu | with_reducible apply qAx | with_reducible apply qAk 300 | with_reducible apply qAo 300 | unfold zaw_s
set_option maxHeartbeats 0 in
def E_strings_CutPrefix:Ap2 zda_s:=by
 apply Subtype.mk
 case property =>
  repeat' first | with_reducible intro _ | with_reducible exact Le.refl (some _) | with_reducible exact Le.refl none | with_reducible exact qDn.2 _ _ | with_reducible apply qA5 | with_reducible apply qBh | with_reducible apply qAw | with_reducible apply qAp | with_reducible apply qAu | with_reducible apply qAx | with_reducible apply qAk 300 | with_reducible apply qAo 300 | unfold zda_s
set_option maxHeartbeats 0 in
def E_decimal_run:Ap1 zah_s:=by
 apply Subtype.mk
 case property =>
  repeat' first | with_reducible intro _ | with_reducible exact Le.refl (some _) | with_reducible exact Le.refl none | with_reducible apply qA5 | with_reducible apply qBh | with_reducible apply qAw | with_reducible apply qAp | with_reducible apply qAu | with_reducible apply qAx | with_reducible apply qAk 300 | with_reducible apply qAo 300 | unfold zah_s | unfold zah_p0 | unfold zah_p0_step
set_option maxHeartbeats 0 in
def E_strings_trimLeftByte:Ap2 zdd_s:=by
 apply Subtype.mk
 case property =>
  repeat' first | with_reducible intro _ | with_reducible exact Le.refl (some _) | with_reducible exact Le.refl none | with_reducible apply qA5 | with_reducible apply qBh | with_reducible apply qAw | with_reducible apply qAp | with_reducible apply qAu | with_reducible apply qAx | with_reducible apply qAk 300 | with_reducible apply qAo 300 | unfold zdd_s | unfold zdd_p0 | unfold zdd_p0_step
set_option maxHeartbeats 0 in
def E_strings_TrimLeft:Ap2 zdb_s:=by
 apply Subtype.mk
 case property =>
  repeat' first | with_reducible intro _ | with_reducible exact Le.refl (some _) | with_reducible exact Le.refl none | with_reducible exact E_strings_trimLeftByte.2 _ _ | with_reducible apply qA5 | with_reducible apply qBh | with_reducible apply qAw | with_reducible apply qAp | with_reducible apply qAu | with_reducible apply qAx | with_reducible apply qAk 300 | with_reducible apply qAo 300 | unfold zdb_s
set_option maxHeartbeats 0 in
def E_strings_trimRightByte:Ap2 zde_s:=by
 apply Subtype.mk
 case property =>
  repeat' first | with_reducible intro _ | with_reducible exact Le.refl (some _) | with_reducible exact Le.refl none | with_reducible apply qA5 | with_reducible apply qBh | with_reducible apply qAw | with_reducible apply qAp | with_reducible apply qAu | with_reducible apply qAx | with_reducible apply qAk 300 | with_reducible apply qAo 300 | unfold zde_s | unfold zde_p0 | unfold zde_p0_step
set_option maxHeartbeats 0 in
def E_strings_TrimRight:Ap2 zdc_s:=by
 apply Subtype.mk
 case property =>
  repeat' first | with_reducible intro _ | with_reducible exact Le.refl (some _) | with_reducible exact Le.refl none | with_reducible exact E_strings_trimRightByte.2 _ _ | with_reducible apply qA5 | with_reducible apply qBh | with_reducible apply qAw | with_reducible apply qAp | with_reducible apply qAu | with_reducible apply qAx | with_reducible apply qAk 300 | with_reducible apply qAo 300 | unfold zdc_s
set_option maxHeartbeats 0 in
def E_decimal_read:Ap2 zag_s:=by
 apply Subtype.mk
 case property =>
  repeat' first | with_reducible intro _ | with_reducible exact Le.refl (some _) | with_reducible exact Le.refl none | with_reducible exact E_strings_CutPrefix.2 _ _ | with_reducible exact E_decimal_run.2 _ | with_reducible exact E_strings_TrimLeft.2 _ _ | with_reducible exact E_strings_TrimRight.2 _ _ | with_reducible apply qA5 | with_reducible apply qBh | with_reducible apply qAw | with_reducible apply qAp | with_reducible apply qAu | with_reducible apply qAx | with_reducible apply qAk 300 | with_reducible apply qAo 300 | unfold zag_s | unfold zag_p0 | unfold zag_p1 | unfold zag_p2 | unfold zag_p4 | unfold zag_p3
set_option maxHeartbeats 0 in
def E_decimal_Whole:Ap1 zaf_s:=by
 apply Subtype.mk
 case property =>
  repeat' first | with_reducible intro _ | with_reducible exact Le.refl (some _) | with_reducible exact Le.refl none | with_reducible exact E_decimal_read.2 _ _ | with_reducible apply qA5 | with_reducible apply qBh | with_reducible apply qAw | with_reducible apply qAp | with_reducible apply qAu | with_reducible apply qAx | with_reducible apply qAk 300 | with_reducible apply qAo 300 | unfold zaf_s | unfold zaf_p0 | unfold zaf_p0_step
set_option maxHeartbeats 0 in
def E_json_reader_number:Ap1 zbm_s:=by
 apply Subtype.mk
 case property =>
  repeat' first | with_reducible intro _ | with_reducible exact Le.refl (some _) | with_reducible exact Le.refl none | with_reducible exact qDh.2 _ | with_reducible exact E_json_reader_digits.2 _ | with_reducible exact E_decimal_Whole.2 _ | with_reducible exact qDs.2 _ _ | with_reducible exact qCv.2 _ | with_reducible apply qA5 | with_reducible apply qBh | with_reducible apply qAw | with_reducible apply qAp | with_reducible apply qAu | with_reducible apply qAx | with_reducible apply qAk 300 | with_reducible apply qAo 300 | unfold zbm_s | unfold zbm_p0 | unfold zbm_p1 | unfold zbm_p2 | unfold zbm_p3
set_option maxHeartbeats 0 in
def E_json_reader_value:Ap2 zbp_s:=by
 apply Subtype.mk
 case property =>
  repeat' first | with_reducible intro _ | with_reducible exact Le.refl (some _) | with_reducible exact Le.refl none | with_reducible exact E_json_reader_begin.2 _ _ | with_reducible exact qEn.2 _ | with_reducible exact qDs.2 _ _ | with_reducible exact qCv.2 _ | with_reducible exact E_json_reader_number.2 _ | with_reducible apply qA5 | with_reducible apply qBh | with_reducible apply qAw | with_reducible apply qAp | with_reducible apply qAu | with_reducible apply qAx | with_reducible apply qAk 300 | with_reducible apply qAo 300 | unfold zbp_s
set_option maxHeartbeats 0 in
def E_json_reader_more:Ap2 zbj_s:=by
 apply Subtype.mk
 case property =>
  repeat' first | with_reducible intro _ | with_reducible exact Le.refl (some _) | with_reducible exact Le.refl none | with_reducible exact qF5.2 _ | with_reducible apply qA5 | with_reducible apply qBh | with_reducible apply qAw | with_reducible apply qAp | with_reducible apply qAu | with_reducible apply qAx | with_reducible apply qAk 300 | with_reducible apply qAo 300 | unfold zbj_s
set_option maxHeartbeats 0 in
def E_json_reader_name:Ap1 zbk_s:=by
 apply Subtype.mk
 case property =>
  repeat' first | with_reducible intro _ | with_reducible exact Le.refl (some _) | with_reducible exact Le.refl none | with_reducible exact qEn.2 _ | with_reducible exact qFi.2 _ _ _ | with_reducible apply qA5 | with_reducible apply qBh | with_reducible apply qAw | with_reducible apply qAp | with_reducible apply qAu | with_reducible apply qAx | with_reducible apply qAk 300 | with_reducible apply qAo 300 | unfold zbk_s
set_option maxHeartbeats 0 in
def E_json_reader_step:Ap1 zbo_s:=by
 apply Subtype.mk
 case property =>
  repeat' first | with_reducible intro _ | with_reducible exact Le.refl (some _) | with_reducible exact Le.refl none | with_reducible exact qDh.2 _ | with_reducible exact qF5.2 _ | with_reducible exact E_json_reader_value.2 _ _ | with_reducible exact E_json_reader_more.2 _ _ | with_reducible exact E_json_reader_name.2 _ | with_reducible apply qA5 | with_reducible apply qBh | with_reducible apply qAw | with_reducible apply qAp | with_reducible apply qAu | with_reducible apply qAx | with_reducible apply qAk 300 | with_reducible apply qAo 300 | unfold zbo_s | unfold zbo_p0
set_option maxHeartbeats 0 in
def E_json_Parse:Ap1 zbb_s:=by
 apply Subtype.mk
 case property =>
  repeat' first | with_reducible intro _ | with_reducible exact Le.refl (some _) | with_reducible exact Le.refl none | with_reducible exact E_json_reader_blanks.2 _ | with_reducible exact E_json_reader_step.2 _ | with_reducible apply qA5 | with_reducible apply qBh | with_reducible apply qAw | with_reducible apply qAp | with_reducible apply qAu | with_reducible apply qAx | with_reducible apply qAk 300 | with_reducible apply qAo 300 | unfold zbb_s | unfold zbb_p0 | unfold zbb_p0_step
set_option maxHeartbeats 0 in
def E_json_Behind:Ap2 zay_s:=by
 apply Subtype.mk
 case property =>
  repeat' first | with_reducible intro _ | with_reducible exact Le.refl (some _) | with_reducible exact Le.refl none | with_reducible apply qA5 | with_reducible apply qBh | with_reducible apply qAw | with_reducible apply qAp | with_reducible apply qAu | with_reducible apply qAx | with_reducible apply qAk 300 | with_reducible apply qAo 300 | unfold zay_s | unfold zay_p0 | unfold qC6
set_option maxHeartbeats 0 in
def E_json_Kids:Ap2 zaz_s:=by
 apply Subtype.mk
 case property =>
  repeat' first | with_reducible intro _ | with_reducible exact Le.refl (some _) | with_reducible exact Le.refl none | with_reducible exact E_json_Behind.2 _ _ | with_reducible apply qA5 | with_reducible apply qBh | with_reducible apply qAw | with_reducible apply qAp | with_reducible apply qAu | with_reducible apply qAx | with_reducible apply qAk 300 | with_reducible apply qAo 300 | unfold zaz_s | unfold zaz_p0 | unfold zaz_p0_step
set_option maxHeartbeats 0 in
def E_claims_audience:Ap3 zad_s:=by
 apply Subtype.mk
 case property =>
  repeat' first | with_reducible intro _ | with_reducible exact Le.refl (some _) | with_reducible exact Le.refl none | with_reducible exact E_json_Kids.2 _ _ | with_reducible apply qA5 | with_reducible apply qBh | with_reducible apply qAw | with_reducible apply qAp | with_reducible apply qAu | with_reducible apply qAx | with_reducible apply qAk 300 | with_reducible apply qAo 300 | unfold zad_s | unfold zad_p0 | unfold zad_p1 | unfold zad_p0_step
set_option maxHeartbeats 0 in
def E_claims_put:Ap3 zae_s:=by
 apply Subtype.mk
 case property =>
  repeat' first | with_reducible intro _ | with_reducible exact Le.refl (some _) | with_reducible exact Le.refl none | with_reducible exact E_claims_audience.2 _ _ _ | with_reducible apply qA5 | with_reducible apply qBh | with_reducible apply qAw | with_reducible apply qAp | with_reducible apply qAu | with_reducible apply qAx | with_reducible apply qAk 300 | with_reducible apply qAo 300 | unfold zae_s
set_option maxHeartbeats 0 in
def E_claims_Parse:Ap1 zac_s:=by
 apply Subtype.mk
 case property =>
  repeat' first | with_reducible intro _ | with_reducible exact Le.refl (some _) | with_reducible exact Le.refl none | with_reducible exact E_json_Parse.2 _ | with_reducible exact E_json_Kids.2 _ _ | with_reducible exact E_claims_put.2 _ _ _ | with_reducible apply qA5 | with_reducible apply qBh | with_reducible apply qAw | with_reducible apply qAp | with_reducible apply qAu | with_reducible apply qAx | with_reducible apply qAk 300 | with_reducible apply qAo 300 | unfold zac_s | unfold zac_p0 | unfold zac_p0_step
def awT:BA:=⟨#[123,34,105,115,115,34,58,34,105,34,44,34,115,117,98,34,58,34,115,34,44,34,97,117,100,34,58,34,99,34,44,34,101,120,112,34,58,57,44,34,105,97,116,34,58,49,44,34,110,111,110,99,101,34,58,34,110,34,44,34,97,117,116,104,95,116,105,109,101,34,58,53,125]⟩
def awV:List Eng.Node:=[⟨7,⟨#[]⟩,⟨#[]⟩,false,0,7⟩,⟨5,⟨#[105,115,115]⟩,⟨#[105]⟩,false,0,0⟩,⟨5,⟨#[115,117,98]⟩,⟨#[115]⟩,false,0,0⟩,⟨5,⟨#[97,117,100]⟩,⟨#[99]⟩,false,0,0⟩,⟨4,⟨#[101,120,112]⟩,⟨#[57]⟩,true,9,0⟩,⟨4,⟨#[105,97,116]⟩,⟨#[49]⟩,true,1,0⟩,⟨5,⟨#[110,111,110,99,101]⟩,⟨#[110]⟩,false,0,0⟩,⟨4,⟨#[97,117,116,104,95,116,105,109,101]⟩,⟨#[53]⟩,true,5,0⟩]
def awC:qGj:=⟨awV,⟨#[105]⟩,true,⟨#[115]⟩,true,[⟨#[99]⟩],true,⟨#[]⟩,false,⟨true,9⟩,⟨false,0⟩,⟨true,1⟩⟩
set_option maxRecDepth 100000 in
theorem aw_parse:zac_s awT=some (awC,0):=E_claims_Parse.2 _ _ (by kernel_rfl)
end Go.Proofs.YtlmfmmgfiffjiaaGreatDoor
namespace Go.Proofs.YtlmfmmgfiffjiaaGreatDoor
open Go.Eng
set_option maxRecDepth 100000
noncomputable section
def zcc_q:IQ:=(.seq (rg 0 [oP 0 (.mv vF)]) (.seq (rg 2 [oP 7 (.call 11 [(.v (.string ⟨#[123,34,105,115,115,34,58,34,105,34,44,34,115,117,98,34,58,34,115,34,44,34,97,117,100,34,58,34,99,34,44,34,101,120,112,34,58,57,44,34,105,97,116,34,58,49,44,34,110,111,110,99,101,34,58,34,110,34,44,34,97,117,116,104,95,116,105,109,101,34,58,53,125]⟩))]),oM 6 t7,oP 8 (.extract t6 0),oP 9 (.extract t6 1),oP 1 (.alloc 27 [.slice none 0 0,.string ⟨#[]⟩,.bool false,.string ⟨#[]⟩,.bool false,.slice none 0 0,.bool false,.string ⟨#[]⟩,.bool false,.bool false,.int .i64 0,.bool false,.int .i64 0,.bool false,.int .i64 0]),oN (.store 15 t1 t8),oM 2 t9]) (.seq (rg 0 [oP 10 (.build [.string ⟨#[]⟩,.string ⟨#[]⟩,.bool false,.string ⟨#[]⟩,.bool false,.string ⟨#[]⟩,.bool false,.int .i64 0,.bool false,.int .i64 0] [(0,1,(.v (.string ⟨#[99]⟩))),(1,1,(.v (.string ⟨#[110]⟩))),(2,1,vT),(7,1,(vI 10)),(8,1,vT),(9,1,(vI 5))]),oP 3 (.alloc 30 [.string ⟨#[]⟩,.string ⟨#[]⟩,.bool false,.string ⟨#[]⟩,.bool false,.string ⟨#[]⟩,.bool false,.int .i64 0,.bool false,.int .i64 0]),oN (.store 10 t3 t10)]) (.seq (rg 5 [oP 12 (.call 12 [(vI 4),(.v (.string ⟨#[106,72,107,87,69,100,85,88,77,85,49,66,119,65,115,67,52,118,116,85,115,90,119,110,78,118,84,73,120,69,108,48,122,57,75,51,118,120,53,75,70,48,89]⟩))]),oM 11 t12,oP 13 (.extract t11 0),oP 14 (.extract t11 1),oM 4 t13,oM 5 t14]) (.seq (.seq (rg 24 [oM 15 t2,oP 16 (.bi .neq t15 (vI 0)),oM 17 t16,oE 18 (.mv t5) 17,oE 19 (.bi .neq t18 (vI 0)) 17,oP 20 (.pick t17 vT t19),oM 21 t20,oE 22 (.mv t4) 21,oE 23 (.bi .neq t22 (.v (.string ⟨#[55,55,81,109,85,80,116,106,80,102,122,87,116,70,50,65,110,112,75,57,82,81]⟩))) 21,oP 24 (.pick t21 vT t23)]) (.cond t24 (.seq (rg 0 [oP 0 (.mv vF)]) (.cn [0] .ret)) .skip)) (.seq (.seq (rg 34 [oP 25 (.load (some 15) t1),oP 26 (.load (some 10) t3),oP 27 (.call 9 [t25,(vI 4),t26,(vI 20)]),oP 28 (.bi .neq t27 (vI 0)),oM 29 t28,oE 30 (.load (some 15) t1) 29,oE 31 (.load (some 10) t3) 29,oE 32 (.call 9 [t30,(vI 4),t31,(vI 21)]) 29,oE 33 (.bi .neq t32 (vI 153)) 29,oP 34 (.pick t29 vT t33)]) (.cond t34 (.seq (rg 0 [oP 0 (.mv vF)]) (.cn [0] .ret)) .skip)) (.seq (rg 0 [oP 35 (.faddr 1 t3),oN (.store 1 t35 (.v (.string ⟨#[109]⟩)))]) (.seq (rg 0 [oP 36 (.load (some 15) t1),oP 37 (.load (some 10) t3),oP 38 (.call 9 [t36,(vI 4),t37,(vI 20)]),oP 39 (.bi .eql t38 (vI 150)),oM 0 t39]) (.cn [0] .ret)))))))))
def zcc_s:Option Bool :=
 (zac_s (⟨#[123,34,105,115,115,34,58,34,105,34,44,34,115,117,98,34,58,34,115,34,44,34,97,117,100,34,58,34,99,34,44,34,101,120,112,34,58,57,44,34,105,97,116,34,58,49,44,34,110,111,110,99,101,34,58,34,110,34,44,34,97,117,116,104,95,116,105,109,101,34,58,53,125]⟩:BA)).bind fun r1 =>
 (zaj_s (4:Int) (⟨#[106,72,107,87,69,100,85,88,77,85,49,66,119,65,115,67,52,118,116,85,115,90,119,110,78,118,84,73,120,69,108,48,122,57,75,51,118,120,53,75,70,48,89]⟩:BA)).bind fun r2 =>
 bif (((!decide (r1.2=(0:Int))) || (!decide (r2.2=(0:Int)))) || (!decide (r2.1=(⟨#[55,55,81,109,85,80,116,106,80,102,122,87,116,70,50,65,110,112,75,57,82,81]⟩:BA)))) then (
  some false)
 else (
  (qF4 r1.1 (4:Int) (⟨(⟨#[99]⟩:BA),(⟨#[110]⟩:BA),true,(⟨#[]⟩:BA),false,(⟨#[]⟩:BA),false,(10:Int),true,(5:Int)⟩:qHc) (20:Int)).bind fun r3 =>
  bif (!decide (r3=(0:Int))) then (
   some false)
  else (
   (qF4 r1.1 (4:Int) (⟨(⟨#[99]⟩:BA),(⟨#[110]⟩:BA),true,(⟨#[]⟩:BA),false,(⟨#[]⟩:BA),false,(10:Int),true,(5:Int)⟩:qHc) (21:Int)).bind fun r4 =>
   bif (!decide (r4=(153:Int))) then (
    some false)
   else (
    (qF4 r1.1 (4:Int) (⟨(⟨#[99]⟩:BA),(⟨#[109]⟩:BA),true,(⟨#[]⟩:BA),false,(⟨#[]⟩:BA),false,(10:Int),true,(5:Int)⟩:qHc) (20:Int)).bind fun r5 =>
    some (decide (r5=(150:Int))))))
def zcc_c:CS:=mkC (dNil:Dec Unit (List SV)) dNil (fun x y=>zcc_s) (fun x y r=>.c (.o (.vB r))) fun x y r=>[]
theorem zcc_val:qAf Tryz.prog 6 zcc_c:=vl0 zcc_q [.tmp 0] 40 6 0 [(11,zac_w),(12,zaj_w),(9,zai_w)] ⟨zac_ok,zaj_ok,zai_ok,tV⟩ fun x y=>by
 simp only [zcc_s,-eq_self,sZ];kernel_rfl
def zcc_w:CQ:=qCc [] zcc_c
theorem zcc_ok:qAe Tryz.prog 6 zcc_w:=qAn zcc_val
end
def awL:List Nat:=[1,2,3,4,5,6,7]
theorem aw_all {p:Eng.Node→Prop} (h:∀n,n=awV.getD 0 (ET.dft .node)∨n=awV.getD 1 (ET.dft .node)∨n=awV.getD 2 (ET.dft .node)∨n=awV.getD 3 (ET.dft .node)∨n=awV.getD 4 (ET.dft .node)∨n=awV.getD 5 (ET.dft .node)∨n=awV.getD 6 (ET.dft .node)∨n=awV.getD 7 (ET.dft .node)→p n):∀n∈awV,p n:=fun n hn=>by
 refine h n ?_;simp only [awV,List.mem_cons,List.not_mem_nil,or_false] at hn;exact hn
theorem aw_int:∀n∈awV,qAc n.int:=aw_all fun n hn=>by
 rcases hn with rfl | rfl | rfl | rfl | rfl | rfl | rfl | rfl <;> (unfold qAc; decide)
theorem qDj {a:Nat} {n:Eng.Node} (h:awV[a]?=some n) (h0:n.kids=0):Tree awV a (a+1):=Tree.mk h (by omega) (by
 rw [h0];exact Trees.nil _ (by have:=(List.getElem?_eq_some_iff.1 h).1; omega))
theorem aw_pl:placesT awV 7 1 awL 8:=⟨2,[2,3,4,5,6,7],rfl,qDj (a:=1) rfl rfl,3,[3,4,5,6,7],rfl,qDj (a:=2) rfl rfl,4,[4,5,6,7],rfl,qDj (a:=3) rfl rfl,5,[5,6,7],rfl,qDj (a:=4) rfl rfl,6,[6,7],rfl,qDj (a:=5) rfl rfl,7,[7],rfl,qDj (a:=6) rfl rfl,8,[],rfl,qDj (a:=7) rfl rfl,rfl,rfl⟩
theorem aw_trees:Trees awV 7 1 8:=Trees.app (qDj (a:=1) rfl rfl) (Trees.app (qDj (a:=2) rfl rfl) (Trees.app (qDj (a:=3) rfl rfl) (Trees.app (qDj (a:=4) rfl rfl) (Trees.app (qDj (a:=5) rfl rfl) (Trees.app (qDj (a:=6) rfl rfl) (qDj (a:=7) rfl rfl))))))
theorem findK_in {l:List Eng.Node} {key:BA}:∀ {L:List Nat} {p:Nat},findK l key L=some p→p∈L
 | [],p,h=>by cases h
 | q::r,p,h=>by
  unfold findK at h;split at h
  ·cases h;exact List.mem_cons_self
  ·exact List.mem_cons_of_mem _ (findK_in h)
theorem aw_mem (key:BA):zba_s awV 0 key=some (memI (findK awV key awL)):=j_member (a:=0) (nd:=⟨7,⟨#[]⟩,⟨#[]⟩,false,0,7⟩) (by decide) rfl (by decide) aw_trees aw_pl key
def awX:BA:=⟨#[106,72,107,87,69,100,85,88,77,85,49,66,119,65,115,67,52,118,116,85,115,90,119,110,78,118,84,73,120,69,108,48,122,57,75,51,118,120,53,75,70,48,89]⟩
def awH:BA:=⟨#[55,55,81,109,85,80,116,106,80,102,122,87,116,70,50,65,110,112,75,57,82,81]⟩
theorem aw_half:halfT 4 awX=awH:=by kernel_rfl
theorem awake_is:zcc_s=some true:=by
 have hm:Mem awC.value (fun n=>memI (findK awV n awL)):=⟨fun n=>aw_mem n,fun n=>by
  show memI (findK awV n awL)<(8:Nat);cases h:findK awV n awL with
  | none=>show (-1:Int)<_; decide
  | some p =>
   have:=findK_in h;simp only [awL,List.mem_cons,List.not_mem_nil,or_false] at this;show (p:Int)<_;omega⟩
 have c1:=check_v 4 ⟨⟨#[99]⟩,⟨#[110]⟩,true,⟨#[]⟩,false,⟨#[]⟩,false,10,true,5⟩ 20 hm aw_int (by decide) (by unfold qAc; decide);have c2:=check_v 4 ⟨⟨#[99]⟩,⟨#[110]⟩,true,⟨#[]⟩,false,⟨#[]⟩,false,10,true,5⟩ 21 hm aw_int (by decide) (by unfold qAc; decide);have c3:=check_v 4 ⟨⟨#[99]⟩,⟨#[109]⟩,true,⟨#[]⟩,false,⟨#[]⟩,false,10,true,5⟩ 20 hm aw_int (by decide) (by unfold qAc; decide);have e1:chkV (fun n=>memI (findK awV n awL)) awC 4 ⟨⟨#[99]⟩,⟨#[110]⟩,true,⟨#[]⟩,false,⟨#[]⟩,false,10,true,5⟩ 20=0:=by kernel_rfl
 have e2:chkV (fun n=>memI (findK awV n awL)) awC 4 ⟨⟨#[99]⟩,⟨#[110]⟩,true,⟨#[]⟩,false,⟨#[]⟩,false,10,true,5⟩ 21=153:=by kernel_rfl
 have e3:chkV (fun n=>memI (findK awV n awL)) awC 4 ⟨⟨#[99]⟩,⟨#[109]⟩,true,⟨#[]⟩,false,⟨#[]⟩,false,10,true,5⟩ 20=150:=by kernel_rfl
 rw [e1] at c1;rw [e2] at c2;rw [e3] at c3;have ph:=p_Half 4 awX;rw [aw_half] at ph;have pp:=aw_parse;unfold awT at pp;unfold awX at ph;unfold zcc_s;rw [pp,obS,ph,obS];dsimp only;rw [c1,obS,c2,obS,c3];rfl
theorem by_trim:∀(m:Nat) (o:List Int),o.length=m→m≤100000→∃k,k≤m∧zcm_p1 o=some (o.take k)∧(0<k→0<o.getD (k - 1) (ET.dft .i64))
 | 0,o,h,hm=>by
  refine ⟨0,by omega,?_,fun h=>by omega⟩;have:o=[]:=List.eq_nil_of_length_eq_zero h;subst this;unfold zcm_p1;refine qAj ?_;unfold qD7;rw [qAb (fun h=>by simp at h),qAb (fun h=>by simp at h),qAb (fun h=>by simp at h)];rfl
 | m+1,o,h,hm=>by
  have hlen:Int.toNat ((o.length:Int) - 1)=m:=by omega
  by_cases hc:o.getD m (ET.dft .i64)≤0
  ·obtain ⟨k,k1,k2,k3⟩:=by_trim m (o.take m) (by rw [List.length_take]; omega) (by omega);refine ⟨k,by omega,?_,fun hk=>?_⟩
   ·unfold zcm_p1 at k2 ⊢;rw [qA9 (y:=o.take m) ?_,k2,List.take_take,Nat.min_eq_left k1];unfold qD7;rw [qAb (fun _=>by unfold qAc; omega),qAb (fun _=>by omega),qAb (fun _=>by omega),hlen,deT (show (0:Int)<o.length by omega),deT hc,Bool.and_self,cnT,qAb (by unfold qAc; omega),qAb (by omega)]
   ·have:=k3 hk;rw [List.getD_eq_getElem?_getD,List.getElem?_take_of_lt (by omega)] at this;rw [List.getD_eq_getElem?_getD];exact this
  ·refine ⟨m+1,Nat.le_refl _,?_,fun _=>by rw [Nat.add_sub_cancel]; omega⟩;rw [List.take_of_length_le (by omega)];unfold zcm_p1;refine qAj ?_;unfold qD7;rw [qAb (fun _=>by unfold qAc; omega),qAb (fun _=>by omega),qAb (fun _=>by omega),hlen,deF hc,Bool.and_false,cnF]
theorem getD_mem {o:List Int} {k:Nat} (h:k<o.length):o.getD k (ET.dft .i64)∈o:=by
 rw [List.getD_eq_getElem?_getD,List.getElem?_eq_getElem h];exact List.getElem_mem h
theorem by_loop {v:List Eng.Node} (hv:OkL v):∀(j i:Nat) (o:List Int),i+j=v.length→o.length≤65536→(∀x∈o,qAc x)→∃y,zcm_p0 (i:Int) v o=some y
 | 0,i,o,h,ho,hi=>by
  refine ⟨.inr (),?_⟩;unfold zcm_p0;refine qAj ?_;unfold qD6;dsimp only;rw [deF (by omega),cnF]
 | j+1,i,o,h,ho,hi=>by
  have hlen:=hv.1;obtain ⟨k,k1,k2,k3⟩:=by_trim o.length o rfl (by omega);obtain ⟨n,_,hmem,hget⟩:=nd_some (v:=v) (a:=i) (by omega);have hkids:=(hv.2 n hmem).kids;have p2:∀q:List Int,q.length=k→(∀x∈q,qAc x)→∃z,zcm_p2 (i:Int) v q=some z∧(z=.inl true∨∃q',z=.inr q'∧q'.length≤65536∧∀x∈q',qAc x):=by
   intro q hq hx;unfold zcm_p2;rw [qAb (by omega),Int.toNat_natCast,qAb (by omega),qAb (by omega),hget,qAb (by simp only [List.length_singleton]; omega)];by_cases h6:(65536:Int)<(q++[n.kids]).length
   ·rw [deT h6,cnT];exact ⟨_,rfl,.inl rfl⟩
   ·rw [deF h6,cnF];refine ⟨_,rfl,.inr ⟨_,rfl,by omega,fun x hx'=>?_⟩⟩;rcases List.mem_append.1 hx' with h | h
    ·exact hx x h
    ·rw [List.mem_singleton] at h;rw [h]; exact hkids
  have hstep:∃y,qD6 (i:Int) v o=some y∧((∃z,y=.inr z)∨∃q,y=.inl (((i+1:Nat):Int),q)∧q.length≤65536∧∀x∈q,qAc x):=by
   unfold qD6;rw [deT (by omega),cnT,k2,obS];have hk8:(o.take k).length=k:=by rw [List.length_take]; omega
   have htk:∀x∈o.take k,qAc x:=fun x hx=>hi x (List.mem_of_mem_take hx)
   have fin:∀q:List Int,q.length=k→(∀x∈q,qAc x)→∃y,((zcm_p2 (i:Int) v q).bind fun o9=>(Sum.elim (fun (o9_0:Bool)=>some (.inr (.inl o9_0))) (fun (o9_1:(List Int))=>gd (qAc ((i:Int)+1)) <| some (.inl (((i:Int)+1),o9_1)))) o9:Option ((Int × (List Int)) ⊕ (Bool ⊕ Unit)))=some y∧((∃z,y=.inr z)∨∃q,y=.inl (((i+1:Nat):Int),q)∧q.length≤65536∧∀x∈q,qAc x):=by
    intro q hq hx;obtain ⟨z,z1,z2⟩:=p2 q hq hx;rw [z1,obS];rcases z2 with rfl | ⟨q',rfl,q1,q2⟩
    ·exact ⟨_,rfl,.inl ⟨_,rfl⟩⟩
    ·exact ⟨_,qAb (by unfold qAc; omega) _,.inr ⟨q',rfl,q1,q2⟩⟩
   by_cases h0:0<k
   ·rw [hk8,deT (by omega),cnT];have hkt:Int.toNat ((k:Int) - 1)=k - 1:=by omega
    have hgd:(o.take k).getD (k - 1) (ET.dft .i64)=o.getD (k - 1) (ET.dft .i64):=by
     rw [List.getD_eq_getElem?_getD,List.getElem?_take_of_lt (by omega),←List.getD_eq_getElem?_getD]
    have hpos:=k3 h0;have hin:=hi _ (getD_mem (o:=o) (k:=k - 1) (by omega));unfold qAc at hin;rw [qAb (by unfold qAc; omega),qAb (by unfold qAc; omega),qAb (by omega),hkt,hgd,qAb (by omega),qAb (by unfold qAc; omega),qAb (by omega),qAb (by omega)];refine fin _ (by rw [List.length_set,hk8]) fun x hx=>?_
    rcases List.mem_or_eq_of_mem_set hx with h | rfl
    ·exact htk x h
    ·unfold qAc; omega
   ·rw [hk8,deF (by omega),cnF];exact fin _ hk8 htk
  obtain ⟨y,h1,h2⟩:=hstep;rcases h2 with ⟨z,rfl⟩ | ⟨q,rfl,q1,q2⟩
  ·refine ⟨z,?_⟩;unfold zcm_p0;exact qAj h1
  ·obtain ⟨y,hy⟩:=by_loop hv j (i+1) q (by omega) q1 q2;refine ⟨y,?_⟩;unfold zcm_p0 at hy ⊢;rw [qA9 h1];exact hy
theorem beyond_total {v:List Eng.Node} (hv:OkL v):∃b,zcm_s v=some b:=by
 obtain ⟨y,hy⟩:=by_loop hv v.length 0 [] (by omega) (by simp) (fun x hx=>by cases hx);unfold zcm_s;rw [show ((0:Nat):Int)=0 from rfl] at hy;rw [hy,obS];cases y <;> exact ⟨_,rfl⟩
theorem findK_at {l:List Eng.Node} {key:BA}:∀ {L:List Nat} {p:Nat},findK l key L=some p→p∈L
 | [],p,h=>by cases h
 | q::r,p,h=>by
  unfold findK at h;split at h
  ·cases h;exact List.mem_cons_self
  ·exact List.mem_cons_of_mem _ (findK_at h)
theorem mem_tree {v:List Eng.Node} (hv:v.length≤2000000) (h:Tree v 0 v.length):∃m,Mem v m:=by
 obtain ⟨nd,h1,h2,h3⟩:=h.node;obtain ⟨l,hl⟩:=h3.places;have h0:0<v.length:=(List.getElem?_eq_some_iff.1 h1).1;refine ⟨fun key=>if nd.kind=7 then memI (findK v key l) else -1,fun key=>j_member (a:=0) hv h1 h2 h3 hl key,fun key=>?_⟩;show (if nd.kind=7 then memI (findK v key l) else -1)<_;split
 ·cases hf:findK v key l with
  | none=>show (-1:Int)<_; omega
  | some p =>
   have:=places_in hl p (findK_at hf);show (p:Int)<_;omega
 ·omega
def preV (m:BA→Int) (c:qGj) (a:Int) (w:qHc):Int :=
 bif qBx w then 12 else bif decide (hsh a=0) then 111 else bif missB c then 137 else bif !inB c.aud w.client then 133 else bif azpB m c w then 151 else bif qDe m c w then 150 else bif hashB m c a w then 152 else 0
theorem chk_pre (m:BA→Int) (c:qGj) (a:Int) (w:qHc) (now:Int):chkV m c a w now=bif decide (preV m c a w=0) then (bif ageB m c w now then 153 else 0) else preV m c a w:=by
 unfold chkV preV;cases qBx w <;> try rfl
 cases decide (hsh a=0) <;> try rfl
 cases missB c <;> try rfl
 cases (!inB c.aud w.client) <;> try rfl
 cases azpB m c w <;> try rfl
 cases qDe m c w <;> try rfl
 cases hashB m c a w <;> rfl
theorem pre_policy {m:BA→Int} {c:qGj} {a:Int} {w:qHc} (h:preV m c a w=0):qBx w=false:=by
 cases hp:qBx w with
 | false=>rfl
 | true =>
  unfold preV at h;rw [hp] at h;cases h
theorem age_mono {m:BA→Int} {c:qGj} {w v:qHc} {now now':Int} (hA:v.hasAge=w.hasAge) (hn:now'≤now) (hl:w.hasAge=true→w.maxAge+w.leeway≤v.maxAge+v.leeway) (h:ageB m c w now=false):ageB m c v now'=false:=by
 unfold ageB at h ⊢;rw [hA];cases hh:w.hasAge with
 | false=>rfl
 | true =>
  have hl:=hl hh;rw [hh,Bool.true_and,Bool.or_eq_false_iff] at h;rw [Bool.true_and,h.1,Bool.false_or];have:=of_decide_eq_false h.2;exact deF (by omega)
theorem qB9 {α:Type} (x:Option α):(x.bind fun o=>some o)=x:=by cases x <;> rfl
noncomputable section
def zbz_b0:IQ:=(.seq (rg 0 [oP 81 (.load (some 10) t8),oP 16 (.alloc 30 [.string ⟨#[]⟩,.string ⟨#[]⟩,.bool false,.string ⟨#[]⟩,.bool false,.string ⟨#[]⟩,.bool false,.int .i64 0,.bool false,.int .i64 0]),oN (.store 10 t16 t81)]) (.seq (rg 0 [oP 82 (.faddr 9 t16),oN (.store 1 t82 (vI 600))]) (.seq (rg 12 [oP 83 (.load (some 15) t6),oM 84 t1,oP 85 (.load (some 10) t15),oM 86 t3,oP 87 (.call 9 [t83,t84,t85,t86]),oP 88 (.bi .eql t87 (vI 0)),oM 89 t88,oF 90 (.load (some 15) t6) 89,oF 91 (.mv t1) 89,oF 92 (.load (some 10) t16) 89,oF 93 (.mv t3) 89,oF 94 (.call 9 [t90,t91,t92,t93]) 89,oF 95 (.bi .eql t94 (vI 0)) 89,oP 96 (.pick t89 t95 vF),oM 12 t96]) (.cn [12] .ret))))
def zbz_q:IQ:=(.seq (rg 12 [oP 6 (.box 27 15 t0),oP 8 (.box 30 10 t2),oP 12 (.mv vF)]) (.seq (.seq (rg 29 [oP 17 (.call 6 []),oP 18 (.un .not t17),oM 19 t18,oE 20 (.faddr 0 t6) 19,oE 21 (.load none t20) 19,oE 22 (.call 7 [t21]) 19,oP 23 (.pick t19 vT t22),oM 24 t23,oE 25 (.faddr 0 t6) 24,oE 26 (.load none t25) 24,oE 27 (.call 8 [t26]) 24,oE 28 (.un .not t27) 24,oP 29 (.pick t24 vT t28)]) (.cond t29 (.seq (rg 12 [oP 30 (.call 6 []),oM 12 t30]) (.cn [12] .ret)) .skip)) (.seq (rg 13 [oP 31 (.load (some 15) t6),oM 32 t1,oP 33 (.load (some 10) t8),oM 34 t3,oP 35 (.call 9 [t31,t32,t33,t34]),oM 13 t35]) (.seq (rg 14 [oP 36 (.load (some 15) t6),oM 37 t1,oP 38 (.load (some 10) t8),oM 39 t4,oP 40 (.call 9 [t36,t37,t38,t39]),oM 14 t40]) (.seq (.seq (rg 60 [oM 41 t13,oM 42 t14,oP 43 (.bi .neq t41 t42),oM 44 t43,oF 45 (.mv t13) 44,oF 46 (.bi .eql t45 (vI 0)) 44,oF 47 (.mv t46) 44,oE 48 (.mv t13) 47,oE 49 (.bi .eql t48 (vI 153)) 47,oF 50 (.pick t47 vT t49) 44,oF 51 (.mv t50) 44,oF 52 (.mv t14) 51,oF 53 (.bi .eql t52 (vI 0)) 51,oF 54 (.mv t53) 51,oE 55 (.mv t14) 54,oE 56 (.bi .eql t55 (vI 153)) 54,oF 57 (.pick t54 vT t56) 51,oF 58 (.pick t51 t57 vF) 44,oF 59 (.un .not t58) 44,oP 60 (.pick t44 t59 vF)]) (.cond t60 (.seq (rg 12 [oP 12 (.mv vF)]) (.cn [12] .ret)) .skip)) (.seq (.seq (rg 62 [oM 61 t13,oP 62 (.bi .neq t61 (vI 0))]) (.cond t62 (.seq (rg 12 [oP 12 (.mv vT)]) (.cn [12] .ret)) .skip)) (.seq (.seq (rg 69 [oM 63 t4,oM 64 t3,oP 65 (.bi .leq t63 t64),oM 66 t65,oF 67 (.mv t14) 66,oF 68 (.bi .neq t67 (vI 0)) 66,oP 69 (.pick t66 t68 vF)]) (.cond t69 (.seq (rg 12 [oP 12 (.mv vF)]) (.cn [12] .ret)) .skip)) (.seq (rg 0 [oP 70 (.load (some 10) t8),oP 15 (.alloc 30 [.string ⟨#[]⟩,.string ⟨#[]⟩,.bool false,.string ⟨#[]⟩,.bool false,.string ⟨#[]⟩,.bool false,.int .i64 0,.bool false,.int .i64 0]),oN (.store 10 t15 t70)]) (.seq (.seq (rg 78 [oM 71 t5,oP 72 (.faddr 7 t8),oP 73 (.load none t72),oP 74 (.bi .gtr t71 t73),oM 75 t74,oF 76 (.mv t5) 75,oF 77 (.bi .leq t76 (vI 2147483648)) 75,oP 78 (.pick t75 t77 vF)]) (.cond t78 (rg 0 [oM 79 t5,oP 80 (.faddr 7 t15),oN (.store 1 t80 t79)]) .skip)) (.cn [1,3,6,8,15] (.sub 0 zbz_b0)))))))))))
def zbz_p0 (a now:Int) (c_value:List Eng.Node) (c_aud:List BA) (qHq:BA) (qG5:Bool) (qHs:BA) (qG6 qG4:Bool) (qHr:BA) (qHe qGz:Bool) (qHd:Int) (qG9:Bool) (qHg:Int) (qG0:Bool) (qHf:Int) (qGx qG7:BA) (qGt:Bool) (qGu:BA) (qGo:Bool) (qG8:BA) (qGq:Bool) (qGp:Int) (qGn:Bool) (qHk qHt:BA) (qHi:Bool) (qHo:BA) (qHh:Bool) (qHx:BA) (qHj:Bool) (qHp:Int) (qHl:Bool) (qHm:Int):Option Bool :=
 (qF4 (⟨c_value,qHq,qG5,qHs,qG6,c_aud,qG4,qHr,qHe,(⟨qGz,qHd⟩:qGk),(⟨qG9,qHg⟩:qGk),(⟨qG0,qHf⟩:qGk)⟩:qGj) a (⟨qHk,qHt,qHi,qHo,qHh,qHx,qHj,qHp,qHl,qHm⟩:qHc) now).bind fun r9 =>
 bif decide (r9=(0:Int)) then (
  (qF4 (⟨c_value,qHq,qG5,qHs,qG6,c_aud,qG4,qHr,qHe,(⟨qGz,qHd⟩:qGk),(⟨qG9,qHg⟩:qGk),(⟨qG0,qHf⟩:qGk)⟩:qGj) a (⟨qGx,qG7,qGt,qGu,qGo,qG8,qGq,qGp,qGn,(600:Int)⟩:qHc) now).bind fun r10 =>
  some (decide (r10=(0:Int))))
 else (
  some false)
def zbz_s (c:qGj) (a:Int) (w:qHc) (now before more:Int):Option Bool :=
 (zcc_s).bind fun r1 =>
 bif (!r1) then (
  (zcc_s).bind fun r2 =>
  some r2)
 else (
  (zcm_s c.value).bind fun r3 =>
  bif r3 then (
   (zcc_s).bind fun r4 =>
   some r4)
  else (
   (zcn_s c.value).bind fun r5 =>
   bif (!r5) then (
    (zcc_s).bind fun r6 =>
    some r6)
   else (
    (qF4 c a w now).bind fun r7 =>
    (qF4 c a w before).bind fun r8 =>
    bif ((!decide (r7=r8)) && (!(((decide (r7=(0:Int))) || (decide (r7=(153:Int)))) && ((decide (r8=(0:Int))) || (decide (r8=(153:Int))))))) then (
     some false)
    else (
     bif (!decide (r7=(0:Int))) then (
      some true)
     else (
      bif ((decide (before≤now)) && (!decide (r8=(0:Int)))) then (
       some false)
      else (
       bif ((decide (w.maxAge<more)) && (decide (more≤(2147483648:Int)))) then (
        (zbz_p0 a now c.value c.aud c.iss c.hasIss c.sub c.hasSub c.hasAud c.jti c.hasJti c.exp_.has c.exp_.at_ c.nbf.has c.nbf.at_ c.iat.has c.iat.at_ w.client w.nonce w.hasNonce w.access w.hasAccess w.code w.hasCode w.maxAge w.hasAge w.client w.nonce w.hasNonce w.access w.hasAccess w.code w.hasCode more w.hasAge w.leeway).bind fun o11 =>
        some o11)
       else (
        (zbz_p0 a now c.value c.aud c.iss c.hasIss c.sub c.hasSub c.hasAud c.jti c.hasJti c.exp_.has c.exp_.at_ c.nbf.has c.nbf.at_ c.iat.has c.iat.at_ w.client w.nonce w.hasNonce w.access w.hasAccess w.code w.hasCode w.maxAge w.hasAge w.client w.nonce w.hasNonce w.access w.hasAccess w.code w.hasCode w.maxAge w.hasAge w.leeway).bind fun o12 =>
        some o12)))))))
def zbz_G:Nat→Option CQ:=tblQ [(6,zcc_w),(7,zcm_w),(8,zcn_w),(9,zai_w)]
def zDHG1:=(qAa dB (qAa dZ (qAa dB (qAa dZ dNil))))
def zDHG2:=(qAa dS (qAa dS (qAa dB (qAa dS (qAa dB (qAa dS zDHG1))))))
def zbz_d0:=(dQS (qAa (dSO 1 dZ) (qAa (dSO 3 dZ) (qAa (dSO 6 (dH 2 0)) (qAa (dSO 8 (dH 3 0)) (qAa (dSO 15 (dH 4 0)) dNil))))) (qAa (qBa .node) (qAa (qBa .str) (qAa (qBi 27 (qAa (dO 0) (qAa dS (qAa dB (qAa dS (qAa dB (qAa (dO 1) (qAa dB (qAa dS (qAa dB (qAa dB (qAa dZ zDHG1)))))))))))) (qAa (qBi 30 zDHG2) (qAa (qBi 30 zDHG2) dNil))))))
def zbz_l0:SubQ:=mkL zbz_d0 (fun x=>zbz_p0 x.1.1 x.1.2.1 x.2.1 x.2.2.1 x.2.2.2.1.2.1 x.2.2.2.1.2.2.1 x.2.2.2.1.2.2.2.1 x.2.2.2.1.2.2.2.2.1 x.2.2.2.1.2.2.2.2.2.2.1 x.2.2.2.1.2.2.2.2.2.2.2.1 x.2.2.2.1.2.2.2.2.2.2.2.2.1 x.2.2.2.1.2.2.2.2.2.2.2.2.2.1 x.2.2.2.1.2.2.2.2.2.2.2.2.2.2.1 x.2.2.2.1.2.2.2.2.2.2.2.2.2.2.2.1 x.2.2.2.1.2.2.2.2.2.2.2.2.2.2.2.2.1 x.2.2.2.1.2.2.2.2.2.2.2.2.2.2.2.2.2.1 x.2.2.2.1.2.2.2.2.2.2.2.2.2.2.2.2.2.2.1 x.2.2.2.2.1.1 x.2.2.2.2.1.2.1 x.2.2.2.2.1.2.2.1 x.2.2.2.2.1.2.2.2.1 x.2.2.2.2.1.2.2.2.2.1 x.2.2.2.2.1.2.2.2.2.2.1 x.2.2.2.2.1.2.2.2.2.2.2.1 x.2.2.2.2.1.2.2.2.2.2.2.2.1 x.2.2.2.2.1.2.2.2.2.2.2.2.2.1 x.2.2.2.2.2.1.1 x.2.2.2.2.2.1.2.1 x.2.2.2.2.2.1.2.2.1 x.2.2.2.2.2.1.2.2.2.1 x.2.2.2.2.2.1.2.2.2.2.1 x.2.2.2.2.2.1.2.2.2.2.2.1 x.2.2.2.2.2.1.2.2.2.2.2.2.1 x.2.2.2.2.2.1.2.2.2.2.2.2.2.1 x.2.2.2.2.2.1.2.2.2.2.2.2.2.2.1 x.2.2.2.2.2.1.2.2.2.2.2.2.2.2.2.1) fun x r R kn kx kr=>kr ⟨[sL 12 (.vB r)],[],[.view .node x.2.1,.view .str x.2.2.1]⟩
def zbz_L:Nat→SubQ:=tblL [(0,zbz_l0)]
theorem zbz_sub0:qA0 zbz_L zbz_G 2 17 97 0 zbz_b0:=qAh (show zbz_L 0=zbz_l0 from by kernel_rfl) fun x R kn kx kr=>by
 simp only [zbz_p0,-eq_self,sZ];kernel_rfl
def zbz_c:CS:=mkC (qAa (dVC (dCA (qAa (dO 0) (qAa dS (qAa dB (qAa dS (qAa dB (qAa (dO 1) (qAa dB (qAa dS (qAa dB (qAa dB (qAa dZ zDHG1))))))))))))) (qAa (dVC (dCO dZ)) (qAa (dVC (dCA zDHG2)) (qAa (dVC (dCO dZ)) (qAa (dVC (dCO dZ)) (qAa (dVC (dCO dZ)) dNil)))))) (qAa (qBa .node) (qAa (qBa .str) dNil)) (fun x y=>zbz_s (⟨y.1,x.1.2.1,x.1.2.2.1,x.1.2.2.2.1,x.1.2.2.2.2.1,y.2.1,x.1.2.2.2.2.2.2.1,x.1.2.2.2.2.2.2.2.1,x.1.2.2.2.2.2.2.2.2.1,(⟨x.1.2.2.2.2.2.2.2.2.2.1,x.1.2.2.2.2.2.2.2.2.2.2.1⟩:qGk),(⟨x.1.2.2.2.2.2.2.2.2.2.2.2.1,x.1.2.2.2.2.2.2.2.2.2.2.2.2.1⟩:qGk),(⟨x.1.2.2.2.2.2.2.2.2.2.2.2.2.2.1,x.1.2.2.2.2.2.2.2.2.2.2.2.2.2.2.1⟩:qGk)⟩:qGj) x.2.1 (⟨x.2.2.1.1,x.2.2.1.2.1,x.2.2.1.2.2.1,x.2.2.1.2.2.2.1,x.2.2.1.2.2.2.2.1,x.2.2.1.2.2.2.2.2.1,x.2.2.1.2.2.2.2.2.2.1,x.2.2.1.2.2.2.2.2.2.2.1,x.2.2.1.2.2.2.2.2.2.2.2.1,x.2.2.1.2.2.2.2.2.2.2.2.2.1⟩:qHc) x.2.2.2.1 x.2.2.2.2.1 x.2.2.2.2.2.1) (fun x y r=>.c (.o (.vB r))) fun x y r=>[.view .node y.1,.view .str y.2.1]
theorem zbz_val:qAf Tryz.prog 4 zbz_c:=vl1 zbz_q [.tmp 12] 97 17 2 (show qA3 zbz_L zbz_G 2 17 97 [(0,zbz_b0)] from ⟨zbz_sub0,tV⟩) (qAq ⟨zcc_ok,zcm_ok,zcn_ok,zai_ok,tV⟩) fun x y=>by
 simp only [zbz_s,-eq_self,sZ];kernel_rfl
end
theorem age_p0 {m:BA→Int} {c:qGj} {a now:Int} (hk:∀w,qF4 c a w now=some (chkV m c a w now)) (w v:qHc) (h1:chkV m c a v now=0) (h2:chkV m c a ⟨w.client,w.nonce,w.hasNonce,w.access,w.hasAccess,w.code,w.hasCode,w.maxAge,w.hasAge,600⟩ now=0) :
  zbz_p0 a now c.value c.aud c.iss c.hasIss c.sub c.hasSub c.hasAud c.jti c.hasJti c.exp_.has c.exp_.at_ c.nbf.has c.nbf.at_ c.iat.has c.iat.at_ w.client w.nonce w.hasNonce w.access w.hasAccess w.code w.hasCode w.maxAge w.hasAge v.client v.nonce v.hasNonce v.access v.hasAccess v.code v.hasCode v.maxAge v.hasAge v.leeway=some true:=by
 have k1:=hk v;have k2:=hk ⟨w.client,w.nonce,w.hasNonce,w.access,w.hasAccess,w.code,w.hasCode,w.maxAge,w.hasAge,600⟩;rw [h1] at k1;rw [h2] at k2;unfold zbz_p0;refine (congrArg (fun o=>Option.bind o _) k1).trans ?_;refine Eq.trans (b:=Option.bind (qF4 c a ⟨w.client,w.nonce,w.hasNonce,w.access,w.hasAccess,w.code,w.hasCode,w.maxAge,w.hasAge,600⟩ now) _) rfl ?_;rw [k2];rfl
theorem idAge_plain {c:qGj} {a now before more:Int} {w:qHc} (hv:OkL c.value) (hi:∀n∈c.value,qAc n.int) (hl:c.aud.length≤3000000) (hn:qAc now) (hb:qAc before):zbz_s c a w now before more=some true:=by
 obtain ⟨b1,e1⟩:=beyond_total hv;obtain ⟨b2,e2,ht⟩:=shaped_some hv;unfold zbz_s;rw [awake_is,obS,Bool.not_true,cnF,e1,obS];cases b1 with
 | true=>rfl
 | false =>
 rw [cnF,e2,obS];cases b2 with
 | false=>rfl
 | true =>
 obtain ⟨m,hm⟩:=mem_tree hv.1 (ht rfl);have hk:∀w' n',qAc n'→qF4 c a w' n'=some (chkV m c a w' n'):=fun w' n' h=>check_v a w' n' hm hi hl h
 rw [Bool.not_true,cnF,hk w now hn,obS,hk w before hb,obS];have x:=chk_pre m c a w now;have y:=chk_pre m c a w before;by_cases hp:preV m c a w=0
 ·rw [deT hp,cnT] at x y;rw [x,y];cases hx:ageB m c w now with
  | true =>
   cases ageB m c w before <;> rfl
  | false =>
   have hyB:decide (before≤now)=true→ageB m c w before=false:=fun h=>age_mono rfl (of_decide_eq_true h) (fun _=>Int.le_refl _) hx
   have hpol:=pre_policy hp;have hval:∀v:qHc,v.client=w.client→v.nonce=w.nonce→v.hasNonce=w.hasNonce→v.access=w.access→v.hasAccess=w.hasAccess→v.code=w.code→v.hasCode=w.hasCode→v.hasAge=w.hasAge→qBx v=false→(w.hasAge=true→w.maxAge+w.leeway≤v.maxAge+v.leeway)→chkV m c a v now=0:=by
    intro v q1 q2 q3 q4 q5 q6 q7 q8 q9 q10;have hpv:preV m c a v=0:=by
     rw [←hp];unfold preV;rw [q9,hpol];unfold azpB qDe hashB;rw [q1,q2,q3,q4,q5,q6,q7]
    rw [chk_pre,deT hpv,cnT,age_mono q8 (Int.le_refl _) q10 hx,cnF]
   have hu:chkV m c a ⟨w.client,w.nonce,w.hasNonce,w.access,w.hasAccess,w.code,w.hasCode,w.maxAge,w.hasAge,600⟩ now=0:=by
    refine hval _ rfl rfl rfl rfl rfl rfl rfl rfl ?_ ?_
    ·unfold qBx at hpol ⊢;rw [Bool.or_eq_false_iff] at hpol ⊢;exact ⟨rfl,hpol.2⟩
    ·intro _;unfold qBx at hpol;simp only [Bool.or_eq_false_iff,decide_eq_false_iff_not] at hpol;show _≤w.maxAge+600;omega
   have hstep:∀v:qHc,chkV m c a v now=0→zbz_p0 a now c.value c.aud c.iss c.hasIss c.sub c.hasSub c.hasAud c.jti c.hasJti c.exp_.has c.exp_.at_ c.nbf.has c.nbf.at_ c.iat.has c.iat.at_ w.client w.nonce w.hasNonce w.access w.hasAccess w.code w.hasCode w.maxAge w.hasAge v.client v.nonce v.hasNonce v.access v.hasAccess v.code v.hasCode v.maxAge v.hasAge v.leeway=some true:=fun v h=>age_p0 (fun w=>hk w now hn) w v h hu
   have h0:chkV m c a w now=0:=by rw [x,hx]; rfl
   have hcond:(decide (before≤now) && !decide ((bif ageB m c w before then (153:Int) else 0)=0))=false:=by
    cases hd:decide (before≤now) with
    | false=>rfl
    | true=>rw [hyB hd]; rfl
   have hfirst:(!decide ((bif false then (153:Int) else 0)=bif ageB m c w before then 153 else 0) && !((decide ((bif false then (153:Int) else 0)=0) || decide ((bif false then (153:Int) else 0)=153)) && (decide ((bif ageB m c w before then (153:Int) else 0)=0) || decide ((bif ageB m c w before then (153:Int) else 0)=153))))=false:=by
    cases ageB m c w before <;> rfl
   rw [hfirst,cnF,hcond];rw [show (!decide ((bif false then (153:Int) else 0)=0))=false from rfl,cnF,cnF];cases hq:(decide (w.maxAge<more) && decide (more≤2147483648)) with
   | false =>
    rw [cnF,hstep w h0];rfl
   | true =>
    rw [Bool.and_eq_true,decide_eq_true_eq,decide_eq_true_eq] at hq;have hvv:=hval ⟨w.client,w.nonce,w.hasNonce,w.access,w.hasAccess,w.code,w.hasCode,more,w.hasAge,w.leeway⟩ rfl rfl rfl rfl rfl rfl rfl rfl (by
     unfold qBx at hpol ⊢;rw [Bool.or_eq_false_iff] at hpol ⊢;refine ⟨hpol.1,?_⟩;cases hA:w.hasAge with
     | false=>rfl
     | true =>
      have h2:=hpol.2;rw [hA] at h2;simp only [Bool.true_and,Bool.or_eq_false_iff,decide_eq_false_iff_not] at h2 ⊢;omega) (fun _=>by show _≤more+w.leeway; omega)
    rw [cnT];have:=hstep ⟨w.client,w.nonce,w.hasNonce,w.access,w.hasAccess,w.code,w.hasCode,more,w.hasAge,w.leeway⟩ hvv;refine Eq.trans (congrArg (fun o=>Option.bind o fun o=>some o) this) rfl
 ·rw [deF hp,cnF] at x y;rw [x,y];simp [hp]
end Go.Proofs.YtlmfmmgfiffjiaaGreatDoor
namespace Go.Eng
open Go.RowKit
theorem i64_of_wf {a:Int} (h:(Lit.int .i64 a).wf=true) : -9223372036854775808≤a∧a≤9223372036854775807:=by
 simp [Lit.wf,IntKind.min,IntKind.max,IntKind.signed,IntKind.bits] at h;exact h
structure LowB (w w':World):Prop where
 os:w'.os=w.os
 output:w'.output=w.output
 size:w.heap.size≤w'.heap.size
 block:∀k,k<w.heap.size→w'.heap[k]?=w.heap[k]?
theorem lowB_of_stays {w w':World} (h:Stays (fun _=>False) w w'):LowB w w':=⟨h.os,h.output,h.size,fun k hk=>h.block k hk id⟩
theorem LowB.frame {W w':World} (h:LowB W w') (may:MemPlace→Prop):W.keptBut w' may:=by
 refine ⟨h.os,h.output,fun i hi=>?_⟩;rw [h.block i hi];split <;> simp_all
theorem LowB.same {W w':World} (h:LowB W w') {p:MemPlace} (hp:p.block<W.heap.size):W.sameAt w' p:=by
 cases p with
 | cell b o=>exact World.cell?_of_block (w:=W) (h.block b hp)
 | map b=>exact h.block b hp
theorem LowB.trod {H:Type} {enc:TypeId × Value→H} {P:Program} {t:TypeId} (hl:laidOutB P=true) (hr:P.readableRec t=true) (hrow:t<P.types.size) {W W':World} {v:Value} {d:DataW H} {ps:List MemPlace}
  (h:DataW.Trod enc P W 0 (fun _=>true) true t v d ps) (hb:LowB W W') (hlt:∀x∈ps,x.block<W.heap.size) :
  DataW.Trod enc P W' 0 (fun b=>decide (b<W.heap.size)) true t v d ps :=
 WideElems.Trod_stays hl hr hrow h (fun x hx=>hb.same (hlt x hx)) (fun x hx=>by simpa using hlt x hx)
end Go.Eng
namespace Go.Proofs.YtlmfmmgfiffjiaaGreatDoor
open Go.RowKit Go.ChangeShapes Go.WideShapes Go.Deep Go.Eng
set_option maxRecDepth 100000
theorem callV {P:Program} {f:Nat} {C:CS} (h:qAf P f C) {args:List SV} {hp hp':List SB} {v:SV} (hc:C args hp (SV × List SB) (fun v hp'=>some (v,hp'))=some (v,hp')) (ha:∀x∈args,x.lt hp.length) (hv:v.shut=true) (w:World) {ρ:Nat→Value} (hs:HpSat noX w w ρ hp) (vs:List Value) (hvs:args.map (SV.den ρ)=vs) :
  Calls P f vs.toArray w fun e w'=>e=.returned (v.den fun _=>undef)∧LowB w w':=by
 have:=h.2 args hp v hp' hc ha noX w ρ hs;rw [hvs] at this;exact this.mono fun e w' ⟨ρ',_,_,a,_,_,b⟩=>⟨by rw [a,SV.shut_den hv ρ' fun _=>undef],lowB_of_stays b⟩
def ViewsOK (w:World):List Value→List SB→Prop
 | [],[]=>True
 | v::vs,.view t l::hp=>qB8 noX w w t v l∧ViewsOK w vs hp
 | _,_=>False
theorem viewsOK_at {w:World}:∀ {vs:List Value} {hp:List SB},ViewsOK w vs hp→∀(i:Nat) (sb:SB),hp[i]?=some sb→∃t l,sb=.view t l∧qB8 noX w w t (vs.getD i undef) l
 | [],[],_,i,sb,h=>by simp at h
 | v::vs,.view t l::hp,h,i,sb,hi=>by
  cases i with
  | zero =>
   simp at hi;exact ⟨t,l,hi.symm,h.1⟩
  | succ i =>
   obtain ⟨t',l',h1,h2⟩:=viewsOK_at h.2 i sb (by simpa using hi);exact ⟨t',l',h1,by simpa using h2⟩
 | [],_::_,h,_,_,_=>h.elim
 | _::_,[],h,_,_,_=>h.elim
 | _::_,.cells ..::_,h,_,_,_=>h.elim
 | _::_,.row ..::_,h,_,_,_=>h.elim
 | _::_,.part ..::_,h,_,_,_=>h.elim
 | _::_,.dead::_,h,_,_,_=>h.elim
theorem views_sat {w:World} {vs:List Value} {hp:List SB} (h:ViewsOK w vs hp) (ht:tabOK noX w):HpSat noX w w (fun i=>vs.getD i undef) hp:=by
 have key:=viewsOK_at h;refine ⟨fun i hi=>?_,fun i sb hi=>?_,fun i sb hi=>?_,fun i j sb sb' b _ hi hj e1 _ _ _=>?_,ht⟩
 ·obtain ⟨t,l,_,a,cap,hv,_⟩:=key i hp[i] (by simp [hi]);show qCt (vs.getD i undef);rw [hv];trivial
 ·obtain ⟨t,l,rfl,hv⟩:=key i sb hi;exact hv
 ·obtain ⟨t,l,rfl,hv⟩:=key i sb hi;trivial
 ·obtain ⟨t,l,rfl,hv⟩:=key i sb hi;cases e1
section
variable {H:Type} {enc:TypeId × Value→H} {W:World} {sp:Nat→Bool} {held:Bool} {r:Reach} {b0:Nat}
theorem bulkAll_mem:∀ {l:List (DataW H)} {d:DataW H},d∈l→Rows.uptoBulk d≤Rows.uptoBulkAll l
 | x::l,d,h=>by
  simp only [Rows.uptoBulkAll];rcases List.mem_cons.1 h with rfl | h
  ·omega
  ·have:=bulkAll_mem h;omega
theorem bulk_pos (d:DataW H):1≤Rows.uptoBulk d:=by
 cases d with
 | lit l=>cases l <;> simp [Rows.uptoBulk]
 | _=>all_goals simp [Rows.uptoBulk]
theorem bulkAll_len:∀(l:List (DataW H)),l.length≤Rows.uptoBulkAll l
 | []=>by simp
 | x::l=>by
  have h1:=bulk_pos x;have h2:=bulkAll_len l;simp only [Rows.uptoBulkAll,List.length_cons];omega
theorem view_mk {t:ET} {a:Addr} {len cap:Nat} {N:Nat→t.T} (hl:len≤cap) (hb:0<len→a.block<W.heap.size)
  (hc:∀i,i<len→∀j u,(t.enc (N i))[j]?=some u→W.cell? (a.add (i*t.sz+j))=some u):qB8 noX W W t (.slice (some a) len cap) ((List.range len).map N):=by
 refine ⟨some a,cap,by simp,by simpa using hl,fun p u hu=>⟨a,rfl,?_⟩⟩;have hlt:p<((List.range len).map N).length*t.sz:=by
  have:=(List.getElem?_eq_some_iff.1 hu).1;rwa [qBc t.enc_len] at this
 simp only [List.length_map,List.length_range] at hlt;have hsz:=t.sz_pos;have hi:p / t.sz<len:=(Nat.div_lt_iff_lt_mul hsz).2 hlt;have hj:p % t.sz<t.sz:=Nat.mod_lt _ hsz;have he:(t.enc (((List.range len).map N).getD (p / t.sz) t.dft))[p % t.sz]?=some (t.enc (N (p / t.sz)))[p % t.sz]!:=by
  have e1:((List.range len).map N).getD (p / t.sz) t.dft=N (p / t.sz):=by simp [List.getD,hi]
  rw [e1,List.getElem?_eq_getElem (by rw [t.enc_len]; exact hj),List.getElem!_eq_getElem?_getD,List.getElem?_eq_getElem (by rw [t.enc_len]; exact hj)];rfl
 have h1:=qDv t.enc_len t.dft ((List.range len).map N) (p / t.sz) (p % t.sz) _ (by simpa using hi) he;have e2:p / t.sz*t.sz+p % t.sz=p:=Nat.div_add_mod' p t.sz;rw [e2,hu] at h1;have h2:=hc (p / t.sz) hi (p % t.sz) u (by
  have e1:((List.range len).map N).getD (p / t.sz) t.dft=N (p / t.sz):=by simp [List.getD,hi]
  rw [e1] at he;rw [he,←Option.some.inj h1])
 rw [e2] at h2;exact ⟨h2,.inl ⟨hb (Nat.lt_of_le_of_lt (Nat.zero_le _) hi),id⟩⟩
theorem view_nil {t:ET}:qB8 noX W W t (.slice none 0 0) []:=⟨none,0,rfl,Nat.le_refl _,fun j u h=>by simp at h⟩
theorem choose_ltV {α:Type} [Inhabited α] {n:Nat} {P:Nat→α→Prop} (h:∀i,i<n→∃x,P i x):∃f:Nat→α,∀i,i<n→P i (f i):=by
 classical
 refine ⟨fun i=>if hi:i<n then (h i hi).choose else default,fun i hi=>?_⟩;simp only [hi,dif_pos];exact (h i hi).choose_spec
structure NodeB (B:Nat) (n:Eng.Node):Prop where
 kind:qAc n.kind
 key:n.key.size≤B
 text:n.text.size≤B
 int:qAc n.int
 kids:qAc n.kids
instance:Inhabited Eng.Node:=⟨⟨0,.empty,.empty,false,0,0⟩⟩
theorem openV_strs_cells {fuel B:Nat} {c:Value} {y:DataW H × List MemPlace} (h:DataW.trod enc Tryz.prog W 0 sp held fuel 23 [c]=some y) (hz:Rows.uptoBulk y.1≤B) :
  ∃(v:Value) (xs:List BA),[c]=[v]∧qB8 noX W W .str v xs∧(∀s∈xs,s.size≤B)∧xs.length≤B∧xs.length≤9223372036854775807:=by
 have hlt:=DataW.trod_lt _ _ _ _ h;rcases open_slice Tryz.underlying23 h with ⟨hcs,_⟩ | ⟨a,len,cap,m,fu,D,Pl,hcs,_,hl,hm,hmm,rfl,hel⟩
 ·exact ⟨_,[],hcs,view_nil,by simp,by simp,by simp⟩
 ·have hlm:len≤m:=by rw [hmm]; split <;> omega
  rw [show Tryz.prog.cellsOf 9=1 by kernel_rfl] at hel;simp only [Rows.uptoBulk] at hz;have each:∀i,i<len→∃x:BA,x.size≤B∧∀j u,(ET.str.enc x)[j]?=some u→W.cell? (a.add (i*1+j))=some u:=by
   intro i hi;obtain ⟨cs',hcells,htr⟩:=hel i (by omega);obtain ⟨x,e,hd,_⟩:=DataW.trod_string Tryz.underlying9 htr;have hd1:D i=.lit (.string x.data.toList):=congrArg Prod.fst hd;subst e;obtain ⟨_,hcl,hat⟩:=World.cells?_some hcells;refine ⟨x,?_,fun j u hj=>?_⟩
   ·have h1:=bulkAll_mem (H:=H) (l:=(List.range len).map D) (List.mem_map.2 ⟨i,List.mem_range.2 hi,rfl⟩);rw [hd1] at h1;simp only [Rows.uptoBulk,Array.length_toList] at h1;have:x.size=x.data.size:=rfl;omega
   ·have hj1:j<1:=by
     have:=(List.getElem?_eq_some_iff.1 hj).1;simpa [ET.enc] using this
    have:=hat j hj1;rw [Go.Deep.add_add] at this;rw [this];exact hj
  obtain ⟨N,hN⟩:=choose_ltV (α:=BA) each;refine ⟨_,(List.range len).map N,hcs,view_mk (t:=.str) hl (fun h0=>?_) (fun i hi=>(hN i hi).2),fun s hs=>?_,?_,?_⟩
  ·exact hlt (.cell a.block a.off) (by
    simp only [MemPlace.row,List.mem_append,List.mem_map,List.mem_range];exact .inl ⟨0,by rw [show Tryz.prog.cellsOf 9=1 by kernel_rfl]; omega,by simp⟩)
  ·obtain ⟨i,hi,rfl⟩:=List.mem_map.1 hs;exact (hN i (List.mem_range.1 hi)).1
  ·have h1:=bulkAll_len (H:=H) ((List.range len).map D);simp only [List.length_map,List.length_range] at h1 ⊢;omega
  ·unfold maxLen at hm;simp only [List.length_map,List.length_range];omega
theorem openV_node_cells {fuel B:Nat} {l:List Value} {y:DataW H × List MemPlace} (h:DataW.trod enc Tryz.prog W 0 sp held fuel 47 l=some y) (hz:Rows.uptoBulk y.1≤B) :
  ∃x:Eng.Node,l=ET.node.enc x∧NodeB B x:=by
 obtain ⟨xs,n,_,hx,hll,hlen,hg⟩:=DataW.trod_struct Tryz.underlying47 h;rw [show Tryz.prog.cellsOf 47=6 by kernel_rfl] at hll;match l,hll,xs,hlen with
 | [c0,c1,c2,c3,c4,c5],_,[y0,y1,y2,y3,y4,y5],_ =>
  subst hx;have g0:DataW.trod enc Tryz.prog W 0 sp held n 45 [c0]=some y0:=by simpa [show Tryz.prog.cellsOf 45=1 by kernel_rfl] using hg 0 _ rfl
  have g1:DataW.trod enc Tryz.prog W 0 sp held n 9 [c1]=some y1:=by simpa [show Tryz.prog.cellsOf 9=1 by kernel_rfl] using hg 1 _ rfl
  have g2:DataW.trod enc Tryz.prog W 0 sp held n 9 [c2]=some y2:=by simpa [show Tryz.prog.cellsOf 9=1 by kernel_rfl] using hg 2 _ rfl
  have g3:DataW.trod enc Tryz.prog W 0 sp held n 4 [c3]=some y3:=by simpa [show Tryz.prog.cellsOf 4=1 by kernel_rfl] using hg 3 _ rfl
  have g4:DataW.trod enc Tryz.prog W 0 sp held n 2 [c4]=some y4:=by simpa [show Tryz.prog.cellsOf 2=1 by kernel_rfl] using hg 4 _ rfl
  have g5:DataW.trod enc Tryz.prog W 0 sp held n 3 [c5]=some y5:=by simpa [show Tryz.prog.cellsOf 3=1 by kernel_rfl] using hg 5 _ rfl
  obtain ⟨a0,e0,d0,i0⟩:=DataW.trod_int Tryz.underlying45 g0;obtain ⟨a1,e1,d1,i1⟩:=DataW.trod_string Tryz.underlying9 g1;obtain ⟨a2,e2,d2,i2⟩:=DataW.trod_string Tryz.underlying9 g2;obtain ⟨a3,e3,d3⟩:=DataW.trod_bool Tryz.underlying4 g3;obtain ⟨a4,e4,d4,i4⟩:=DataW.trod_int Tryz.underlying2 g4;obtain ⟨a5,e5,d5,i5⟩:=DataW.trod_int Tryz.underlying3 g5;simp only [List.cons.injEq,and_true] at e0 e1 e2 e3 e4 e5;subst e0 e1 e2 e3 e4 e5;subst d0 d1 d2 d3 d4 d5;simp only [List.map_cons,List.map_nil,Rows.uptoBulk,Rows.uptoBulkAll,Array.length_toList] at hz;have q1:a1.size=a1.data.size:=rfl;have q2:a2.size=a2.data.size:=rfl;exact ⟨⟨a0,a1,a2,a3,a4,a5⟩,rfl,Go.Eng.i64_of_wf i0,by show a1.size≤B; omega,by show a2.size≤B; omega,Go.Eng.i64_of_wf i4,Go.Eng.i64_of_wf i5⟩
theorem openV_nodes_cells {fuel B:Nat} {c:Value} {y:DataW H × List MemPlace} (h:DataW.trod enc Tryz.prog W 0 sp held fuel 22 [c]=some y) (hz:Rows.uptoBulk y.1≤B) :
  ∃(v:Value) (xs:List Eng.Node),[c]=[v]∧qB8 noX W W .node v xs∧(∀n∈xs,NodeB B n)∧xs.length≤B:=by
 have hlt:=DataW.trod_lt _ _ _ _ h;rcases open_slice Tryz.underlying22 h with ⟨hcs,_⟩ | ⟨a,len,cap,m,fu,D,Pl,hcs,_,hl,hm,hmm,rfl,hel⟩
 ·exact ⟨_,[],hcs,view_nil,by simp,by simp⟩
 ·have hlm:len≤m:=by rw [hmm]; split <;> omega
  rw [show Tryz.prog.cellsOf 47=6 by kernel_rfl] at hel;simp only [Rows.uptoBulk] at hz;have each:∀i,i<len→∃x:Eng.Node,NodeB B x∧∀j u,(ET.node.enc x)[j]?=some u→W.cell? (a.add (i*6+j))=some u:=by
   intro i hi;obtain ⟨cs',hcells,htr⟩:=hel i (by omega);have h1:=bulkAll_mem (H:=H) (l:=(List.range len).map D) (List.mem_map.2 ⟨i,List.mem_range.2 hi,rfl⟩);obtain ⟨x,rfl,hok⟩:=openV_node_cells (B:=B) htr (by show Rows.uptoBulk (D i)≤B; omega);obtain ⟨_,hcl,hat⟩:=World.cells?_some hcells;refine ⟨x,hok,fun j u hj=>?_⟩;have hj6:j<6:=by
    have:=(List.getElem?_eq_some_iff.1 hj).1;simpa [ET.enc] using this
   have:=hat j hj6;rw [hj,Go.Deep.add_add] at this;exact this
  obtain ⟨N,hN⟩:=choose_ltV (α:=Eng.Node) each;refine ⟨_,(List.range len).map N,hcs,view_mk (t:=.node) hl (fun h0=>?_) (fun i hi=>(hN i hi).2),fun s hs=>?_,?_⟩
  ·exact hlt (.cell a.block a.off) (by
    simp only [MemPlace.row,List.mem_append,List.mem_map,List.mem_range];exact .inl ⟨0,by rw [show Tryz.prog.cellsOf 47=6 by kernel_rfl]; omega,by simp⟩)
  ·obtain ⟨i,hi,rfl⟩:=List.mem_map.1 hs;exact (hN i (List.mem_range.1 hi)).1
  ·have h1:=bulkAll_len (H:=H) ((List.range len).map D);simp only [List.length_map,List.length_range] at h1 ⊢;omega
end
end Go.Proofs.YtlmfmmgfiffjiaaGreatDoor
namespace Go.Proofs.YtlmfmmgfiffjiaaGreatDoor
open Go.RowKit Go.ChangeShapes Go.WideShapes Go.Deep Go.Eng
set_option maxRecDepth 100000
section
variable {H:Type} {enc:TypeId × Value→H} {W:World} {sp:Nat→Bool} {held:Bool} {r:Reach} {b0:Nat}
theorem bulk_str {B:Nat} {s:BA} (h:Rows.uptoBulk (H:=H) (.lit (.string s.data.toList))≤B):s.size≤B:=by
 simp only [Rows.uptoBulk,Array.length_toList] at h;have:s.size=s.data.size:=rfl;omega
theorem qEj {fuel:Nat} {c0 c1:Value} {y:DataW H × List MemPlace} (h:DataW.trod enc Tryz.prog W 0 sp held fuel 25 [c0,c1]=some y) :
  ∃(b:Bool) (a:Int),[c0,c1]=[.bool b,.int .i64 a]∧(-9223372036854775808≤a∧a≤9223372036854775807):=by
 obtain ⟨xs,n,_,hx,_,hlen,hg⟩:=DataW.trod_struct Tryz.underlying25 h;match xs,hlen with
 | [y0,y1],_ =>
  have g0:DataW.trod enc Tryz.prog W 0 sp held n 4 [c0]=some y0:=by simpa [show Tryz.prog.cellsOf 4=1 by kernel_rfl] using hg 0 _ rfl
  have g1:DataW.trod enc Tryz.prog W 0 sp held n 2 [c1]=some y1:=by simpa [show Tryz.prog.cellsOf 2=1 by kernel_rfl] using hg 1 _ rfl
  obtain ⟨b,e0,_⟩:=DataW.trod_bool Tryz.underlying4 g0;obtain ⟨a,e1,_,i1⟩:=DataW.trod_int Tryz.underlying2 g1;simp only [List.cons.injEq,and_true] at e0 e1;subst e0 e1;exact ⟨b,a,rfl,Go.Eng.i64_of_wf i1⟩
theorem openVS_claims {B:Nat} {v:Value} {d:DataW H} {p:List MemPlace} (hv:Value.okWide Tryz.prog W r b0 27 v) (h:DataW.Trod enc Tryz.prog W 0 sp held 27 v d p) (hz:Rows.uptoBulk d≤B) :
  ∃(valueV:Value) (value:List Eng.Node) (iss:BA) (hasIss:Bool) (sub:BA) (hasSub:Bool) (audV:Value) (aud:List BA) (hasAud:Bool) (jti:BA) (hasJti:Bool) (expH:Bool) (exp:Int) (nbfH:Bool) (nbf:Int) (iatH:Bool) (iat:Int),v=.agg #[valueV,.string iss,.bool hasIss,.string sub,.bool hasSub,audV,.bool hasAud,.string jti,.bool hasJti,.bool expH,.int .i64 exp,.bool nbfH,.int .i64 nbf,.bool iatH,.int .i64 iat] ∧
   (qB8 noX W W .node valueV value∧(∀n∈value,NodeB B n)∧value.length≤B)∧iss.size≤B∧sub.size≤B∧(qB8 noX W W .str audV aud∧(∀s∈aud,s.size≤B)∧aud.length≤B∧aud.length≤9223372036854775807)∧jti.size≤B∧(-9223372036854775808≤exp∧exp≤9223372036854775807)∧(-9223372036854775808≤nbf∧nbf≤9223372036854775807)∧(-9223372036854775808≤iat∧iat≤9223372036854775807):=by
 obtain ⟨cs,rfl,hsz⟩:=okWide_struct Tryz.underlying27 hv;obtain ⟨l⟩:=cs;have hC:Tryz.prog.cellsOf 27=15:=by kernel_rfl
 match l,hsz.trans hC with
 | [c0,c1,c2,c3,c4,c5,c6,c7,c8,c9,c10,c11,c12,c13,c14],_ =>
  obtain ⟨fuel,hf⟩:=h;obtain ⟨xs,n,_,hx,_,hlen,hg⟩:=DataW.trod_struct Tryz.underlying27 hf;match xs,hlen with
  | [y0,y1,y2,y3,y4,y5,y6,y7,y8,y9,y10,y11],_ =>
   simp only [Prod.mk.injEq,List.map_cons,List.map_nil] at hx;obtain ⟨rfl,_⟩:=hx;simp only [Rows.uptoBulk,Rows.uptoBulkAll] at hz;have g0:DataW.trod enc Tryz.prog W 0 sp held n 22 [c0]=some y0:=by simpa [show Tryz.prog.cellsOf 22=1 by kernel_rfl,Value.cells] using hg 0 _ rfl
   have z0:Rows.uptoBulk y0.1≤B:=by omega
   have g1:DataW.trod enc Tryz.prog W 0 sp held n 9 [c1]=some y1:=by simpa [show Tryz.prog.cellsOf 9=1 by kernel_rfl,Value.cells] using hg 1 _ rfl
   have z1:Rows.uptoBulk y1.1≤B:=by omega
   have g2:DataW.trod enc Tryz.prog W 0 sp held n 4 [c2]=some y2:=by simpa [show Tryz.prog.cellsOf 4=1 by kernel_rfl,Value.cells] using hg 2 _ rfl
   have z2:Rows.uptoBulk y2.1≤B:=by omega
   have g3:DataW.trod enc Tryz.prog W 0 sp held n 9 [c3]=some y3:=by simpa [show Tryz.prog.cellsOf 9=1 by kernel_rfl,Value.cells] using hg 3 _ rfl
   have z3:Rows.uptoBulk y3.1≤B:=by omega
   have g4:DataW.trod enc Tryz.prog W 0 sp held n 4 [c4]=some y4:=by simpa [show Tryz.prog.cellsOf 4=1 by kernel_rfl,Value.cells] using hg 4 _ rfl
   have z4:Rows.uptoBulk y4.1≤B:=by omega
   have g5:DataW.trod enc Tryz.prog W 0 sp held n 23 [c5]=some y5:=by simpa [show Tryz.prog.cellsOf 23=1 by kernel_rfl,Value.cells] using hg 5 _ rfl
   have z5:Rows.uptoBulk y5.1≤B:=by omega
   have g6:DataW.trod enc Tryz.prog W 0 sp held n 4 [c6]=some y6:=by simpa [show Tryz.prog.cellsOf 4=1 by kernel_rfl,Value.cells] using hg 6 _ rfl
   have z6:Rows.uptoBulk y6.1≤B:=by omega
   have g7:DataW.trod enc Tryz.prog W 0 sp held n 9 [c7]=some y7:=by simpa [show Tryz.prog.cellsOf 9=1 by kernel_rfl,Value.cells] using hg 7 _ rfl
   have z7:Rows.uptoBulk y7.1≤B:=by omega
   have g8:DataW.trod enc Tryz.prog W 0 sp held n 4 [c8]=some y8:=by simpa [show Tryz.prog.cellsOf 4=1 by kernel_rfl,Value.cells] using hg 8 _ rfl
   have z8:Rows.uptoBulk y8.1≤B:=by omega
   have g9:DataW.trod enc Tryz.prog W 0 sp held n 25 [c9,c10]=some y9:=by simpa [show Tryz.prog.cellsOf 25=2 by kernel_rfl,Value.cells] using hg 9 _ rfl
   have z9:Rows.uptoBulk y9.1≤B:=by omega
   have g10:DataW.trod enc Tryz.prog W 0 sp held n 25 [c11,c12]=some y10:=by simpa [show Tryz.prog.cellsOf 25=2 by kernel_rfl,Value.cells] using hg 10 _ rfl
   have z10:Rows.uptoBulk y10.1≤B:=by omega
   have g11:DataW.trod enc Tryz.prog W 0 sp held n 25 [c13,c14]=some y11:=by simpa [show Tryz.prog.cellsOf 25=2 by kernel_rfl,Value.cells] using hg 11 _ rfl
   have z11:Rows.uptoBulk y11.1≤B:=by omega
   clear hz hg;obtain ⟨valueV,value,e0,i0⟩:=openV_nodes_cells g0 z0;simp only [List.cons.injEq,and_true] at e0;subst e0;obtain ⟨iss,e1,rfl,i1⟩:=DataW.trod_string Tryz.underlying9 g1;simp only [List.cons.injEq,and_true] at e1;subst e1;obtain ⟨hasIss,e2,rfl⟩:=DataW.trod_bool Tryz.underlying4 g2;simp only [List.cons.injEq,and_true] at e2;subst e2;obtain ⟨sub,e3,rfl,i3⟩:=DataW.trod_string Tryz.underlying9 g3;simp only [List.cons.injEq,and_true] at e3;subst e3;obtain ⟨hasSub,e4,rfl⟩:=DataW.trod_bool Tryz.underlying4 g4;simp only [List.cons.injEq,and_true] at e4;subst e4;obtain ⟨audV,aud,e5,i5⟩:=openV_strs_cells g5 z5;simp only [List.cons.injEq,and_true] at e5;subst e5;obtain ⟨hasAud,e6,rfl⟩:=DataW.trod_bool Tryz.underlying4 g6;simp only [List.cons.injEq,and_true] at e6;subst e6;obtain ⟨jti,e7,rfl,i7⟩:=DataW.trod_string Tryz.underlying9 g7;simp only [List.cons.injEq,and_true] at e7;subst e7;obtain ⟨hasJti,e8,rfl⟩:=DataW.trod_bool Tryz.underlying4 g8;simp only [List.cons.injEq,and_true] at e8;subst e8;obtain ⟨expH,exp,e9,i9⟩:=qEj g9;simp only [List.cons.injEq,and_true] at e9;obtain ⟨rfl,rfl⟩:=e9;obtain ⟨nbfH,nbf,e10,i10⟩:=qEj g10;simp only [List.cons.injEq,and_true] at e10;obtain ⟨rfl,rfl⟩:=e10;obtain ⟨iatH,iat,e11,i11⟩:=qEj g11;simp only [List.cons.injEq,and_true] at e11;obtain ⟨rfl,rfl⟩:=e11;exact ⟨_,value,iss,hasIss,sub,hasSub,_,aud,hasAud,jti,hasJti,expH,exp,nbfH,nbf,iatH,iat,rfl,i0,bulk_str z1,bulk_str z3,i5,bulk_str z7,i9,i10,i11⟩
theorem openVS_want {B:Nat} {v:Value} {d:DataW H} {p:List MemPlace} (hv:Value.okWide Tryz.prog W r b0 30 v) (h:DataW.Trod enc Tryz.prog W 0 sp held 30 v d p) (hz:Rows.uptoBulk d≤B) :
  ∃(client:BA) (nonce:BA) (hasNonce:Bool) (access:BA) (hasAccess:Bool) (code:BA) (hasCode:Bool) (maxAge:Int) (hasAge:Bool) (leeway:Int),v=.agg #[.string client,.string nonce,.bool hasNonce,.string access,.bool hasAccess,.string code,.bool hasCode,.int .i64 maxAge,.bool hasAge,.int .i64 leeway] ∧
   client.size≤B∧nonce.size≤B∧access.size≤B∧code.size≤B∧(-9223372036854775808≤maxAge∧maxAge≤9223372036854775807)∧(-9223372036854775808≤leeway∧leeway≤9223372036854775807):=by
 obtain ⟨cs,rfl,hsz⟩:=okWide_struct Tryz.underlying30 hv;obtain ⟨l⟩:=cs;have hC:Tryz.prog.cellsOf 30=10:=by kernel_rfl
 match l,hsz.trans hC with
 | [c0,c1,c2,c3,c4,c5,c6,c7,c8,c9],_ =>
  obtain ⟨fuel,hf⟩:=h;obtain ⟨xs,n,_,hx,_,hlen,hg⟩:=DataW.trod_struct Tryz.underlying30 hf;match xs,hlen with
  | [y0,y1,y2,y3,y4,y5,y6,y7,y8,y9],_ =>
   simp only [Prod.mk.injEq,List.map_cons,List.map_nil] at hx;obtain ⟨rfl,_⟩:=hx;simp only [Rows.uptoBulk,Rows.uptoBulkAll] at hz;have g0:DataW.trod enc Tryz.prog W 0 sp held n 9 [c0]=some y0:=by simpa [show Tryz.prog.cellsOf 9=1 by kernel_rfl,Value.cells] using hg 0 _ rfl
   have z0:Rows.uptoBulk y0.1≤B:=by omega
   have g1:DataW.trod enc Tryz.prog W 0 sp held n 9 [c1]=some y1:=by simpa [show Tryz.prog.cellsOf 9=1 by kernel_rfl,Value.cells] using hg 1 _ rfl
   have z1:Rows.uptoBulk y1.1≤B:=by omega
   have g2:DataW.trod enc Tryz.prog W 0 sp held n 4 [c2]=some y2:=by simpa [show Tryz.prog.cellsOf 4=1 by kernel_rfl,Value.cells] using hg 2 _ rfl
   have z2:Rows.uptoBulk y2.1≤B:=by omega
   have g3:DataW.trod enc Tryz.prog W 0 sp held n 9 [c3]=some y3:=by simpa [show Tryz.prog.cellsOf 9=1 by kernel_rfl,Value.cells] using hg 3 _ rfl
   have z3:Rows.uptoBulk y3.1≤B:=by omega
   have g4:DataW.trod enc Tryz.prog W 0 sp held n 4 [c4]=some y4:=by simpa [show Tryz.prog.cellsOf 4=1 by kernel_rfl,Value.cells] using hg 4 _ rfl
   have z4:Rows.uptoBulk y4.1≤B:=by omega
   have g5:DataW.trod enc Tryz.prog W 0 sp held n 9 [c5]=some y5:=by simpa [show Tryz.prog.cellsOf 9=1 by kernel_rfl,Value.cells] using hg 5 _ rfl
   have z5:Rows.uptoBulk y5.1≤B:=by omega
   have g6:DataW.trod enc Tryz.prog W 0 sp held n 4 [c6]=some y6:=by simpa [show Tryz.prog.cellsOf 4=1 by kernel_rfl,Value.cells] using hg 6 _ rfl
   have z6:Rows.uptoBulk y6.1≤B:=by omega
   have g7:DataW.trod enc Tryz.prog W 0 sp held n 2 [c7]=some y7:=by simpa [show Tryz.prog.cellsOf 2=1 by kernel_rfl,Value.cells] using hg 7 _ rfl
   have z7:Rows.uptoBulk y7.1≤B:=by omega
   have g8:DataW.trod enc Tryz.prog W 0 sp held n 4 [c8]=some y8:=by simpa [show Tryz.prog.cellsOf 4=1 by kernel_rfl,Value.cells] using hg 8 _ rfl
   have z8:Rows.uptoBulk y8.1≤B:=by omega
   have g9:DataW.trod enc Tryz.prog W 0 sp held n 2 [c9]=some y9:=by simpa [show Tryz.prog.cellsOf 2=1 by kernel_rfl,Value.cells] using hg 9 _ rfl
   have z9:Rows.uptoBulk y9.1≤B:=by omega
   clear hz hg;obtain ⟨client,e0,rfl,i0⟩:=DataW.trod_string Tryz.underlying9 g0;simp only [List.cons.injEq,and_true] at e0;subst e0;obtain ⟨nonce,e1,rfl,i1⟩:=DataW.trod_string Tryz.underlying9 g1;simp only [List.cons.injEq,and_true] at e1;subst e1;obtain ⟨hasNonce,e2,rfl⟩:=DataW.trod_bool Tryz.underlying4 g2;simp only [List.cons.injEq,and_true] at e2;subst e2;obtain ⟨access,e3,rfl,i3⟩:=DataW.trod_string Tryz.underlying9 g3;simp only [List.cons.injEq,and_true] at e3;subst e3;obtain ⟨hasAccess,e4,rfl⟩:=DataW.trod_bool Tryz.underlying4 g4;simp only [List.cons.injEq,and_true] at e4;subst e4;obtain ⟨code,e5,rfl,i5⟩:=DataW.trod_string Tryz.underlying9 g5;simp only [List.cons.injEq,and_true] at e5;subst e5;obtain ⟨hasCode,e6,rfl⟩:=DataW.trod_bool Tryz.underlying4 g6;simp only [List.cons.injEq,and_true] at e6;subst e6;obtain ⟨maxAge,e7,rfl,i7⟩:=DataW.trod_int Tryz.underlying2 g7;simp only [List.cons.injEq,and_true] at e7;subst e7;obtain ⟨hasAge,e8,rfl⟩:=DataW.trod_bool Tryz.underlying4 g8;simp only [List.cons.injEq,and_true] at e8;subst e8;obtain ⟨leeway,e9,rfl,i9⟩:=DataW.trod_int Tryz.underlying2 g9;simp only [List.cons.injEq,and_true] at e9;subst e9;exact ⟨client,nonce,hasNonce,access,hasAccess,code,hasCode,maxAge,hasAge,leeway,rfl,bulk_str z0,bulk_str z1,bulk_str z3,bulk_str z5,Go.Eng.i64_of_wf i7,Go.Eng.i64_of_wf i9⟩
end
end Go.Proofs.YtlmfmmgfiffjiaaGreatDoor
namespace Go.Proofs
open Go.Shelf
shelf_lay Lays.n260 Nm 260 at Tryz as Tryz.laysSlow
end Go.Proofs
namespace Go.Proofs.YtlmfmmgfiffjiaaGreatDoor
open Go.Eng Go.Shelf
theorem first_data:(Rows.laid_unicode_utf8_first:DataW Unit)=Lib.firstData:=by kernel_rfl
theorem accept_data:(Rows.laid_unicode_utf8_acceptRanges:DataW Unit)=Lib.acceptData:=by kernel_rfl
theorem arr_reads {W:World} {name:String} {g:Nat} {t e:TypeId} {n:Nat} {k:IntKind} {l:List Int} (hg:Tryz.prog.globalNamed name=some g) (hty:(Tryz.prog.globals[g]?).map (·.type)=some t)
  (ht:Tryz.prog.underlying t=some (.array n e)) (he:Tryz.prog.underlying e=some (.int k)) (hce:Tryz.prog.cellsOf e=1) (hct:Tryz.prog.cellsOf t=n) (h:Lib.VarReads Tryz.prog W name (Lib.tabData k l)):ArrAt noX W g k l:=by
 obtain ⟨g',t',cs,fuel,p,hg',ht',hvar,hd⟩:=h;obtain rfl:=Option.some.inj (hg.symm.trans hg');obtain rfl:=Option.some.inj (hty.symm.trans ht');have hT:Lib.TabIs Tryz.prog W name k l:=by
  unfold Lib.TabIs;rw [hvar,←Lib.cells_of_tab ht he hce hct hd]
 refine ⟨fun h=>h,fun j hj=>?_⟩;rw [hT.cell hg j hj]
theorem sha_tabs {W:World} (h3:Lib.VarReads Tryz.prog W "unicode/utf8.first" Rows.laid_unicode_utf8_first) (h4:Lib.VarReads Tryz.prog W "unicode/utf8.acceptRanges" Rows.laid_unicode_utf8_acceptRanges)
  (k1:Lib.VarReads Tryz.prog W "signet/sha.k256" Rows.laid_signet_sha_k256) (k2:Lib.VarReads Tryz.prog W "signet/sha.k512" Rows.laid_signet_sha_k512) (s1:Lib.VarReads Tryz.prog W "signet/sha.start256" Rows.laid_signet_sha_start256) (s2:Lib.VarReads Tryz.prog W "signet/sha.start384" Rows.laid_signet_sha_start384) (s3:Lib.VarReads Tryz.prog W "signet/sha.start512" Rows.laid_signet_sha_start512):tabOK noX W:=by
 rw [first_data] at h3;rw [accept_data] at h4;rw [show (Rows.laid_signet_sha_k256:DataW Unit)=Lib.tabData .u32 shaK256 by kernel_rfl] at k1;rw [show (Rows.laid_signet_sha_k512:DataW Unit)=Lib.tabData .u64 shaK512 by kernel_rfl] at k2;rw [show (Rows.laid_signet_sha_start256:DataW Unit)=Lib.tabData .u32 shaS256 by kernel_rfl] at s1;rw [show (Rows.laid_signet_sha_start384:DataW Unit)=Lib.tabData .u64 shaS384 by kernel_rfl] at s2;rw [show (Rows.laid_signet_sha_start512:DataW Unit)=Lib.tabData .u64 shaS512 by kernel_rfl] at s3;exact ⟨⟨arr_reads (t:=124) (e:=98) (n:=64) (by kernel_rfl) (by kernel_rfl) (by kernel_rfl) (by kernel_rfl) (by kernel_rfl) (by kernel_rfl) k1,
  arr_reads (t:=126) (e:=100) (n:=80) (by kernel_rfl) (by kernel_rfl) (by kernel_rfl) (by kernel_rfl) (by kernel_rfl) (by kernel_rfl) k2,
  arr_reads (t:=99) (e:=98) (n:=8) (by kernel_rfl) (by kernel_rfl) (by kernel_rfl) (by kernel_rfl) (by kernel_rfl) (by kernel_rfl) s1,
  arr_reads (t:=101) (e:=100) (n:=8) (by kernel_rfl) (by kernel_rfl) (by kernel_rfl) (by kernel_rfl) (by kernel_rfl) (by kernel_rfl) s2,
  arr_reads (t:=101) (e:=100) (n:=8) (by kernel_rfl) (by kernel_rfl) (by kernel_rfl) (by kernel_rfl) (by kernel_rfl) (by kernel_rfl) s3⟩,
  utf8Tabs_of_reads Tryz.laysSlow ⟨by kernel_rfl,by kernel_rfl,by kernel_rfl,by kernel_rfl,by kernel_rfl,by kernel_rfl,by kernel_rfl⟩ h3 h4,fun h=>h,fun h=>h⟩
end Go.Proofs.YtlmfmmgfiffjiaaGreatDoor
namespace Go.Proofs.YtlmfmmgfiffjiaaGreatDoor
open Go.Eng
theorem idAge_tabs {W:World} (h:laidMetH Tryz.prog Rows.idAgeUptoRow.laid W):tabOK noX W:=by
 have h':laidMet Tryz.prog Rows.idAgeUptoRow.laid W:=h;have r:=fun {n d} hm=>Lib.laidMet.reads h' (n:=n) (d:=d) hm
 refine sha_tabs (r ?_) (r ?_) (r ?_) (r ?_) (r ?_) (r ?_) (r ?_) <;> (show _∈[_,_,_,_,_,_,_]; simp only [List.mem_cons,true_or,or_true])
theorem idAge_walk (valueV:Value) (value:List Eng.Node) (iss:BA) (hasIss:Bool) (sub:BA) (hasSub:Bool) (audV:Value) (aud:List BA) (hasAud:Bool) (jti:BA) (hasJti:Bool) (expH:Bool) (exp:Int) (nbfH:Bool) (nbf:Int) (iatH:Bool) (iat:Int) (a:Int) (client:BA) (nonce:BA) (hasNonce:Bool) (access:BA) (hasAccess:Bool) (code:BA) (hasCode:Bool) (maxAge:Int) (hasAge:Bool) (leeway:Int) (now:Int) (before:Int) (more:Int) (W:World)
  (h0:qB8 noX W W .node valueV value∧(∀n∈value,NodeB 1048576 n)∧value.length≤1048576) (h1:iss.size≤1048576) (h2:sub.size≤1048576) (h3:qB8 noX W W .str audV aud∧(∀s∈aud,s.size≤1048576)∧aud.length≤1048576∧aud.length≤9223372036854775807) (h4:jti.size≤1048576) (h5 : -9223372036854775808≤exp∧exp≤9223372036854775807) (h6 : -9223372036854775808≤nbf∧nbf≤9223372036854775807) (h7 : -9223372036854775808≤iat∧iat≤9223372036854775807) (f1 : -9223372036854775808≤a∧a≤9223372036854775807) (g2client:client.size≤1048576) (g2nonce:nonce.size≤1048576) (g2access:access.size≤1048576) (g2code:code.size≤1048576) (g2maxAge : -9223372036854775808≤maxAge∧maxAge≤9223372036854775807) (g2leeway : -9223372036854775808≤leeway∧leeway≤9223372036854775807) (f3 : -9223372036854775808≤now∧now≤9223372036854775807) (f4 : -9223372036854775808≤before∧before≤9223372036854775807) (f5 : -9223372036854775808≤more∧more≤9223372036854775807) (hT:tabOK noX W) :
  Calls Tryz.prog 4 #[.agg #[valueV,.string iss,.bool hasIss,.string sub,.bool hasSub,audV,.bool hasAud,.string jti,.bool hasJti,.bool expH,.int .i64 exp,.bool nbfH,.int .i64 nbf,.bool iatH,.int .i64 iat],.int .i64 a,.agg #[.string client,.string nonce,.bool hasNonce,.string access,.bool hasAccess,.string code,.bool hasCode,.int .i64 maxAge,.bool hasAge,.int .i64 leeway],.int .i64 now,.int .i64 before,.int .i64 more] W fun e w'=>e=.returned (.bool true)∧LowB W w':=by
 refine callV zbz_val
  (args:=[.c (.agg [.own 0,.val (.string iss),.val (.bool hasIss),.val (.string sub),.val (.bool hasSub),.own 1,.val (.bool hasAud),.val (.string jti),.val (.bool hasJti),.val (.bool expH),.val (.int .i64 exp),.val (.bool nbfH),.val (.int .i64 nbf),.val (.bool iatH),.val (.int .i64 iat)]),.c (.o (.val (.int .i64 a))),.c (.agg [.val (.string client),.val (.string nonce),.val (.bool hasNonce),.val (.string access),.val (.bool hasAccess),.val (.string code),.val (.bool hasCode),.val (.int .i64 maxAge),.val (.bool hasAge),.val (.int .i64 leeway)]),.c (.o (.val (.int .i64 now))),.c (.o (.val (.int .i64 before))),.c (.o (.val (.int .i64 more)))])
  (hp:=[.view .node value,.view .str aud]) (hp':=[.view .node value,.view .str aud]) (v:=.c (.o (.val (.bool true)))) ?_ ?_ rfl W
  (views_sat (vs:=[valueV,audV]) ⟨h0.1,h3.1,tV⟩ hT) _ rfl
 ·show ((zbz_s ⟨value,iss,hasIss,sub,hasSub,aud,hasAud,jti,hasJti,⟨expH,exp⟩,⟨nbfH,nbf⟩,⟨iatH,iat⟩⟩ a ⟨client,nonce,hasNonce,access,hasAccess,code,hasCode,maxAge,hasAge,leeway⟩ now before more).bind fun r=>some ((.c (.o (.val (.bool r))),[.view .node value,.view .str aud]):SV × List SB))=_;rw [idAge_plain (c:=⟨value,iss,hasIss,sub,hasSub,aud,hasAud,jti,hasJti,⟨expH,exp⟩,⟨nbfH,nbf⟩,⟨iatH,iat⟩⟩) (a:=a) (now:=now) (before:=before) (more:=more) (w:=⟨client,nonce,hasNonce,access,hasAccess,code,hasCode,maxAge,hasAge,leeway⟩) ⟨by show value.length≤_; omega,fun n hn=>⟨by have:=(h0.2.1 n hn).key; omega,by have:=(h0.2.1 n hn).text; omega,(h0.2.1 n hn).kids⟩⟩ (fun n hn=>(h0.2.1 n hn).int) (by show aud.length≤_; omega) ⟨f3.1,f3.2⟩ ⟨f4.1,f4.2⟩];rfl
 ·intro x hx;simp only [List.mem_cons,List.not_mem_nil,or_false] at hx;rcases hx with rfl | rfl | rfl | rfl | rfl | rfl
  ·intro y hy;simp only [List.mem_cons,List.not_mem_nil,or_false] at hy;rcases hy with rfl | rfl | rfl | rfl | rfl | rfl | rfl | rfl | rfl | rfl | rfl | rfl | rfl | rfl | rfl <;> first | trivial | (show _<2; omega)
  ·trivial
  ·intro y hy;simp only [List.mem_cons,List.not_mem_nil,or_false] at hy;rcases hy with rfl | rfl | rfl | rfl | rfl | rfl | rfl | rfl | rfl | rfl <;> first | trivial | (show _<2; omega)
  ·trivial
  ·trivial
  ·trivial
end Go.Proofs.YtlmfmmgfiffjiaaGreatDoor
