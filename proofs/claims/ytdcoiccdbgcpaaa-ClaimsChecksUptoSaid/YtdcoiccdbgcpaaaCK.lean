/-
  Functions as the engine reads them (printed by gen.py).
-/
import Derived.Test.YtdcoiccdbgcpaaaEngO
import Derived.Test.YtdcoiccdbgcpaaaProg
import Derived.Test.YtdcoiccdbgcpaaaGC
import Derived.Test.YtdcoiccdbgcpaaaJR
namespace Go.Proofs.Ytdcoiccdbgcpaaa
open Go.Eng
set_option linter.unusedVariables false
set_option linter.unusedSimpArgs false
set_option maxRecDepth 100000
structure api_Time where
  has : Bool
  at_ : Int

structure api_Claims where
  value : (List Eng.Node)
  iss : ByteArray
  hasIss : Bool
  sub : ByteArray
  hasSub : Bool
  aud : (List ByteArray)
  hasAud : Bool
  jti : ByteArray
  hasJti : Bool
  exp_ : api_Time
  nbf : api_Time
  iat : api_Time

structure api_Policy where
  algs : (List ByteArray)
  iss : ByteArray
  hasIss : Bool
  aud : ByteArray
  hasAud : Bool
  typ : ByteArray
  hasTyp : Bool
  leeway : Int
  need : (List ByteArray)

/-! ### signet/signetlaw19.twin -/
def signetlaw19_twin_q : IQ :=
  (.seq
  (.reg 2 none [
    ⟨(some 1), .box 27 15 (.t 0), none⟩,
    ⟨(some 2), .alloc 27 [.slice none 0 0, .string ⟨#[]⟩, .bool false, .string ⟨#[]⟩, .bool false, .slice none 0 0, .bool false, .string ⟨#[]⟩, .bool false, .bool false, .int .i64 0, .bool false, .int .i64 0, .bool false, .int .i64 0], none⟩])
  (.seq
  (.reg 3 none [
    ⟨(some 3), .mv (.v (.slice none 0 0)), none⟩])
  (.seq
  (.reg 0 none [
    ⟨(some 5), .mv (.t 3), none⟩,
    ⟨(some 6), .faddr 0 (.t 1), none⟩,
    ⟨(some 7), .load none (.t 6), none⟩,
    ⟨(some 8), .append 40 6 64 [.int .i64 0, .string ⟨#[]⟩, .string ⟨#[]⟩, .bool false, .int .i64 0, .int .i64 0] (.t 5) (.t 7), none⟩,
    ⟨(some 9), .faddr 0 (.t 1), none⟩,
    ⟨none, .store 1 (.t 9) (.t 8), none⟩])
  (.seq
  (.reg 4 none [
    ⟨(some 4), .mv (.v (.slice none 0 0)), none⟩])
  (.seq
  (.reg 0 none [
    ⟨(some 10), .mv (.t 4), none⟩,
    ⟨(some 11), .faddr 5 (.t 1), none⟩,
    ⟨(some 12), .load none (.t 11), none⟩,
    ⟨(some 13), .append 9 1 16 [.string ⟨#[]⟩] (.t 10) (.t 12), none⟩,
    ⟨(some 14), .faddr 5 (.t 1), none⟩,
    ⟨none, .store 1 (.t 14) (.t 13), none⟩])
  (.seq
  (.reg 0 none [
    ⟨(some 15), .load (some 15) (.t 1), none⟩,
    ⟨none, .store 15 (.t 2) (.t 15), none⟩])
  (.canon [(2, some 0, .node, 40), (2, some 5, .str, 9)] [2] .ret)))))))
theorem signetlaw19_twin_chk : chk Try.prog 11 [] = some (signetlaw19_twin_q.erase, [.cell 2 (some 15)], 16) := by kernel_rfl
noncomputable def signetlaw19_twin_s (c : api_Claims) : Option api_Claims :=
  gd (c.value.length ≤ 9223372036854775807 ∧ c.value.length * 64 ≤ 140737488355328) <|
  gd (c.aud.length ≤ 9223372036854775807 ∧ c.aud.length * 16 ≤ 140737488355328) <|
  some c
noncomputable def signetlaw19_twin_G : Nat → Option CQ := tblQ []
theorem signetlaw19_twin_Gok : ∀ f C, signetlaw19_twin_G f = some C → ValidQ Try.prog f C := fun f C h => by cases h
noncomputable def signetlaw19_twin_L : Nat → SubQ := tblL []
theorem signetlaw19_twin_subs : subsOK signetlaw19_twin_L signetlaw19_twin_G 2 5 16 signetlaw19_twin_q := subs_of (show AllSub signetlaw19_twin_L signetlaw19_twin_G 2 5 16 [] from trivial)
theorem signetlaw19_twin_eq (c : api_Claims) (R : Type) (k : SV → List SB → Option R) :
    fnQ signetlaw19_twin_L signetlaw19_twin_G 5 16 signetlaw19_twin_q [.cell 2 (some 15)] [.c (.agg [.own 0, .val (.string c.iss), .val (.bool c.hasIss), .val (.string c.sub), .val (.bool c.hasSub), .own 1, .val (.bool c.hasAud), .val (.string c.jti), .val (.bool c.hasJti), .val (.bool c.exp_.has), .val (.int .i64 c.exp_.at_), .val (.bool c.nbf.has), .val (.int .i64 c.nbf.at_), .val (.bool c.iat.has), .val (.int .i64 c.iat.at_)])] [.view .node c.value, .view .str c.aud] k = (signetlaw19_twin_s c).bind fun r => k (.c (.agg [.own 2, .val (.string r.iss), .val (.bool r.hasIss), .val (.string r.sub), .val (.bool r.hasSub), .own 3, .val (.bool r.hasAud), .val (.string r.jti), .val (.bool r.hasJti), .val (.bool r.exp_.has), .val (.int .i64 r.exp_.at_), .val (.bool r.nbf.has), .val (.int .i64 r.nbf.at_), .val (.bool r.iat.has), .val (.int .i64 r.iat.at_)])) [.view .node c.value, .view .str c.aud, .row .node 40 r.value, .row .str 9 r.aud] := by
  simp only [signetlaw19_twin_s, -eq_self, bind_cond, bind_gd, Option.bind_assoc, Option.bind_some, Sum.elim_inl, Sum.elim_inr, bind_elim]
  kernel_rfl
def signetlaw19_twin_da := (dCons (dVC (dCA (dCons (dO 0) (dCons dS (dCons dB (dCons dS (dCons dB (dCons (dO 1) (dCons dB (dCons dS (dCons dB (dCons dB (dCons (dI .i64) (dCons dB (dCons (dI .i64) (dCons dB (dCons (dI .i64) dNil))))))))))))))))) dNil)
def signetlaw19_twin_db := (dCons (dView .node) (dCons (dView .str) dNil))
noncomputable def signetlaw19_twin_c : CS := fun args hp R k => (Dec.d signetlaw19_twin_da args).bind fun x => (Dec.d signetlaw19_twin_db hp).bind fun y => (signetlaw19_twin_s (⟨y.1, x.1.2.1, x.1.2.2.1, x.1.2.2.2.1, x.1.2.2.2.2.1, y.2.1, x.1.2.2.2.2.2.2.1, x.1.2.2.2.2.2.2.2.1, x.1.2.2.2.2.2.2.2.2.1, (⟨x.1.2.2.2.2.2.2.2.2.2.1, x.1.2.2.2.2.2.2.2.2.2.2.1⟩ : api_Time), (⟨x.1.2.2.2.2.2.2.2.2.2.2.2.1, x.1.2.2.2.2.2.2.2.2.2.2.2.2.1⟩ : api_Time), (⟨x.1.2.2.2.2.2.2.2.2.2.2.2.2.2.1, x.1.2.2.2.2.2.2.2.2.2.2.2.2.2.2.1⟩ : api_Time)⟩ : api_Claims)).bind fun r => k (.c (.agg [.own 2, .val (.string r.iss), .val (.bool r.hasIss), .val (.string r.sub), .val (.bool r.hasSub), .own 3, .val (.bool r.hasAud), .val (.string r.jti), .val (.bool r.hasJti), .val (.bool r.exp_.has), .val (.int .i64 r.exp_.at_), .val (.bool r.nbf.has), .val (.int .i64 r.nbf.at_), .val (.bool r.iat.has), .val (.int .i64 r.iat.at_)])) [.view .node y.1, .view .str y.2.1, .row .node 40 r.value, .row .str 9 r.aud]
theorem signetlaw19_twin_val : ValidS Try.prog 11 signetlaw19_twin_c :=
  val_ok signetlaw19_twin_chk 5 signetlaw19_twin_Gok signetlaw19_twin_da signetlaw19_twin_db 2 (fun x y R k => (signetlaw19_twin_s (⟨y.1, x.1.2.1, x.1.2.2.1, x.1.2.2.2.1, x.1.2.2.2.2.1, y.2.1, x.1.2.2.2.2.2.2.1, x.1.2.2.2.2.2.2.2.1, x.1.2.2.2.2.2.2.2.2.1, (⟨x.1.2.2.2.2.2.2.2.2.2.1, x.1.2.2.2.2.2.2.2.2.2.2.1⟩ : api_Time), (⟨x.1.2.2.2.2.2.2.2.2.2.2.2.1, x.1.2.2.2.2.2.2.2.2.2.2.2.2.1⟩ : api_Time), (⟨x.1.2.2.2.2.2.2.2.2.2.2.2.2.2.1, x.1.2.2.2.2.2.2.2.2.2.2.2.2.2.2.1⟩ : api_Time)⟩ : api_Claims)).bind fun r => k (.c (.agg [.own 2, .val (.string r.iss), .val (.bool r.hasIss), .val (.string r.sub), .val (.bool r.hasSub), .own 3, .val (.bool r.hasAud), .val (.string r.jti), .val (.bool r.hasJti), .val (.bool r.exp_.has), .val (.int .i64 r.exp_.at_), .val (.bool r.nbf.has), .val (.int .i64 r.nbf.at_), .val (.bool r.iat.has), .val (.int .i64 r.iat.at_)])) [.view .node y.1, .view .str y.2.1, .row .node 40 r.value, .row .str 9 r.aud]) (by kernel_rfl)
    (fun x y R k => by simp only [Option.bind_assoc, Option.bind_some]) (fun x => Nat.le_of_ble_eq_true rfl) (fun y => rfl) signetlaw19_twin_subs fun x y => signetlaw19_twin_eq (⟨y.1, x.1.2.1, x.1.2.2.1, x.1.2.2.2.1, x.1.2.2.2.2.1, y.2.1, x.1.2.2.2.2.2.2.1, x.1.2.2.2.2.2.2.2.1, x.1.2.2.2.2.2.2.2.2.1, (⟨x.1.2.2.2.2.2.2.2.2.2.1, x.1.2.2.2.2.2.2.2.2.2.2.1⟩ : api_Time), (⟨x.1.2.2.2.2.2.2.2.2.2.2.2.1, x.1.2.2.2.2.2.2.2.2.2.2.2.2.1⟩ : api_Time), (⟨x.1.2.2.2.2.2.2.2.2.2.2.2.2.2.1, x.1.2.2.2.2.2.2.2.2.2.2.2.2.2.2.1⟩ : api_Time)⟩ : api_Claims) _ _
noncomputable def signetlaw19_twin_w : CQ := prepQ [(0, some 0, some (.node, 40)), (0, some 5, some (.str, 9))] (liftQ [false, false] signetlaw19_twin_c)
theorem signetlaw19_twin_ok : ValidQ Try.prog 11 signetlaw19_twin_w := prep_loud signetlaw19_twin_val

/-! ### signet/signetlaw19.roomy -/
def signetlaw19_roomy_b0 : IQ :=
  (.seq
  (.regT 0
    (.one ⟨(some 17), .faddr 5 (.t 3), none⟩
    (.one ⟨(some 18), .load none (.t 17), none⟩
    (.one ⟨(some 21), .faddr 5 (.t 1), none⟩
    (.alt ⟨(some 19), .bslice 9 1 2 [.string ⟨#[]⟩] [(0, (.v (.string ⟨#[109, 97, 114, 107]⟩))), (1, (.v (.string ⟨#[109, 97, 114, 107]⟩)))], none⟩
      (.alt ⟨(some 20), .append 9 1 16 [.string ⟨#[]⟩] (.t 18) (.t 19), none⟩
        (.alt ⟨(some 22), .load none (.t 21), none⟩
          (.one ⟨(some 23), .len (.t 22), none⟩
          (.one ⟨(some 24), .sub (some 1) (.t 20) (some (.v (.int .i64 0))) (some (.t 23)), none⟩
          (.one ⟨(some 25), .faddr 5 (.t 3), none⟩
          (.one ⟨none, .store 1 (.t 25) (.t 24), none⟩
          .fin))))
        .stop)
      (.alt ⟨(some 22), .load none (.t 21), none⟩
        (.one ⟨(some 23), .len (.t 22), none⟩
        (.one ⟨(some 20), .append 9 1 16 [.string ⟨#[]⟩] (.t 18) (.t 19), none⟩
        (.one ⟨(some 24), .sub (some 1) (.t 20) (some (.v (.int .i64 0))) (some (.t 23)), none⟩
        (.one ⟨(some 25), .faddr 5 (.t 3), none⟩
        (.one ⟨none, .store 1 (.t 25) (.t 24), none⟩
        .fin)))))
      .stop))
    (.alt ⟨(some 22), .load none (.t 21), none⟩
      (.one ⟨(some 23), .len (.t 22), none⟩
      (.one ⟨(some 19), .bslice 9 1 2 [.string ⟨#[]⟩] [(0, (.v (.string ⟨#[109, 97, 114, 107]⟩))), (1, (.v (.string ⟨#[109, 97, 114, 107]⟩)))], none⟩
      (.one ⟨(some 20), .append 9 1 16 [.string ⟨#[]⟩] (.t 18) (.t 19), none⟩
      (.one ⟨(some 24), .sub (some 1) (.t 20) (some (.v (.int .i64 0))) (some (.t 23)), none⟩
      (.one ⟨(some 25), .faddr 5 (.t 3), none⟩
      (.one ⟨none, .store 1 (.t 25) (.t 24), none⟩
      .fin))))))
    .stop))))))
  (.seq
  (.reg 0 none [
    ⟨(some 26), .load (some 15) (.t 3), none⟩,
    ⟨none, .store 15 (.t 2) (.t 26), none⟩])
  (.canon [(2, some 0, .node, 40), (2, some 5, .str, 9)] [2] .ret)))
def signetlaw19_roomy_q : IQ :=
  (.seq
  (.reg 2 none [
    ⟨(some 1), .box 27 15 (.t 0), none⟩,
    ⟨(some 2), .alloc 27 [.slice none 0 0, .string ⟨#[]⟩, .bool false, .string ⟨#[]⟩, .bool false, .slice none 0 0, .bool false, .string ⟨#[]⟩, .bool false, .bool false, .int .i64 0, .bool false, .int .i64 0, .bool false, .int .i64 0], none⟩])
  (.seq
  (.reg 0 none [
    ⟨(some 4), .load (some 15) (.t 1), none⟩,
    ⟨(some 5), .call 11 [(.t 4)], none⟩,
    ⟨(some 3), .alloc 27 [.slice none 0 0, .string ⟨#[]⟩, .bool false, .string ⟨#[]⟩, .bool false, .slice none 0 0, .bool false, .string ⟨#[]⟩, .bool false, .bool false, .int .i64 0, .bool false, .int .i64 0, .bool false, .int .i64 0], none⟩,
    ⟨none, .store 15 (.t 3) (.t 5), none⟩])
  (.seq
  (.regT 0
    (.one ⟨(some 6), .faddr 0 (.t 3), none⟩
    (.one ⟨(some 7), .load none (.t 6), none⟩
    (.one ⟨(some 8), .build [.int .i64 0, .string ⟨#[]⟩, .string ⟨#[]⟩, .bool false, .int .i64 0, .int .i64 0] [(2, 1, (.v (.string ⟨#[109, 97, 114, 107]⟩)))], none⟩
    (.one ⟨(some 9), .build [.int .i64 0, .string ⟨#[]⟩, .string ⟨#[]⟩, .bool false, .int .i64 0, .int .i64 0] [(2, 1, (.v (.string ⟨#[109, 97, 114, 107]⟩)))], none⟩
    (.one ⟨(some 12), .faddr 0 (.t 1), none⟩
    (.alt ⟨(some 10), .bslice 40 6 2 [.int .i64 0, .string ⟨#[]⟩, .string ⟨#[]⟩, .bool false, .int .i64 0, .int .i64 0] [(0, (.t 8)), (1, (.t 9))], none⟩
      (.alt ⟨(some 11), .append 40 6 64 [.int .i64 0, .string ⟨#[]⟩, .string ⟨#[]⟩, .bool false, .int .i64 0, .int .i64 0] (.t 7) (.t 10), none⟩
        (.alt ⟨(some 13), .load none (.t 12), none⟩
          (.one ⟨(some 14), .len (.t 13), none⟩
          (.one ⟨(some 15), .sub (some 6) (.t 11) (some (.v (.int .i64 0))) (some (.t 14)), none⟩
          (.one ⟨(some 16), .faddr 0 (.t 3), none⟩
          (.one ⟨none, .store 1 (.t 16) (.t 15), none⟩
          .fin))))
        .stop)
      (.alt ⟨(some 13), .load none (.t 12), none⟩
        (.one ⟨(some 14), .len (.t 13), none⟩
        (.one ⟨(some 11), .append 40 6 64 [.int .i64 0, .string ⟨#[]⟩, .string ⟨#[]⟩, .bool false, .int .i64 0, .int .i64 0] (.t 7) (.t 10), none⟩
        (.one ⟨(some 15), .sub (some 6) (.t 11) (some (.v (.int .i64 0))) (some (.t 14)), none⟩
        (.one ⟨(some 16), .faddr 0 (.t 3), none⟩
        (.one ⟨none, .store 1 (.t 16) (.t 15), none⟩
        .fin)))))
      .stop))
    (.alt ⟨(some 13), .load none (.t 12), none⟩
      (.one ⟨(some 14), .len (.t 13), none⟩
      (.one ⟨(some 10), .bslice 40 6 2 [.int .i64 0, .string ⟨#[]⟩, .string ⟨#[]⟩, .bool false, .int .i64 0, .int .i64 0] [(0, (.t 8)), (1, (.t 9))], none⟩
      (.one ⟨(some 11), .append 40 6 64 [.int .i64 0, .string ⟨#[]⟩, .string ⟨#[]⟩, .bool false, .int .i64 0, .int .i64 0] (.t 7) (.t 10), none⟩
      (.one ⟨(some 15), .sub (some 6) (.t 11) (some (.v (.int .i64 0))) (some (.t 14)), none⟩
      (.one ⟨(some 16), .faddr 0 (.t 3), none⟩
      (.one ⟨none, .store 1 (.t 16) (.t 15), none⟩
      .fin))))))
    .stop))))))))
  (.canon [] [1, 2, 3] (.sub 0 signetlaw19_roomy_b0)))))
theorem signetlaw19_roomy_chk : chk Try.prog 5 [15, 24] = some (signetlaw19_roomy_q.erase, [.cell 2 (some 15)], 27) := by kernel_rfl
noncomputable def signetlaw19_roomy_p0 (c_aud : List ByteArray) (d_Aud : List ByteArray) : Option (Nat × (List ByteArray)) :=
  gd (d_Aud.length + ([(⟨#[109, 97, 114, 107]⟩ : ByteArray), (⟨#[109, 97, 114, 107]⟩ : ByteArray)] : List ByteArray).length ≤ 9223372036854775807 ∧ (d_Aud.length + ([(⟨#[109, 97, 114, 107]⟩ : ByteArray), (⟨#[109, 97, 114, 107]⟩ : ByteArray)] : List ByteArray).length) * 16 ≤ 140737488355328) <|
  gd (0 ≤ (0 : Int) ∧ (0 : Int) ≤ (c_aud.length : Int) ∧ (c_aud.length : Int) ≤ (d_Aud ++ [(⟨#[109, 97, 114, 107]⟩ : ByteArray), (⟨#[109, 97, 114, 107]⟩ : ByteArray)]).length) <|
  some ((Int.toNat (c_aud.length : Int)), (d_Aud ++ [(⟨#[109, 97, 114, 107]⟩ : ByteArray), (⟨#[109, 97, 114, 107]⟩ : ByteArray)]))
noncomputable def signetlaw19_roomy_s (c : api_Claims) : Option (api_Claims × Nat × Nat) :=
  (signetlaw19_twin_s c).bind fun r1 =>
  gd (r1.value.length + ([(⟨(0 : Int), (⟨#[]⟩ : ByteArray), (⟨#[109, 97, 114, 107]⟩ : ByteArray), false, (0 : Int), (0 : Int)⟩ : Eng.Node), (⟨(0 : Int), (⟨#[]⟩ : ByteArray), (⟨#[109, 97, 114, 107]⟩ : ByteArray), false, (0 : Int), (0 : Int)⟩ : Eng.Node)] : List Eng.Node).length ≤ 9223372036854775807 ∧ (r1.value.length + ([(⟨(0 : Int), (⟨#[]⟩ : ByteArray), (⟨#[109, 97, 114, 107]⟩ : ByteArray), false, (0 : Int), (0 : Int)⟩ : Eng.Node), (⟨(0 : Int), (⟨#[]⟩ : ByteArray), (⟨#[109, 97, 114, 107]⟩ : ByteArray), false, (0 : Int), (0 : Int)⟩ : Eng.Node)] : List Eng.Node).length) * 64 ≤ 140737488355328) <|
  gd (0 ≤ (0 : Int) ∧ (0 : Int) ≤ (c.value.length : Int) ∧ (c.value.length : Int) ≤ (r1.value ++ [(⟨(0 : Int), (⟨#[]⟩ : ByteArray), (⟨#[109, 97, 114, 107]⟩ : ByteArray), false, (0 : Int), (0 : Int)⟩ : Eng.Node), (⟨(0 : Int), (⟨#[]⟩ : ByteArray), (⟨#[109, 97, 114, 107]⟩ : ByteArray), false, (0 : Int), (0 : Int)⟩ : Eng.Node)]).length) <|
  (signetlaw19_roomy_p0 c.aud r1.aud).bind fun o2 =>
  some ((⟨(r1.value ++ [(⟨(0 : Int), (⟨#[]⟩ : ByteArray), (⟨#[109, 97, 114, 107]⟩ : ByteArray), false, (0 : Int), (0 : Int)⟩ : Eng.Node), (⟨(0 : Int), (⟨#[]⟩ : ByteArray), (⟨#[109, 97, 114, 107]⟩ : ByteArray), false, (0 : Int), (0 : Int)⟩ : Eng.Node)]), r1.iss, r1.hasIss, r1.sub, r1.hasSub, o2.2, r1.hasAud, r1.jti, r1.hasJti, r1.exp_, r1.nbf, r1.iat⟩ : api_Claims), (Int.toNat (c.value.length : Int)), o2.1)
noncomputable def signetlaw19_roomy_G : Nat → Option CQ := tblQ [(11, signetlaw19_twin_w)]
theorem signetlaw19_roomy_Gok : ∀ f C, signetlaw19_roomy_G f = some C → ValidQ Try.prog f C := tblQ_valid ⟨signetlaw19_twin_ok, trivial⟩
def signetlaw19_roomy_d0 := (dQS (dCons (dSl 1 (dVC (dCO (dH 2 0)))) (dCons (dSl 2 (dVC (dCO (dH 3 0)))) (dCons (dSl 3 (dVC (dCO (dH 4 0)))) dNil))) (dCons (dView .node) (dCons (dView .str) (dCons (dCells 27 (dCons (dO 0) (dCons dS (dCons dB (dCons dS (dCons dB (dCons (dO 1) (dCons dB (dCons dS (dCons dB (dCons dB (dCons (dI .i64) (dCons dB (dCons (dI .i64) (dCons dB (dCons (dI .i64) dNil)))))))))))))))) (dCons (dCells 27 (dCons dNS (dCons dS (dCons dB (dCons dS (dCons dB (dCons dNS (dCons dB (dCons dS (dCons dB (dCons dB (dCons (dI .i64) (dCons dB (dCons (dI .i64) (dCons dB (dCons (dI .i64) dNil)))))))))))))))) (dCons (dCells 27 (dCons (dO 5) (dCons dS (dCons dB (dCons dS (dCons dB (dCons (dO 6) (dCons dB (dCons dS (dCons dB (dCons dB (dCons (dI .i64) (dCons dB (dCons (dI .i64) (dCons dB (dCons (dI .i64) dNil)))))))))))))))) (dCons (dPart0 7 6) (dCons (dRow .str 9) (dCons (dRow .node 40) dNil)))))))))
noncomputable def signetlaw19_roomy_l0 : SubQ := fun S R kn kx kr => (Dec.d signetlaw19_roomy_d0 S).bind fun x => (signetlaw19_roomy_p0 x.2.2.1 x.2.2.2.2.2.2.2.1).bind fun r => kr ⟨[(2, [], .c (.o (.hd 2 0)))], [], [.view .node x.2.1, .view .str x.2.2.1, .cells 27 [.own 3, .val (.string x.2.2.2.2.2.1.2.1), .val (.bool x.2.2.2.2.2.1.2.2.1), .val (.string x.2.2.2.2.2.1.2.2.2.1), .val (.bool x.2.2.2.2.2.1.2.2.2.2.1), .own 4, .val (.bool x.2.2.2.2.2.1.2.2.2.2.2.2.1), .val (.string x.2.2.2.2.2.1.2.2.2.2.2.2.2.1), .val (.bool x.2.2.2.2.2.1.2.2.2.2.2.2.2.2.1), .val (.bool x.2.2.2.2.2.1.2.2.2.2.2.2.2.2.2.1), .val (.int .i64 x.2.2.2.2.2.1.2.2.2.2.2.2.2.2.2.2.1), .val (.bool x.2.2.2.2.2.1.2.2.2.2.2.2.2.2.2.2.2.1), .val (.int .i64 x.2.2.2.2.2.1.2.2.2.2.2.2.2.2.2.2.2.2.1), .val (.bool x.2.2.2.2.2.1.2.2.2.2.2.2.2.2.2.2.2.2.2.1), .val (.int .i64 x.2.2.2.2.2.1.2.2.2.2.2.2.2.2.2.2.2.2.2.2.1)], .part 5 (0) x.2.2.2.2.2.2.1 6, .part 6 (0) r.1 1, .row .node 40 x.2.2.2.2.2.2.2.2.1, .row .str 9 r.2]⟩
noncomputable def signetlaw19_roomy_L : Nat → SubQ := tblL [(0, signetlaw19_roomy_l0)]
theorem signetlaw19_roomy_p0_eq (c_value : List Eng.Node) (c_aud : List ByteArray) (c_Iss : ByteArray) (c_HasIss : Bool) (c_Sub : ByteArray) (c_HasSub : Bool) (c_HasAud : Bool) (c_Jti : ByteArray) (c_HasJti : Bool) (c_Exp_Has : Bool) (c_Exp_At : Int) (c_Nbf_Has : Bool) (c_Nbf_At : Int) (c_Iat_Has : Bool) (c_Iat_At : Int) (res_Iss : ByteArray) (res_HasIss : Bool) (res_Sub : ByteArray) (res_HasSub : Bool) (res_HasAud : Bool) (res_Jti : ByteArray) (res_HasJti : Bool) (res_Exp_Has : Bool) (res_Exp_At : Int) (res_Nbf_Has : Bool) (res_Nbf_At : Int) (res_Iat_Has : Bool) (res_Iat_At : Int) (d_Iss : ByteArray) (d_HasIss : Bool) (d_Sub : ByteArray) (d_HasSub : Bool) (d_HasAud : Bool) (d_Jti : ByteArray) (d_HasJti : Bool) (d_Exp_Has : Bool) (d_Exp_At : Int) (d_Nbf_Has : Bool) (d_Nbf_At : Int) (d_Iat_Has : Bool) (d_Iat_At : Int) (d_Value_n : Nat) (d_Aud : List ByteArray) (h7 : List Eng.Node) (R : Type) (kn : QS → Option R) (kx : Nat → QS → Option R) (kr : QS → Option R) :
    Le ((signetlaw19_roomy_p0 c_aud d_Aud).bind fun r => kr ⟨[(2, [], .c (.o (.hd 2 0)))], [], [.view .node c_value, .view .str c_aud, .cells 27 [.own 3, .val (.string d_Iss), .val (.bool d_HasIss), .val (.string d_Sub), .val (.bool d_HasSub), .own 4, .val (.bool d_HasAud), .val (.string d_Jti), .val (.bool d_HasJti), .val (.bool d_Exp_Has), .val (.int .i64 d_Exp_At), .val (.bool d_Nbf_Has), .val (.int .i64 d_Nbf_At), .val (.bool d_Iat_Has), .val (.int .i64 d_Iat_At)], .part 5 (0) d_Value_n 6, .part 6 (0) r.1 1, .row .node 40 h7, .row .str 9 r.2]⟩) (interpQ signetlaw19_roomy_L signetlaw19_roomy_G 2 4 27 signetlaw19_roomy_b0 ⟨[(1, [], .c (.o (.hd 2 0))), (2, [], .c (.o (.hd 3 0))), (3, [], .c (.o (.hd 4 0)))], [], [.view .node c_value, .view .str c_aud, .cells 27 [.own 0, .val (.string c_Iss), .val (.bool c_HasIss), .val (.string c_Sub), .val (.bool c_HasSub), .own 1, .val (.bool c_HasAud), .val (.string c_Jti), .val (.bool c_HasJti), .val (.bool c_Exp_Has), .val (.int .i64 c_Exp_At), .val (.bool c_Nbf_Has), .val (.int .i64 c_Nbf_At), .val (.bool c_Iat_Has), .val (.int .i64 c_Iat_At)], .cells 27 [.val (.slice none 0 0), .val (.string res_Iss), .val (.bool res_HasIss), .val (.string res_Sub), .val (.bool res_HasSub), .val (.slice none 0 0), .val (.bool res_HasAud), .val (.string res_Jti), .val (.bool res_HasJti), .val (.bool res_Exp_Has), .val (.int .i64 res_Exp_At), .val (.bool res_Nbf_Has), .val (.int .i64 res_Nbf_At), .val (.bool res_Iat_Has), .val (.int .i64 res_Iat_At)], .cells 27 [.own 5, .val (.string d_Iss), .val (.bool d_HasIss), .val (.string d_Sub), .val (.bool d_HasSub), .own 6, .val (.bool d_HasAud), .val (.string d_Jti), .val (.bool d_HasJti), .val (.bool d_Exp_Has), .val (.int .i64 d_Exp_At), .val (.bool d_Nbf_Has), .val (.int .i64 d_Nbf_At), .val (.bool d_Iat_Has), .val (.int .i64 d_Iat_At)], .part 7 (0) d_Value_n 6, .row .str 9 d_Aud, .row .node 40 h7]⟩ kn kx kr) := by
  refine Le.trans (b :=
    all2 (
      all2 (
        gd (d_Aud.length + ([(⟨#[109, 97, 114, 107]⟩ : ByteArray), (⟨#[109, 97, 114, 107]⟩ : ByteArray)] : List ByteArray).length ≤ 9223372036854775807 ∧ (d_Aud.length + ([(⟨#[109, 97, 114, 107]⟩ : ByteArray), (⟨#[109, 97, 114, 107]⟩ : ByteArray)] : List ByteArray).length) * 16 ≤ 140737488355328) <|
        gd (0 ≤ (0 : Int) ∧ (0 : Int) ≤ (c_aud.length : Int) ∧ (c_aud.length : Int) ≤ (d_Aud ++ [(⟨#[109, 97, 114, 107]⟩ : ByteArray), (⟨#[109, 97, 114, 107]⟩ : ByteArray)]).length) <|
        (fun r => kr ⟨[(2, [], .c (.o (.hd 2 0)))], [], [.view .node c_value, .view .str c_aud, .cells 27 [.own 3, .val (.string d_Iss), .val (.bool d_HasIss), .val (.string d_Sub), .val (.bool d_HasSub), .own 4, .val (.bool d_HasAud), .val (.string d_Jti), .val (.bool d_HasJti), .val (.bool d_Exp_Has), .val (.int .i64 d_Exp_At), .val (.bool d_Nbf_Has), .val (.int .i64 d_Nbf_At), .val (.bool d_Iat_Has), .val (.int .i64 d_Iat_At)], .part 5 (0) d_Value_n 6, .part 6 (0) r.1 1, .row .node 40 h7, .row .str 9 r.2]⟩) ((Int.toNat (c_aud.length : Int)), (d_Aud ++ [(⟨#[109, 97, 114, 107]⟩ : ByteArray), (⟨#[109, 97, 114, 107]⟩ : ByteArray)]))) (
        gd (d_Aud.length + ([(⟨#[109, 97, 114, 107]⟩ : ByteArray), (⟨#[109, 97, 114, 107]⟩ : ByteArray)] : List ByteArray).length ≤ 9223372036854775807 ∧ (d_Aud.length + ([(⟨#[109, 97, 114, 107]⟩ : ByteArray), (⟨#[109, 97, 114, 107]⟩ : ByteArray)] : List ByteArray).length) * 16 ≤ 140737488355328) <|
        gd (0 ≤ (0 : Int) ∧ (0 : Int) ≤ (c_aud.length : Int) ∧ (c_aud.length : Int) ≤ (d_Aud ++ [(⟨#[109, 97, 114, 107]⟩ : ByteArray), (⟨#[109, 97, 114, 107]⟩ : ByteArray)]).length) <|
        (fun r => kr ⟨[(2, [], .c (.o (.hd 2 0)))], [], [.view .node c_value, .view .str c_aud, .cells 27 [.own 3, .val (.string d_Iss), .val (.bool d_HasIss), .val (.string d_Sub), .val (.bool d_HasSub), .own 4, .val (.bool d_HasAud), .val (.string d_Jti), .val (.bool d_HasJti), .val (.bool d_Exp_Has), .val (.int .i64 d_Exp_At), .val (.bool d_Nbf_Has), .val (.int .i64 d_Nbf_At), .val (.bool d_Iat_Has), .val (.int .i64 d_Iat_At)], .part 5 (0) d_Value_n 6, .part 6 (0) r.1 1, .row .node 40 h7, .row .str 9 r.2]⟩) ((Int.toNat (c_aud.length : Int)), (d_Aud ++ [(⟨#[109, 97, 114, 107]⟩ : ByteArray), (⟨#[109, 97, 114, 107]⟩ : ByteArray)])))) (
      gd (d_Aud.length + ([(⟨#[109, 97, 114, 107]⟩ : ByteArray), (⟨#[109, 97, 114, 107]⟩ : ByteArray)] : List ByteArray).length ≤ 9223372036854775807 ∧ (d_Aud.length + ([(⟨#[109, 97, 114, 107]⟩ : ByteArray), (⟨#[109, 97, 114, 107]⟩ : ByteArray)] : List ByteArray).length) * 16 ≤ 140737488355328) <|
      gd (0 ≤ (0 : Int) ∧ (0 : Int) ≤ (c_aud.length : Int) ∧ (c_aud.length : Int) ≤ (d_Aud ++ [(⟨#[109, 97, 114, 107]⟩ : ByteArray), (⟨#[109, 97, 114, 107]⟩ : ByteArray)]).length) <|
      (fun r => kr ⟨[(2, [], .c (.o (.hd 2 0)))], [], [.view .node c_value, .view .str c_aud, .cells 27 [.own 3, .val (.string d_Iss), .val (.bool d_HasIss), .val (.string d_Sub), .val (.bool d_HasSub), .own 4, .val (.bool d_HasAud), .val (.string d_Jti), .val (.bool d_HasJti), .val (.bool d_Exp_Has), .val (.int .i64 d_Exp_At), .val (.bool d_Nbf_Has), .val (.int .i64 d_Nbf_At), .val (.bool d_Iat_Has), .val (.int .i64 d_Iat_At)], .part 5 (0) d_Value_n 6, .part 6 (0) r.1 1, .row .node 40 h7, .row .str 9 r.2]⟩) ((Int.toNat (c_aud.length : Int)), (d_Aud ++ [(⟨#[109, 97, 114, 107]⟩ : ByteArray), (⟨#[109, 97, 114, 107]⟩ : ByteArray)])))) ?_ (Le.of_eq (by kernel_rfl))
  unfold signetlaw19_roomy_p0
  repeat' (first | exact Le.refl _ | refine Le.gdb ?_ | refine Le.condb ?_ ?_ | refine Le.all2b ?_ ?_ | refine Le.bindb (fun _ => ?_) | refine Le.elimb (fun _ => ?_) (fun _ => ?_))
theorem signetlaw19_roomy_sub0 : SubOK signetlaw19_roomy_L signetlaw19_roomy_G 2 4 27 0 signetlaw19_roomy_b0 := sub_le signetlaw19_roomy_d0 (fun x R kn kx kr => (signetlaw19_roomy_p0 x.2.2.1 x.2.2.2.2.2.2.2.1).bind fun r => kr ⟨[(2, [], .c (.o (.hd 2 0)))], [], [.view .node x.2.1, .view .str x.2.2.1, .cells 27 [.own 3, .val (.string x.2.2.2.2.2.1.2.1), .val (.bool x.2.2.2.2.2.1.2.2.1), .val (.string x.2.2.2.2.2.1.2.2.2.1), .val (.bool x.2.2.2.2.2.1.2.2.2.2.1), .own 4, .val (.bool x.2.2.2.2.2.1.2.2.2.2.2.2.1), .val (.string x.2.2.2.2.2.1.2.2.2.2.2.2.2.1), .val (.bool x.2.2.2.2.2.1.2.2.2.2.2.2.2.2.1), .val (.bool x.2.2.2.2.2.1.2.2.2.2.2.2.2.2.2.1), .val (.int .i64 x.2.2.2.2.2.1.2.2.2.2.2.2.2.2.2.2.1), .val (.bool x.2.2.2.2.2.1.2.2.2.2.2.2.2.2.2.2.2.1), .val (.int .i64 x.2.2.2.2.2.1.2.2.2.2.2.2.2.2.2.2.2.2.1), .val (.bool x.2.2.2.2.2.1.2.2.2.2.2.2.2.2.2.2.2.2.2.1), .val (.int .i64 x.2.2.2.2.2.1.2.2.2.2.2.2.2.2.2.2.2.2.2.2.1)], .part 5 (0) x.2.2.2.2.2.2.1 6, .part 6 (0) r.1 1, .row .node 40 x.2.2.2.2.2.2.2.2.1, .row .str 9 r.2]⟩) (by kernel_rfl) fun x R kn kx kr => signetlaw19_roomy_p0_eq x.2.1 x.2.2.1 x.2.2.2.1.2.1 x.2.2.2.1.2.2.1 x.2.2.2.1.2.2.2.1 x.2.2.2.1.2.2.2.2.1 x.2.2.2.1.2.2.2.2.2.2.1 x.2.2.2.1.2.2.2.2.2.2.2.1 x.2.2.2.1.2.2.2.2.2.2.2.2.1 x.2.2.2.1.2.2.2.2.2.2.2.2.2.1 x.2.2.2.1.2.2.2.2.2.2.2.2.2.2.1 x.2.2.2.1.2.2.2.2.2.2.2.2.2.2.2.1 x.2.2.2.1.2.2.2.2.2.2.2.2.2.2.2.2.1 x.2.2.2.1.2.2.2.2.2.2.2.2.2.2.2.2.2.1 x.2.2.2.1.2.2.2.2.2.2.2.2.2.2.2.2.2.2.1 x.2.2.2.2.1.2.1 x.2.2.2.2.1.2.2.1 x.2.2.2.2.1.2.2.2.1 x.2.2.2.2.1.2.2.2.2.1 x.2.2.2.2.1.2.2.2.2.2.2.1 x.2.2.2.2.1.2.2.2.2.2.2.2.1 x.2.2.2.2.1.2.2.2.2.2.2.2.2.1 x.2.2.2.2.1.2.2.2.2.2.2.2.2.2.1 x.2.2.2.2.1.2.2.2.2.2.2.2.2.2.2.1 x.2.2.2.2.1.2.2.2.2.2.2.2.2.2.2.2.1 x.2.2.2.2.1.2.2.2.2.2.2.2.2.2.2.2.2.1 x.2.2.2.2.1.2.2.2.2.2.2.2.2.2.2.2.2.2.1 x.2.2.2.2.1.2.2.2.2.2.2.2.2.2.2.2.2.2.2.1 x.2.2.2.2.2.1.2.1 x.2.2.2.2.2.1.2.2.1 x.2.2.2.2.2.1.2.2.2.1 x.2.2.2.2.2.1.2.2.2.2.1 x.2.2.2.2.2.1.2.2.2.2.2.2.1 x.2.2.2.2.2.1.2.2.2.2.2.2.2.1 x.2.2.2.2.2.1.2.2.2.2.2.2.2.2.1 x.2.2.2.2.2.1.2.2.2.2.2.2.2.2.2.1 x.2.2.2.2.2.1.2.2.2.2.2.2.2.2.2.2.1 x.2.2.2.2.2.1.2.2.2.2.2.2.2.2.2.2.2.1 x.2.2.2.2.2.1.2.2.2.2.2.2.2.2.2.2.2.2.1 x.2.2.2.2.2.1.2.2.2.2.2.2.2.2.2.2.2.2.2.1 x.2.2.2.2.2.1.2.2.2.2.2.2.2.2.2.2.2.2.2.2.1 x.2.2.2.2.2.2.1 x.2.2.2.2.2.2.2.1 x.2.2.2.2.2.2.2.2.1 R kn kx kr
theorem signetlaw19_roomy_subs : subsOK signetlaw19_roomy_L signetlaw19_roomy_G 2 4 27 signetlaw19_roomy_q := subs_of (show AllSub signetlaw19_roomy_L signetlaw19_roomy_G 2 4 27 [(0, signetlaw19_roomy_b0)] from ⟨signetlaw19_roomy_sub0, trivial⟩)
theorem signetlaw19_roomy_eq (c : api_Claims) (R : Type) (k : SV → List SB → Option R) :
    Le ((signetlaw19_roomy_s c).bind fun r => k (.c (.agg [.own 2, .val (.string r.1.iss), .val (.bool r.1.hasIss), .val (.string r.1.sub), .val (.bool r.1.hasSub), .own 3, .val (.bool r.1.hasAud), .val (.string r.1.jti), .val (.bool r.1.hasJti), .val (.bool r.1.exp_.has), .val (.int .i64 r.1.exp_.at_), .val (.bool r.1.nbf.has), .val (.int .i64 r.1.nbf.at_), .val (.bool r.1.iat.has), .val (.int .i64 r.1.iat.at_)])) [.view .node c.value, .view .str c.aud, .part 4 (0) r.2.1 6, .part 5 (0) r.2.2 1, .row .node 40 r.1.value, .row .str 9 r.1.aud]) (fnQ signetlaw19_roomy_L signetlaw19_roomy_G 4 27 signetlaw19_roomy_q [.cell 2 (some 15)] [.c (.agg [.own 0, .val (.string c.iss), .val (.bool c.hasIss), .val (.string c.sub), .val (.bool c.hasSub), .own 1, .val (.bool c.hasAud), .val (.string c.jti), .val (.bool c.hasJti), .val (.bool c.exp_.has), .val (.int .i64 c.exp_.at_), .val (.bool c.nbf.has), .val (.int .i64 c.nbf.at_), .val (.bool c.iat.has), .val (.int .i64 c.iat.at_)])] [.view .node c.value, .view .str c.aud] k) := by
  refine Le.trans (b :=
    (signetlaw19_twin_s c).bind fun r1 =>
    all2 (
      all2 (
        gd (r1.value.length + ([(⟨(0 : Int), (⟨#[]⟩ : ByteArray), (⟨#[109, 97, 114, 107]⟩ : ByteArray), false, (0 : Int), (0 : Int)⟩ : Eng.Node), (⟨(0 : Int), (⟨#[]⟩ : ByteArray), (⟨#[109, 97, 114, 107]⟩ : ByteArray), false, (0 : Int), (0 : Int)⟩ : Eng.Node)] : List Eng.Node).length ≤ 9223372036854775807 ∧ (r1.value.length + ([(⟨(0 : Int), (⟨#[]⟩ : ByteArray), (⟨#[109, 97, 114, 107]⟩ : ByteArray), false, (0 : Int), (0 : Int)⟩ : Eng.Node), (⟨(0 : Int), (⟨#[]⟩ : ByteArray), (⟨#[109, 97, 114, 107]⟩ : ByteArray), false, (0 : Int), (0 : Int)⟩ : Eng.Node)] : List Eng.Node).length) * 64 ≤ 140737488355328) <|
        gd (0 ≤ (0 : Int) ∧ (0 : Int) ≤ (c.value.length : Int) ∧ (c.value.length : Int) ≤ (r1.value ++ [(⟨(0 : Int), (⟨#[]⟩ : ByteArray), (⟨#[109, 97, 114, 107]⟩ : ByteArray), false, (0 : Int), (0 : Int)⟩ : Eng.Node), (⟨(0 : Int), (⟨#[]⟩ : ByteArray), (⟨#[109, 97, 114, 107]⟩ : ByteArray), false, (0 : Int), (0 : Int)⟩ : Eng.Node)]).length) <|
        (signetlaw19_roomy_p0 c.aud r1.aud).bind fun o2 =>
        (fun r => k (.c (.agg [.own 2, .val (.string r.1.iss), .val (.bool r.1.hasIss), .val (.string r.1.sub), .val (.bool r.1.hasSub), .own 3, .val (.bool r.1.hasAud), .val (.string r.1.jti), .val (.bool r.1.hasJti), .val (.bool r.1.exp_.has), .val (.int .i64 r.1.exp_.at_), .val (.bool r.1.nbf.has), .val (.int .i64 r.1.nbf.at_), .val (.bool r.1.iat.has), .val (.int .i64 r.1.iat.at_)])) [.view .node c.value, .view .str c.aud, .part 4 (0) r.2.1 6, .part 5 (0) r.2.2 1, .row .node 40 r.1.value, .row .str 9 r.1.aud]) ((⟨(r1.value ++ [(⟨(0 : Int), (⟨#[]⟩ : ByteArray), (⟨#[109, 97, 114, 107]⟩ : ByteArray), false, (0 : Int), (0 : Int)⟩ : Eng.Node), (⟨(0 : Int), (⟨#[]⟩ : ByteArray), (⟨#[109, 97, 114, 107]⟩ : ByteArray), false, (0 : Int), (0 : Int)⟩ : Eng.Node)]), r1.iss, r1.hasIss, r1.sub, r1.hasSub, o2.2, r1.hasAud, r1.jti, r1.hasJti, r1.exp_, r1.nbf, r1.iat⟩ : api_Claims), (Int.toNat (c.value.length : Int)), o2.1)) (
        gd (r1.value.length + ([(⟨(0 : Int), (⟨#[]⟩ : ByteArray), (⟨#[109, 97, 114, 107]⟩ : ByteArray), false, (0 : Int), (0 : Int)⟩ : Eng.Node), (⟨(0 : Int), (⟨#[]⟩ : ByteArray), (⟨#[109, 97, 114, 107]⟩ : ByteArray), false, (0 : Int), (0 : Int)⟩ : Eng.Node)] : List Eng.Node).length ≤ 9223372036854775807 ∧ (r1.value.length + ([(⟨(0 : Int), (⟨#[]⟩ : ByteArray), (⟨#[109, 97, 114, 107]⟩ : ByteArray), false, (0 : Int), (0 : Int)⟩ : Eng.Node), (⟨(0 : Int), (⟨#[]⟩ : ByteArray), (⟨#[109, 97, 114, 107]⟩ : ByteArray), false, (0 : Int), (0 : Int)⟩ : Eng.Node)] : List Eng.Node).length) * 64 ≤ 140737488355328) <|
        gd (0 ≤ (0 : Int) ∧ (0 : Int) ≤ (c.value.length : Int) ∧ (c.value.length : Int) ≤ (r1.value ++ [(⟨(0 : Int), (⟨#[]⟩ : ByteArray), (⟨#[109, 97, 114, 107]⟩ : ByteArray), false, (0 : Int), (0 : Int)⟩ : Eng.Node), (⟨(0 : Int), (⟨#[]⟩ : ByteArray), (⟨#[109, 97, 114, 107]⟩ : ByteArray), false, (0 : Int), (0 : Int)⟩ : Eng.Node)]).length) <|
        (signetlaw19_roomy_p0 c.aud r1.aud).bind fun o3 =>
        (fun r => k (.c (.agg [.own 2, .val (.string r.1.iss), .val (.bool r.1.hasIss), .val (.string r.1.sub), .val (.bool r.1.hasSub), .own 3, .val (.bool r.1.hasAud), .val (.string r.1.jti), .val (.bool r.1.hasJti), .val (.bool r.1.exp_.has), .val (.int .i64 r.1.exp_.at_), .val (.bool r.1.nbf.has), .val (.int .i64 r.1.nbf.at_), .val (.bool r.1.iat.has), .val (.int .i64 r.1.iat.at_)])) [.view .node c.value, .view .str c.aud, .part 4 (0) r.2.1 6, .part 5 (0) r.2.2 1, .row .node 40 r.1.value, .row .str 9 r.1.aud]) ((⟨(r1.value ++ [(⟨(0 : Int), (⟨#[]⟩ : ByteArray), (⟨#[109, 97, 114, 107]⟩ : ByteArray), false, (0 : Int), (0 : Int)⟩ : Eng.Node), (⟨(0 : Int), (⟨#[]⟩ : ByteArray), (⟨#[109, 97, 114, 107]⟩ : ByteArray), false, (0 : Int), (0 : Int)⟩ : Eng.Node)]), r1.iss, r1.hasIss, r1.sub, r1.hasSub, o3.2, r1.hasAud, r1.jti, r1.hasJti, r1.exp_, r1.nbf, r1.iat⟩ : api_Claims), (Int.toNat (c.value.length : Int)), o3.1))) (
      gd (r1.value.length + ([(⟨(0 : Int), (⟨#[]⟩ : ByteArray), (⟨#[109, 97, 114, 107]⟩ : ByteArray), false, (0 : Int), (0 : Int)⟩ : Eng.Node), (⟨(0 : Int), (⟨#[]⟩ : ByteArray), (⟨#[109, 97, 114, 107]⟩ : ByteArray), false, (0 : Int), (0 : Int)⟩ : Eng.Node)] : List Eng.Node).length ≤ 9223372036854775807 ∧ (r1.value.length + ([(⟨(0 : Int), (⟨#[]⟩ : ByteArray), (⟨#[109, 97, 114, 107]⟩ : ByteArray), false, (0 : Int), (0 : Int)⟩ : Eng.Node), (⟨(0 : Int), (⟨#[]⟩ : ByteArray), (⟨#[109, 97, 114, 107]⟩ : ByteArray), false, (0 : Int), (0 : Int)⟩ : Eng.Node)] : List Eng.Node).length) * 64 ≤ 140737488355328) <|
      gd (0 ≤ (0 : Int) ∧ (0 : Int) ≤ (c.value.length : Int) ∧ (c.value.length : Int) ≤ (r1.value ++ [(⟨(0 : Int), (⟨#[]⟩ : ByteArray), (⟨#[109, 97, 114, 107]⟩ : ByteArray), false, (0 : Int), (0 : Int)⟩ : Eng.Node), (⟨(0 : Int), (⟨#[]⟩ : ByteArray), (⟨#[109, 97, 114, 107]⟩ : ByteArray), false, (0 : Int), (0 : Int)⟩ : Eng.Node)]).length) <|
      (signetlaw19_roomy_p0 c.aud r1.aud).bind fun o4 =>
      (fun r => k (.c (.agg [.own 2, .val (.string r.1.iss), .val (.bool r.1.hasIss), .val (.string r.1.sub), .val (.bool r.1.hasSub), .own 3, .val (.bool r.1.hasAud), .val (.string r.1.jti), .val (.bool r.1.hasJti), .val (.bool r.1.exp_.has), .val (.int .i64 r.1.exp_.at_), .val (.bool r.1.nbf.has), .val (.int .i64 r.1.nbf.at_), .val (.bool r.1.iat.has), .val (.int .i64 r.1.iat.at_)])) [.view .node c.value, .view .str c.aud, .part 4 (0) r.2.1 6, .part 5 (0) r.2.2 1, .row .node 40 r.1.value, .row .str 9 r.1.aud]) ((⟨(r1.value ++ [(⟨(0 : Int), (⟨#[]⟩ : ByteArray), (⟨#[109, 97, 114, 107]⟩ : ByteArray), false, (0 : Int), (0 : Int)⟩ : Eng.Node), (⟨(0 : Int), (⟨#[]⟩ : ByteArray), (⟨#[109, 97, 114, 107]⟩ : ByteArray), false, (0 : Int), (0 : Int)⟩ : Eng.Node)]), r1.iss, r1.hasIss, r1.sub, r1.hasSub, o4.2, r1.hasAud, r1.jti, r1.hasJti, r1.exp_, r1.nbf, r1.iat⟩ : api_Claims), (Int.toNat (c.value.length : Int)), o4.1))) ?_ (Le.of_eq (by kernel_rfl))
  unfold signetlaw19_roomy_s
  repeat' (first | exact Le.refl _ | refine Le.gdb ?_ | refine Le.condb ?_ ?_ | refine Le.all2b ?_ ?_ | refine Le.bindb (fun _ => ?_) | refine Le.elimb (fun _ => ?_) (fun _ => ?_))
def signetlaw19_roomy_da := (dCons (dVC (dCA (dCons (dO 0) (dCons dS (dCons dB (dCons dS (dCons dB (dCons (dO 1) (dCons dB (dCons dS (dCons dB (dCons dB (dCons (dI .i64) (dCons dB (dCons (dI .i64) (dCons dB (dCons (dI .i64) dNil))))))))))))))))) dNil)
def signetlaw19_roomy_db := (dCons (dView .node) (dCons (dView .str) dNil))
noncomputable def signetlaw19_roomy_c : CS := fun args hp R k => (Dec.d signetlaw19_roomy_da args).bind fun x => (Dec.d signetlaw19_roomy_db hp).bind fun y => (signetlaw19_roomy_s (⟨y.1, x.1.2.1, x.1.2.2.1, x.1.2.2.2.1, x.1.2.2.2.2.1, y.2.1, x.1.2.2.2.2.2.2.1, x.1.2.2.2.2.2.2.2.1, x.1.2.2.2.2.2.2.2.2.1, (⟨x.1.2.2.2.2.2.2.2.2.2.1, x.1.2.2.2.2.2.2.2.2.2.2.1⟩ : api_Time), (⟨x.1.2.2.2.2.2.2.2.2.2.2.2.1, x.1.2.2.2.2.2.2.2.2.2.2.2.2.1⟩ : api_Time), (⟨x.1.2.2.2.2.2.2.2.2.2.2.2.2.2.1, x.1.2.2.2.2.2.2.2.2.2.2.2.2.2.2.1⟩ : api_Time)⟩ : api_Claims)).bind fun r => k (.c (.agg [.own 2, .val (.string r.1.iss), .val (.bool r.1.hasIss), .val (.string r.1.sub), .val (.bool r.1.hasSub), .own 3, .val (.bool r.1.hasAud), .val (.string r.1.jti), .val (.bool r.1.hasJti), .val (.bool r.1.exp_.has), .val (.int .i64 r.1.exp_.at_), .val (.bool r.1.nbf.has), .val (.int .i64 r.1.nbf.at_), .val (.bool r.1.iat.has), .val (.int .i64 r.1.iat.at_)])) [.view .node y.1, .view .str y.2.1, .part 4 (0) r.2.1 6, .part 5 (0) r.2.2 1, .row .node 40 r.1.value, .row .str 9 r.1.aud]
theorem signetlaw19_roomy_val : ValidS Try.prog 5 signetlaw19_roomy_c :=
  val_le signetlaw19_roomy_chk 4 signetlaw19_roomy_Gok signetlaw19_roomy_da signetlaw19_roomy_db 2 (fun x y R k => (signetlaw19_roomy_s (⟨y.1, x.1.2.1, x.1.2.2.1, x.1.2.2.2.1, x.1.2.2.2.2.1, y.2.1, x.1.2.2.2.2.2.2.1, x.1.2.2.2.2.2.2.2.1, x.1.2.2.2.2.2.2.2.2.1, (⟨x.1.2.2.2.2.2.2.2.2.2.1, x.1.2.2.2.2.2.2.2.2.2.2.1⟩ : api_Time), (⟨x.1.2.2.2.2.2.2.2.2.2.2.2.1, x.1.2.2.2.2.2.2.2.2.2.2.2.2.1⟩ : api_Time), (⟨x.1.2.2.2.2.2.2.2.2.2.2.2.2.2.1, x.1.2.2.2.2.2.2.2.2.2.2.2.2.2.2.1⟩ : api_Time)⟩ : api_Claims)).bind fun r => k (.c (.agg [.own 2, .val (.string r.1.iss), .val (.bool r.1.hasIss), .val (.string r.1.sub), .val (.bool r.1.hasSub), .own 3, .val (.bool r.1.hasAud), .val (.string r.1.jti), .val (.bool r.1.hasJti), .val (.bool r.1.exp_.has), .val (.int .i64 r.1.exp_.at_), .val (.bool r.1.nbf.has), .val (.int .i64 r.1.nbf.at_), .val (.bool r.1.iat.has), .val (.int .i64 r.1.iat.at_)])) [.view .node y.1, .view .str y.2.1, .part 4 (0) r.2.1 6, .part 5 (0) r.2.2 1, .row .node 40 r.1.value, .row .str 9 r.1.aud]) (by kernel_rfl)
    (fun x y R k => by simp only [Option.bind_assoc, Option.bind_some]) (fun x => Nat.le_of_ble_eq_true rfl) (fun y => rfl) signetlaw19_roomy_subs fun x y => signetlaw19_roomy_eq (⟨y.1, x.1.2.1, x.1.2.2.1, x.1.2.2.2.1, x.1.2.2.2.2.1, y.2.1, x.1.2.2.2.2.2.2.1, x.1.2.2.2.2.2.2.2.1, x.1.2.2.2.2.2.2.2.2.1, (⟨x.1.2.2.2.2.2.2.2.2.2.1, x.1.2.2.2.2.2.2.2.2.2.2.1⟩ : api_Time), (⟨x.1.2.2.2.2.2.2.2.2.2.2.2.1, x.1.2.2.2.2.2.2.2.2.2.2.2.2.1⟩ : api_Time), (⟨x.1.2.2.2.2.2.2.2.2.2.2.2.2.2.1, x.1.2.2.2.2.2.2.2.2.2.2.2.2.2.2.1⟩ : api_Time)⟩ : api_Claims) (SV × List SB) (fun v hp' => some (v, hp'))
noncomputable def signetlaw19_roomy_w : CQ := prepQ [(0, some 0, some (.node, 40)), (0, some 5, some (.str, 9))] (liftQ [false, false] signetlaw19_roomy_c)
theorem signetlaw19_roomy_ok : ValidQ Try.prog 5 signetlaw19_roomy_w := prep_loud signetlaw19_roomy_val

/-! ### slices.Index[[]string,string] -/
def slices_Index_string_string_b0 : IQ :=
  (.loop [0, 1, 7, 8]
    (.seq
    (.reg 9 none [
      ⟨(some 9), .bin false .lss (.t 8) (.t 7), none⟩])
    (.seq
    (.cond (.t 9)
      .skip
      (.canon [] [] (.exit 0)))
    (.seq
    (.block 1
      (.seq
      (.reg 5 none [
        ⟨(some 10), .mv (.t 8), none⟩,
        ⟨(some 5), .mv (.t 10), none⟩])
      (.seq
      (.reg 16 none [
        ⟨(some 11), .mv (.t 1), none⟩,
        ⟨(some 12), .mv (.t 0), none⟩,
        ⟨(some 13), .mv (.t 5), none⟩,
        ⟨(some 14), .iaddr 1 (.t 12) (.t 13), none⟩,
        ⟨(some 15), .load none (.t 14), none⟩,
        ⟨(some 16), .bin false .eql (.t 11) (.t 15), none⟩])
      (.cond (.t 16)
        (.seq
        (.reg 4 none [
          ⟨(some 17), .mv (.t 5), none⟩,
          ⟨(some 4), .mv (.t 17), none⟩])
        (.canon [] [4] .ret))
        .skip))))
    (.reg 8 none [
      ⟨(some 18), .bin false .add (.t 8) (.v (.int .i64 1)), none⟩,
      ⟨(some 8), .mv (.t 18), none⟩])))))
def slices_Index_string_string_q : IQ :=
  (.seq
  (.reg 4 none [
    ⟨(some 4), .mv (.v (.int .i64 0)), none⟩])
  (.seq
  (.seq
  (.reg 8 none [
    ⟨(some 6), .mv (.t 0), none⟩,
    ⟨(some 7), .len (.t 6), none⟩,
    ⟨(some 8), .mv (.v (.int .i64 0)), none⟩])
  (.block 0
    (.canon [] [0, 1, 7, 8] (.sub 0 slices_Index_string_string_b0))))
  (.seq
  (.reg 4 none [
    ⟨(some 4), .mv (.v (.int .i64 (-1))), none⟩])
  (.canon [] [4] .ret))))
theorem slices_Index_string_string_chk : chk Try.prog 19 [] = some (slices_Index_string_string_q.erase, [.tmp 4], 19) := by kernel_rfl
noncomputable def slices_Index_string_string_p0_step (v : ByteArray) (x7_ : Int) (x8_ : Int) (s : List ByteArray) : Option (Int ⊕ (Int ⊕ Unit)) :=
  bif decide (x8_ < x7_) then (
    gd (0 ≤ x8_ ∧ x8_ < s.length) <|
    gd ((Int.toNat x8_) < s.length) <|
    bif decide (v = (s.getD (Int.toNat x8_) (ET.dft .str))) then (
      some (.inr (.inl x8_)))
    else (
      gd (InI64 (x8_ + (1 : Int))) <|
      some (.inl (x8_ + (1 : Int)))))
  else (
    some (.inr (.inr ())))
noncomputable def slices_Index_string_string_p0 (v : ByteArray) (x7_ : Int) (x8_ : Int) (s : List ByteArray) : Option (Int ⊕ Unit) :=
  whileO (fun x : Int => slices_Index_string_string_p0_step v x7_ x s) x8_
noncomputable def slices_Index_string_string_s (s : (List ByteArray)) (v : ByteArray) : Option Int :=
  (slices_Index_string_string_p0 v (s.length : Int) (0 : Int) s).bind fun o1 => (Sum.elim (fun (o1_0 : Int) =>
    some o1_0) (fun (o1_1 : Unit) =>
    some (-1 : Int))) o1
noncomputable def slices_Index_string_string_G : Nat → Option CQ := tblQ []
theorem slices_Index_string_string_Gok : ∀ f C, slices_Index_string_string_G f = some C → ValidQ Try.prog f C := fun f C h => by cases h
def slices_Index_string_string_d0 := (dQS (dCons (dSl 0 (dVC (dCO (dO 0)))) (dCons (dSl 1 (dVC (dCO dS))) (dCons (dSl 7 (dVC (dCO (dI .i64)))) (dCons (dSl 8 (dVC (dCO (dI .i64)))) dNil)))) (dCons (dView .str) dNil))
noncomputable def slices_Index_string_string_l0 : SubQ := fun S R kn kx kr => (Dec.d slices_Index_string_string_d0 S).bind fun x => (slices_Index_string_string_p0 x.1.2.1 x.1.2.2.1 x.1.2.2.2.1 x.2.1).bind fun r => (Sum.elim (fun (r_0 : Int) => kr ⟨[(4, [], .c (.o (.val (.int .i64 r_0))))], [], [.view .str x.2.1]⟩) (fun (r_1 : Unit) => kx 0 ⟨[], [], [.view .str x.2.1]⟩)) r
noncomputable def slices_Index_string_string_L : Nat → SubQ := tblL [(0, slices_Index_string_string_l0)]
theorem slices_Index_string_string_p0_eq (v : ByteArray) (x7_ : Int) (x8_ : Int) (s : List ByteArray) (R : Type) (kn : QS → Option R) (kx : Nat → QS → Option R) (kr : QS → Option R) :
    interpQ slices_Index_string_string_L slices_Index_string_string_G 1 9 19 slices_Index_string_string_b0 ⟨[(0, [], .c (.o (.own 0))), (1, [], .c (.o (.val (.string v)))), (7, [], .c (.o (.val (.int .i64 x7_)))), (8, [], .c (.o (.val (.int .i64 x8_))))], [], [.view .str s]⟩ kn kx kr = (slices_Index_string_string_p0 v x7_ x8_ s).bind fun r => (Sum.elim (fun (r_0 : Int) => kr ⟨[(4, [], .c (.o (.val (.int .i64 r_0))))], [], [.view .str s]⟩) (fun (r_1 : Unit) => kx 0 ⟨[], [], [.view .str s]⟩)) r := by
  refine loop_piece (step := fun x => slices_Index_string_string_p0_step v x7_ x s) (enc := fun x => ⟨[(0, [], .c (.o (.own 0))), (1, [], .c (.o (.val (.string v)))), (7, [], .c (.o (.val (.int .i64 x7_)))), (8, [], .c (.o (.val (.int .i64 x))))], [], [.view .str s]⟩) (ko := fun r => (Sum.elim (fun (r_0 : Int) => kr ⟨[(4, [], .c (.o (.val (.int .i64 r_0))))], [], [.view .str s]⟩) (fun (r_1 : Unit) => kx 0 ⟨[], [], [.view .str s]⟩)) r) ?_ ?_ x8_
  · intro x; kernel_rfl
  · intro x ki; simp only [slices_Index_string_string_p0_step, -eq_self, bind_cond, bind_gd, Option.bind_assoc, Option.bind_some, Sum.elim_inl, Sum.elim_inr, bind_elim]; kernel_rfl
theorem slices_Index_string_string_sub0 : SubOK slices_Index_string_string_L slices_Index_string_string_G 1 9 19 0 slices_Index_string_string_b0 := sub_ok' slices_Index_string_string_d0 (fun x R kn kx kr => (slices_Index_string_string_p0 x.1.2.1 x.1.2.2.1 x.1.2.2.2.1 x.2.1).bind fun r => (Sum.elim (fun (r_0 : Int) => kr ⟨[(4, [], .c (.o (.val (.int .i64 r_0))))], [], [.view .str x.2.1]⟩) (fun (r_1 : Unit) => kx 0 ⟨[], [], [.view .str x.2.1]⟩)) r) (by kernel_rfl) fun x R kn kx kr => slices_Index_string_string_p0_eq x.1.2.1 x.1.2.2.1 x.1.2.2.2.1 x.2.1 R kn kx kr
theorem slices_Index_string_string_subs : subsOK slices_Index_string_string_L slices_Index_string_string_G 1 9 19 slices_Index_string_string_q := subs_of (show AllSub slices_Index_string_string_L slices_Index_string_string_G 1 9 19 [(0, slices_Index_string_string_b0)] from ⟨slices_Index_string_string_sub0, trivial⟩)
theorem slices_Index_string_string_eq (s : (List ByteArray)) (v : ByteArray) (R : Type) (k : SV → List SB → Option R) :
    fnQ slices_Index_string_string_L slices_Index_string_string_G 9 19 slices_Index_string_string_q [.tmp 4] [.c (.o (.own 0)), .c (.o (.val (.string v)))] [.view .str s] k = (slices_Index_string_string_s s v).bind fun r => k (.c (.o (.val (.int .i64 r)))) [.view .str s] := by
  simp only [slices_Index_string_string_s, -eq_self, bind_cond, bind_gd, Option.bind_assoc, Option.bind_some, Sum.elim_inl, Sum.elim_inr, bind_elim]
  kernel_rfl
def slices_Index_string_string_da := (dCons (dVC (dCO (dO 0))) (dCons (dVC (dCO dS)) dNil))
def slices_Index_string_string_db := (dCons (dView .str) dNil)
noncomputable def slices_Index_string_string_c : CS := fun args hp R k => (Dec.d slices_Index_string_string_da args).bind fun x => (Dec.d slices_Index_string_string_db hp).bind fun y => (slices_Index_string_string_s y.1 x.2.1).bind fun r => k (.c (.o (.val (.int .i64 r)))) [.view .str y.1]
theorem slices_Index_string_string_val : ValidS Try.prog 19 slices_Index_string_string_c :=
  val_ok slices_Index_string_string_chk 9 slices_Index_string_string_Gok slices_Index_string_string_da slices_Index_string_string_db 1 (fun x y R k => (slices_Index_string_string_s y.1 x.2.1).bind fun r => k (.c (.o (.val (.int .i64 r)))) [.view .str y.1]) (by kernel_rfl)
    (fun x y R k => by simp only [Option.bind_assoc, Option.bind_some]) (fun x => Nat.le_of_ble_eq_true rfl) (fun y => rfl) slices_Index_string_string_subs fun x y => slices_Index_string_string_eq y.1 x.2.1 _ _
noncomputable def slices_Index_string_string_w : CQ := prepQ [(0, none, some (.str, 9))] (liftV [false] slices_Index_string_string_c)
theorem slices_Index_string_string_ok : ValidQ Try.prog 19 slices_Index_string_string_w := prep_quiet slices_Index_string_string_val

/-! ### slices.Contains[[]string,string] -/
def slices_Contains_string_string_q : IQ :=
  (.seq
  (.reg 4 none [
    ⟨(some 4), .mv (.v (.bool false)), none⟩])
  (.seq
  (.reg 4 none [
    ⟨(some 5), .mv (.t 0), none⟩,
    ⟨(some 6), .mv (.t 1), none⟩,
    ⟨(some 7), .call 19 [(.t 5), (.t 6)], none⟩,
    ⟨(some 8), .bin false .geq (.t 7) (.v (.int .i64 0)), none⟩,
    ⟨(some 4), .mv (.t 8), none⟩])
  (.canon [] [4] .ret)))
theorem slices_Contains_string_string_chk : chk Try.prog 13 [] = some (slices_Contains_string_string_q.erase, [.tmp 4], 9) := by kernel_rfl
noncomputable def slices_Contains_string_string_s (s : (List ByteArray)) (v : ByteArray) : Option Bool :=
  (slices_Index_string_string_s s v).bind fun r1 =>
  some (decide ((0 : Int) ≤ r1))
noncomputable def slices_Contains_string_string_G : Nat → Option CQ := tblQ [(19, slices_Index_string_string_w)]
theorem slices_Contains_string_string_Gok : ∀ f C, slices_Contains_string_string_G f = some C → ValidQ Try.prog f C := tblQ_valid ⟨slices_Index_string_string_ok, trivial⟩
noncomputable def slices_Contains_string_string_L : Nat → SubQ := tblL []
theorem slices_Contains_string_string_subs : subsOK slices_Contains_string_string_L slices_Contains_string_string_G 1 5 9 slices_Contains_string_string_q := subs_of (show AllSub slices_Contains_string_string_L slices_Contains_string_string_G 1 5 9 [] from trivial)
theorem slices_Contains_string_string_eq (s : (List ByteArray)) (v : ByteArray) (R : Type) (k : SV → List SB → Option R) :
    fnQ slices_Contains_string_string_L slices_Contains_string_string_G 5 9 slices_Contains_string_string_q [.tmp 4] [.c (.o (.own 0)), .c (.o (.val (.string v)))] [.view .str s] k = (slices_Contains_string_string_s s v).bind fun r => k (.c (.o (.val (.bool r)))) [.view .str s] := by
  simp only [slices_Contains_string_string_s, -eq_self, bind_cond, bind_gd, Option.bind_assoc, Option.bind_some, Sum.elim_inl, Sum.elim_inr, bind_elim]
  kernel_rfl
def slices_Contains_string_string_da := (dCons (dVC (dCO (dO 0))) (dCons (dVC (dCO dS)) dNil))
def slices_Contains_string_string_db := (dCons (dView .str) dNil)
noncomputable def slices_Contains_string_string_c : CS := fun args hp R k => (Dec.d slices_Contains_string_string_da args).bind fun x => (Dec.d slices_Contains_string_string_db hp).bind fun y => (slices_Contains_string_string_s y.1 x.2.1).bind fun r => k (.c (.o (.val (.bool r)))) [.view .str y.1]
theorem slices_Contains_string_string_val : ValidS Try.prog 13 slices_Contains_string_string_c :=
  val_ok slices_Contains_string_string_chk 5 slices_Contains_string_string_Gok slices_Contains_string_string_da slices_Contains_string_string_db 1 (fun x y R k => (slices_Contains_string_string_s y.1 x.2.1).bind fun r => k (.c (.o (.val (.bool r)))) [.view .str y.1]) (by kernel_rfl)
    (fun x y R k => by simp only [Option.bind_assoc, Option.bind_some]) (fun x => Nat.le_of_ble_eq_true rfl) (fun y => rfl) slices_Contains_string_string_subs fun x y => slices_Contains_string_string_eq y.1 x.2.1 _ _
noncomputable def slices_Contains_string_string_w : CQ := prepQ [(0, none, some (.str, 9))] (liftV [false] slices_Contains_string_string_c)
theorem slices_Contains_string_string_ok : ValidQ Try.prog 13 slices_Contains_string_string_w := prep_quiet slices_Contains_string_string_val

/-! ### signet/claims.Check -/
def claims_Check_b0 : IQ :=
  (.loop [2, 3, 8, 9, 10]
    (.seq
    (.reg 11 none [
      ⟨(some 11), .bin false .lss (.t 10) (.t 9), none⟩])
    (.seq
    (.cond (.t 11)
      .skip
      (.canon [] [2, 3] (.exit 0)))
    (.seq
    (.block 1
      (.seq
      (.reg 6 none [
        ⟨(some 12), .iaddr 1 (.t 8) (.t 10), none⟩,
        ⟨(some 13), .load none (.t 12), none⟩,
        ⟨(some 6), .mv (.t 13), none⟩])
      (.seq
      (.reg 18 none [
        ⟨(some 14), .faddr 0 (.t 2), none⟩,
        ⟨(some 15), .load none (.t 14), none⟩,
        ⟨(some 16), .mv (.t 6), none⟩,
        ⟨(some 17), .call 12 [(.t 15), (.v (.int .i64 0)), (.t 16)], none⟩,
        ⟨(some 18), .bin false .lss (.t 17) (.v (.int .i64 0)), none⟩])
      (.cond (.t 18)
        (.seq
        (.reg 4 none [
          ⟨(some 4), .mv (.v (.int .i64 137)), none⟩])
        (.canon [] [4] .ret))
        .skip))))
    (.reg 10 none [
      ⟨(some 19), .bin false .add (.t 10) (.v (.int .i64 1)), none⟩,
      ⟨(some 10), .mv (.t 19), none⟩])))))
def claims_Check_q : IQ :=
  (.seq
  (.reg 4 none [
    ⟨(some 2), .box 27 15 (.t 0), none⟩,
    ⟨(some 3), .box 29 9 (.t 1), none⟩,
    ⟨(some 4), .mv (.v (.int .i64 0)), none⟩])
  (.seq
  (.seq
  (.reg 10 none [
    ⟨(some 7), .faddr 8 (.t 3), none⟩,
    ⟨(some 8), .load none (.t 7), none⟩,
    ⟨(some 9), .len (.t 8), none⟩,
    ⟨(some 10), .mv (.v (.int .i64 0)), none⟩])
  (.block 0
    (.canon [] [2, 3, 8, 9, 10] (.sub 0 claims_Check_b0))))
  (.seq
  (.block 2
    (.seq
    (.reg 20 none [
      ⟨(some 21), .faddr 2 (.t 3), none⟩,
      ⟨(some 22), .load none (.t 21), none⟩,
      ⟨(some 23), .mv (.t 22), none⟩,
      ⟨(some 24), .faddr 2 (.t 2), some (23, true)⟩,
      ⟨(some 25), .load none (.t 24), some (23, true)⟩,
      ⟨(some 26), .mv (.t 25), some (23, true)⟩,
      ⟨(some 27), .faddr 1 (.t 2), some (26, true)⟩,
      ⟨(some 28), .load none (.t 27), some (26, true)⟩,
      ⟨(some 29), .faddr 1 (.t 3), some (26, true)⟩,
      ⟨(some 30), .load none (.t 29), some (26, true)⟩,
      ⟨(some 31), .bin false .eql (.t 28) (.t 30), some (26, true)⟩,
      ⟨(some 32), .pick (.t 26) (.t 31) (.v (.bool false)), some (23, true)⟩,
      ⟨(some 33), .un .not (.t 32), some (23, true)⟩,
      ⟨(some 34), .pick (.t 23) (.t 33) (.v (.bool false)), none⟩,
      ⟨(some 20), .mv (.t 34), none⟩])
    (.cond (.t 20)
      (.seq
      (.reg 4 none [
        ⟨(some 4), .mv (.v (.int .i64 132)), none⟩])
      (.canon [] [4] .ret))
      (.seq
      (.seq
      (.reg 35 none [
        ⟨(some 36), .faddr 4 (.t 3), none⟩,
        ⟨(some 37), .load none (.t 36), none⟩,
        ⟨(some 38), .mv (.t 37), none⟩,
        ⟨(some 39), .faddr 6 (.t 2), some (38, true)⟩,
        ⟨(some 40), .load none (.t 39), some (38, true)⟩,
        ⟨(some 41), .mv (.t 40), some (38, true)⟩,
        ⟨(some 42), .faddr 5 (.t 2), some (41, true)⟩,
        ⟨(some 43), .load none (.t 42), some (41, true)⟩,
        ⟨(some 44), .faddr 3 (.t 3), some (41, true)⟩,
        ⟨(some 45), .load none (.t 44), some (41, true)⟩,
        ⟨(some 46), .call 13 [(.t 43), (.t 45)], some (41, true)⟩,
        ⟨(some 47), .pick (.t 41) (.t 46) (.v (.bool false)), some (38, true)⟩,
        ⟨(some 48), .un .not (.t 47), some (38, true)⟩,
        ⟨(some 49), .pick (.t 38) (.t 48) (.v (.bool false)), none⟩,
        ⟨(some 35), .mv (.t 49), none⟩])
      (.cond (.t 35)
        .skip
        (.reg 35 none [
          ⟨(some 50), .faddr 4 (.t 3), none⟩,
          ⟨(some 51), .load none (.t 50), none⟩,
          ⟨(some 52), .un .not (.t 51), none⟩,
          ⟨(some 53), .mv (.t 52), none⟩,
          ⟨(some 54), .faddr 6 (.t 2), some (53, true)⟩,
          ⟨(some 55), .load none (.t 54), some (53, true)⟩,
          ⟨(some 56), .pick (.t 53) (.t 55) (.v (.bool false)), none⟩,
          ⟨(some 35), .mv (.t 56), none⟩])))
      (.cond (.t 35)
        (.seq
        (.reg 4 none [
          ⟨(some 4), .mv (.v (.int .i64 133)), none⟩])
        (.canon [] [4] .ret))
        .skip)))))
  (.seq
  (.reg 4 none [
    ⟨(some 4), .mv (.v (.int .i64 0)), none⟩])
  (.canon [] [4] .ret)))))
theorem claims_Check_chk : chk Try.prog 6 [] = some (claims_Check_q.erase, [.tmp 4], 57) := by kernel_rfl
noncomputable def claims_Check_p0_step (x9_ : Int) (x10_ : Int) (c_value : List Eng.Node) (x8_ : List ByteArray) : Option (Int ⊕ (Int ⊕ Unit)) :=
  bif decide (x10_ < x9_) then (
    gd (0 ≤ x10_ ∧ x10_ < x8_.length) <|
    gd ((Int.toNat x10_) < x8_.length) <|
    (json_Member_s c_value (0 : Int) (x8_.getD (Int.toNat x10_) (ET.dft .str))).bind fun r2 =>
    bif decide (r2 < (0 : Int)) then (
      some (.inr (.inl (137 : Int))))
    else (
      gd (InI64 (x10_ + (1 : Int))) <|
      some (.inl (x10_ + (1 : Int)))))
  else (
    some (.inr (.inr ())))
noncomputable def claims_Check_p0 (x9_ : Int) (x10_ : Int) (c_value : List Eng.Node) (x8_ : List ByteArray) : Option (Int ⊕ Unit) :=
  whileO (fun x : Int => claims_Check_p0_step x9_ x c_value x8_) x10_
noncomputable def claims_Check_s (c : api_Claims) (p : api_Policy) : Option Int :=
  (claims_Check_p0 (p.need.length : Int) (0 : Int) c.value p.need).bind fun o3 => (Sum.elim (fun (o3_0 : Int) =>
    some o3_0) (fun (o3_1 : Unit) =>
    bif (p.hasIss && (!(c.hasIss && (decide (c.iss = p.iss))))) then (
      some (132 : Int))
    else (
      bif p.hasAud then (
        bif c.hasAud then (
          (slices_Contains_string_string_s c.aud p.aud).bind fun r4 =>
          bif (!r4) then (
            bif (!r4) then (
              some (133 : Int))
            else (
              some (0 : Int)))
          else (
            bif ((!p.hasAud) && c.hasAud) then (
              some (133 : Int))
            else (
              some (0 : Int))))
        else (
          some (133 : Int)))
      else (
        bif ((!p.hasAud) && c.hasAud) then (
          some (133 : Int))
        else (
          some (0 : Int)))))) o3
noncomputable def claims_Check_G : Nat → Option CQ := tblQ [(12, json_Member_w), (13, slices_Contains_string_string_w)]
theorem claims_Check_Gok : ∀ f C, claims_Check_G f = some C → ValidQ Try.prog f C := tblQ_valid ⟨json_Member_ok, slices_Contains_string_string_ok, trivial⟩
def claims_Check_d0 := (dQS (dCons (dSl 2 (dVC (dCO (dH 4 0)))) (dCons (dSl 3 (dVC (dCO (dH 5 0)))) (dCons (dSl 8 (dVC (dCO (dO 3)))) (dCons (dSl 9 (dVC (dCO (dI .i64)))) (dCons (dSl 10 (dVC (dCO (dI .i64)))) dNil))))) (dCons (dView .node) (dCons (dView .str) (dCons (dView .str) (dCons (dView .str) (dCons (dCells 27 (dCons (dO 0) (dCons dS (dCons dB (dCons dS (dCons dB (dCons (dO 1) (dCons dB (dCons dS (dCons dB (dCons dB (dCons (dI .i64) (dCons dB (dCons (dI .i64) (dCons dB (dCons (dI .i64) dNil)))))))))))))))) (dCons (dCells 29 (dCons (dO 2) (dCons dS (dCons dB (dCons dS (dCons dB (dCons dS (dCons dB (dCons (dI .i64) (dCons (dO 3) dNil)))))))))) dNil)))))))
noncomputable def claims_Check_l0 : SubQ := fun S R kn kx kr => (Dec.d claims_Check_d0 S).bind fun x => (claims_Check_p0 x.1.2.2.2.1 x.1.2.2.2.2.1 x.2.1 x.2.2.2.2.1).bind fun r => (Sum.elim (fun (r_0 : Int) => kr ⟨[(4, [], .c (.o (.val (.int .i64 r_0))))], [], [.view .node x.2.1, .view .str x.2.2.1, .view .str x.2.2.2.1, .view .str x.2.2.2.2.1]⟩) (fun (r_1 : Unit) => kx 0 ⟨[(2, [], .c (.o (.hd 4 0))), (3, [], .c (.o (.hd 5 0)))], [], [.view .node x.2.1, .view .str x.2.2.1, .view .str x.2.2.2.1, .view .str x.2.2.2.2.1, .cells 27 [.own 0, .val (.string x.2.2.2.2.2.1.2.1), .val (.bool x.2.2.2.2.2.1.2.2.1), .val (.string x.2.2.2.2.2.1.2.2.2.1), .val (.bool x.2.2.2.2.2.1.2.2.2.2.1), .own 1, .val (.bool x.2.2.2.2.2.1.2.2.2.2.2.2.1), .val (.string x.2.2.2.2.2.1.2.2.2.2.2.2.2.1), .val (.bool x.2.2.2.2.2.1.2.2.2.2.2.2.2.2.1), .val (.bool x.2.2.2.2.2.1.2.2.2.2.2.2.2.2.2.1), .val (.int .i64 x.2.2.2.2.2.1.2.2.2.2.2.2.2.2.2.2.1), .val (.bool x.2.2.2.2.2.1.2.2.2.2.2.2.2.2.2.2.2.1), .val (.int .i64 x.2.2.2.2.2.1.2.2.2.2.2.2.2.2.2.2.2.2.1), .val (.bool x.2.2.2.2.2.1.2.2.2.2.2.2.2.2.2.2.2.2.2.1), .val (.int .i64 x.2.2.2.2.2.1.2.2.2.2.2.2.2.2.2.2.2.2.2.2.1)], .cells 29 [.own 2, .val (.string x.2.2.2.2.2.2.1.2.1), .val (.bool x.2.2.2.2.2.2.1.2.2.1), .val (.string x.2.2.2.2.2.2.1.2.2.2.1), .val (.bool x.2.2.2.2.2.2.1.2.2.2.2.1), .val (.string x.2.2.2.2.2.2.1.2.2.2.2.2.1), .val (.bool x.2.2.2.2.2.2.1.2.2.2.2.2.2.1), .val (.int .i64 x.2.2.2.2.2.2.1.2.2.2.2.2.2.2.1), .own 3]]⟩)) r
noncomputable def claims_Check_L : Nat → SubQ := tblL [(0, claims_Check_l0)]
theorem claims_Check_p0_eq (x9_ : Int) (x10_ : Int) (c_value : List Eng.Node) (c_aud : List ByteArray) (p_algs : List ByteArray) (x8_ : List ByteArray) (c_Iss : ByteArray) (c_HasIss : Bool) (c_Sub : ByteArray) (c_HasSub : Bool) (c_HasAud : Bool) (c_Jti : ByteArray) (c_HasJti : Bool) (c_Exp_Has : Bool) (c_Exp_At : Int) (c_Nbf_Has : Bool) (c_Nbf_At : Int) (c_Iat_Has : Bool) (c_Iat_At : Int) (p_Iss : ByteArray) (p_HasIss : Bool) (p_Aud : ByteArray) (p_HasAud : Bool) (p_Typ : ByteArray) (p_HasTyp : Bool) (p_Leeway : Int) (R : Type) (kn : QS → Option R) (kx : Nat → QS → Option R) (kr : QS → Option R) :
    interpQ claims_Check_L claims_Check_G 4 11 57 claims_Check_b0 ⟨[(2, [], .c (.o (.hd 4 0))), (3, [], .c (.o (.hd 5 0))), (8, [], .c (.o (.own 3))), (9, [], .c (.o (.val (.int .i64 x9_)))), (10, [], .c (.o (.val (.int .i64 x10_))))], [], [.view .node c_value, .view .str c_aud, .view .str p_algs, .view .str x8_, .cells 27 [.own 0, .val (.string c_Iss), .val (.bool c_HasIss), .val (.string c_Sub), .val (.bool c_HasSub), .own 1, .val (.bool c_HasAud), .val (.string c_Jti), .val (.bool c_HasJti), .val (.bool c_Exp_Has), .val (.int .i64 c_Exp_At), .val (.bool c_Nbf_Has), .val (.int .i64 c_Nbf_At), .val (.bool c_Iat_Has), .val (.int .i64 c_Iat_At)], .cells 29 [.own 2, .val (.string p_Iss), .val (.bool p_HasIss), .val (.string p_Aud), .val (.bool p_HasAud), .val (.string p_Typ), .val (.bool p_HasTyp), .val (.int .i64 p_Leeway), .own 3]]⟩ kn kx kr = (claims_Check_p0 x9_ x10_ c_value x8_).bind fun r => (Sum.elim (fun (r_0 : Int) => kr ⟨[(4, [], .c (.o (.val (.int .i64 r_0))))], [], [.view .node c_value, .view .str c_aud, .view .str p_algs, .view .str x8_]⟩) (fun (r_1 : Unit) => kx 0 ⟨[(2, [], .c (.o (.hd 4 0))), (3, [], .c (.o (.hd 5 0)))], [], [.view .node c_value, .view .str c_aud, .view .str p_algs, .view .str x8_, .cells 27 [.own 0, .val (.string c_Iss), .val (.bool c_HasIss), .val (.string c_Sub), .val (.bool c_HasSub), .own 1, .val (.bool c_HasAud), .val (.string c_Jti), .val (.bool c_HasJti), .val (.bool c_Exp_Has), .val (.int .i64 c_Exp_At), .val (.bool c_Nbf_Has), .val (.int .i64 c_Nbf_At), .val (.bool c_Iat_Has), .val (.int .i64 c_Iat_At)], .cells 29 [.own 2, .val (.string p_Iss), .val (.bool p_HasIss), .val (.string p_Aud), .val (.bool p_HasAud), .val (.string p_Typ), .val (.bool p_HasTyp), .val (.int .i64 p_Leeway), .own 3]]⟩)) r := by
  refine loop_piece (step := fun x => claims_Check_p0_step x9_ x c_value x8_) (enc := fun x => ⟨[(2, [], .c (.o (.hd 4 0))), (3, [], .c (.o (.hd 5 0))), (8, [], .c (.o (.own 3))), (9, [], .c (.o (.val (.int .i64 x9_)))), (10, [], .c (.o (.val (.int .i64 x))))], [], [.view .node c_value, .view .str c_aud, .view .str p_algs, .view .str x8_, .cells 27 [.own 0, .val (.string c_Iss), .val (.bool c_HasIss), .val (.string c_Sub), .val (.bool c_HasSub), .own 1, .val (.bool c_HasAud), .val (.string c_Jti), .val (.bool c_HasJti), .val (.bool c_Exp_Has), .val (.int .i64 c_Exp_At), .val (.bool c_Nbf_Has), .val (.int .i64 c_Nbf_At), .val (.bool c_Iat_Has), .val (.int .i64 c_Iat_At)], .cells 29 [.own 2, .val (.string p_Iss), .val (.bool p_HasIss), .val (.string p_Aud), .val (.bool p_HasAud), .val (.string p_Typ), .val (.bool p_HasTyp), .val (.int .i64 p_Leeway), .own 3]]⟩) (ko := fun r => (Sum.elim (fun (r_0 : Int) => kr ⟨[(4, [], .c (.o (.val (.int .i64 r_0))))], [], [.view .node c_value, .view .str c_aud, .view .str p_algs, .view .str x8_]⟩) (fun (r_1 : Unit) => kx 0 ⟨[(2, [], .c (.o (.hd 4 0))), (3, [], .c (.o (.hd 5 0)))], [], [.view .node c_value, .view .str c_aud, .view .str p_algs, .view .str x8_, .cells 27 [.own 0, .val (.string c_Iss), .val (.bool c_HasIss), .val (.string c_Sub), .val (.bool c_HasSub), .own 1, .val (.bool c_HasAud), .val (.string c_Jti), .val (.bool c_HasJti), .val (.bool c_Exp_Has), .val (.int .i64 c_Exp_At), .val (.bool c_Nbf_Has), .val (.int .i64 c_Nbf_At), .val (.bool c_Iat_Has), .val (.int .i64 c_Iat_At)], .cells 29 [.own 2, .val (.string p_Iss), .val (.bool p_HasIss), .val (.string p_Aud), .val (.bool p_HasAud), .val (.string p_Typ), .val (.bool p_HasTyp), .val (.int .i64 p_Leeway), .own 3]]⟩)) r) ?_ ?_ x10_
  · intro x; kernel_rfl
  · intro x ki; simp only [claims_Check_p0_step, -eq_self, bind_cond, bind_gd, Option.bind_assoc, Option.bind_some, Sum.elim_inl, Sum.elim_inr, bind_elim]; kernel_rfl
theorem claims_Check_sub0 : SubOK claims_Check_L claims_Check_G 4 11 57 0 claims_Check_b0 := sub_ok' claims_Check_d0 (fun x R kn kx kr => (claims_Check_p0 x.1.2.2.2.1 x.1.2.2.2.2.1 x.2.1 x.2.2.2.2.1).bind fun r => (Sum.elim (fun (r_0 : Int) => kr ⟨[(4, [], .c (.o (.val (.int .i64 r_0))))], [], [.view .node x.2.1, .view .str x.2.2.1, .view .str x.2.2.2.1, .view .str x.2.2.2.2.1]⟩) (fun (r_1 : Unit) => kx 0 ⟨[(2, [], .c (.o (.hd 4 0))), (3, [], .c (.o (.hd 5 0)))], [], [.view .node x.2.1, .view .str x.2.2.1, .view .str x.2.2.2.1, .view .str x.2.2.2.2.1, .cells 27 [.own 0, .val (.string x.2.2.2.2.2.1.2.1), .val (.bool x.2.2.2.2.2.1.2.2.1), .val (.string x.2.2.2.2.2.1.2.2.2.1), .val (.bool x.2.2.2.2.2.1.2.2.2.2.1), .own 1, .val (.bool x.2.2.2.2.2.1.2.2.2.2.2.2.1), .val (.string x.2.2.2.2.2.1.2.2.2.2.2.2.2.1), .val (.bool x.2.2.2.2.2.1.2.2.2.2.2.2.2.2.1), .val (.bool x.2.2.2.2.2.1.2.2.2.2.2.2.2.2.2.1), .val (.int .i64 x.2.2.2.2.2.1.2.2.2.2.2.2.2.2.2.2.1), .val (.bool x.2.2.2.2.2.1.2.2.2.2.2.2.2.2.2.2.2.1), .val (.int .i64 x.2.2.2.2.2.1.2.2.2.2.2.2.2.2.2.2.2.2.1), .val (.bool x.2.2.2.2.2.1.2.2.2.2.2.2.2.2.2.2.2.2.2.1), .val (.int .i64 x.2.2.2.2.2.1.2.2.2.2.2.2.2.2.2.2.2.2.2.2.1)], .cells 29 [.own 2, .val (.string x.2.2.2.2.2.2.1.2.1), .val (.bool x.2.2.2.2.2.2.1.2.2.1), .val (.string x.2.2.2.2.2.2.1.2.2.2.1), .val (.bool x.2.2.2.2.2.2.1.2.2.2.2.1), .val (.string x.2.2.2.2.2.2.1.2.2.2.2.2.1), .val (.bool x.2.2.2.2.2.2.1.2.2.2.2.2.2.1), .val (.int .i64 x.2.2.2.2.2.2.1.2.2.2.2.2.2.2.1), .own 3]]⟩)) r) (by kernel_rfl) fun x R kn kx kr => claims_Check_p0_eq x.1.2.2.2.1 x.1.2.2.2.2.1 x.2.1 x.2.2.1 x.2.2.2.1 x.2.2.2.2.1 x.2.2.2.2.2.1.2.1 x.2.2.2.2.2.1.2.2.1 x.2.2.2.2.2.1.2.2.2.1 x.2.2.2.2.2.1.2.2.2.2.1 x.2.2.2.2.2.1.2.2.2.2.2.2.1 x.2.2.2.2.2.1.2.2.2.2.2.2.2.1 x.2.2.2.2.2.1.2.2.2.2.2.2.2.2.1 x.2.2.2.2.2.1.2.2.2.2.2.2.2.2.2.1 x.2.2.2.2.2.1.2.2.2.2.2.2.2.2.2.2.1 x.2.2.2.2.2.1.2.2.2.2.2.2.2.2.2.2.2.1 x.2.2.2.2.2.1.2.2.2.2.2.2.2.2.2.2.2.2.1 x.2.2.2.2.2.1.2.2.2.2.2.2.2.2.2.2.2.2.2.1 x.2.2.2.2.2.1.2.2.2.2.2.2.2.2.2.2.2.2.2.2.1 x.2.2.2.2.2.2.1.2.1 x.2.2.2.2.2.2.1.2.2.1 x.2.2.2.2.2.2.1.2.2.2.1 x.2.2.2.2.2.2.1.2.2.2.2.1 x.2.2.2.2.2.2.1.2.2.2.2.2.1 x.2.2.2.2.2.2.1.2.2.2.2.2.2.1 x.2.2.2.2.2.2.1.2.2.2.2.2.2.2.1 R kn kx kr
theorem claims_Check_subs : subsOK claims_Check_L claims_Check_G 4 11 57 claims_Check_q := subs_of (show AllSub claims_Check_L claims_Check_G 4 11 57 [(0, claims_Check_b0)] from ⟨claims_Check_sub0, trivial⟩)
theorem claims_Check_eq (c : api_Claims) (p : api_Policy) (R : Type) (k : SV → List SB → Option R) :
    fnQ claims_Check_L claims_Check_G 11 57 claims_Check_q [.tmp 4] [.c (.agg [.own 0, .val (.string c.iss), .val (.bool c.hasIss), .val (.string c.sub), .val (.bool c.hasSub), .own 1, .val (.bool c.hasAud), .val (.string c.jti), .val (.bool c.hasJti), .val (.bool c.exp_.has), .val (.int .i64 c.exp_.at_), .val (.bool c.nbf.has), .val (.int .i64 c.nbf.at_), .val (.bool c.iat.has), .val (.int .i64 c.iat.at_)]), .c (.agg [.own 2, .val (.string p.iss), .val (.bool p.hasIss), .val (.string p.aud), .val (.bool p.hasAud), .val (.string p.typ), .val (.bool p.hasTyp), .val (.int .i64 p.leeway), .own 3])] [.view .node c.value, .view .str c.aud, .view .str p.algs, .view .str p.need] k = (claims_Check_s c p).bind fun r => k (.c (.o (.val (.int .i64 r)))) [.view .node c.value, .view .str c.aud, .view .str p.algs, .view .str p.need] := by
  simp only [claims_Check_s, -eq_self, bind_cond, bind_gd, Option.bind_assoc, Option.bind_some, Sum.elim_inl, Sum.elim_inr, bind_elim]
  kernel_rfl
def claims_Check_da := (dCons (dVC (dCA (dCons (dO 0) (dCons dS (dCons dB (dCons dS (dCons dB (dCons (dO 1) (dCons dB (dCons dS (dCons dB (dCons dB (dCons (dI .i64) (dCons dB (dCons (dI .i64) (dCons dB (dCons (dI .i64) dNil))))))))))))))))) (dCons (dVC (dCA (dCons (dO 2) (dCons dS (dCons dB (dCons dS (dCons dB (dCons dS (dCons dB (dCons (dI .i64) (dCons (dO 3) dNil))))))))))) dNil))
def claims_Check_db := (dCons (dView .node) (dCons (dView .str) (dCons (dView .str) (dCons (dView .str) dNil))))
noncomputable def claims_Check_c : CS := fun args hp R k => (Dec.d claims_Check_da args).bind fun x => (Dec.d claims_Check_db hp).bind fun y => (claims_Check_s (⟨y.1, x.1.2.1, x.1.2.2.1, x.1.2.2.2.1, x.1.2.2.2.2.1, y.2.1, x.1.2.2.2.2.2.2.1, x.1.2.2.2.2.2.2.2.1, x.1.2.2.2.2.2.2.2.2.1, (⟨x.1.2.2.2.2.2.2.2.2.2.1, x.1.2.2.2.2.2.2.2.2.2.2.1⟩ : api_Time), (⟨x.1.2.2.2.2.2.2.2.2.2.2.2.1, x.1.2.2.2.2.2.2.2.2.2.2.2.2.1⟩ : api_Time), (⟨x.1.2.2.2.2.2.2.2.2.2.2.2.2.2.1, x.1.2.2.2.2.2.2.2.2.2.2.2.2.2.2.1⟩ : api_Time)⟩ : api_Claims) (⟨y.2.2.1, x.2.1.2.1, x.2.1.2.2.1, x.2.1.2.2.2.1, x.2.1.2.2.2.2.1, x.2.1.2.2.2.2.2.1, x.2.1.2.2.2.2.2.2.1, x.2.1.2.2.2.2.2.2.2.1, y.2.2.2.1⟩ : api_Policy)).bind fun r => k (.c (.o (.val (.int .i64 r)))) [.view .node y.1, .view .str y.2.1, .view .str y.2.2.1, .view .str y.2.2.2.1]
theorem claims_Check_val : ValidS Try.prog 6 claims_Check_c :=
  val_ok claims_Check_chk 11 claims_Check_Gok claims_Check_da claims_Check_db 4 (fun x y R k => (claims_Check_s (⟨y.1, x.1.2.1, x.1.2.2.1, x.1.2.2.2.1, x.1.2.2.2.2.1, y.2.1, x.1.2.2.2.2.2.2.1, x.1.2.2.2.2.2.2.2.1, x.1.2.2.2.2.2.2.2.2.1, (⟨x.1.2.2.2.2.2.2.2.2.2.1, x.1.2.2.2.2.2.2.2.2.2.2.1⟩ : api_Time), (⟨x.1.2.2.2.2.2.2.2.2.2.2.2.1, x.1.2.2.2.2.2.2.2.2.2.2.2.2.1⟩ : api_Time), (⟨x.1.2.2.2.2.2.2.2.2.2.2.2.2.2.1, x.1.2.2.2.2.2.2.2.2.2.2.2.2.2.2.1⟩ : api_Time)⟩ : api_Claims) (⟨y.2.2.1, x.2.1.2.1, x.2.1.2.2.1, x.2.1.2.2.2.1, x.2.1.2.2.2.2.1, x.2.1.2.2.2.2.2.1, x.2.1.2.2.2.2.2.2.1, x.2.1.2.2.2.2.2.2.2.1, y.2.2.2.1⟩ : api_Policy)).bind fun r => k (.c (.o (.val (.int .i64 r)))) [.view .node y.1, .view .str y.2.1, .view .str y.2.2.1, .view .str y.2.2.2.1]) (by kernel_rfl)
    (fun x y R k => by simp only [Option.bind_assoc, Option.bind_some]) (fun x => Nat.le_of_ble_eq_true rfl) (fun y => rfl) claims_Check_subs fun x y => claims_Check_eq (⟨y.1, x.1.2.1, x.1.2.2.1, x.1.2.2.2.1, x.1.2.2.2.2.1, y.2.1, x.1.2.2.2.2.2.2.1, x.1.2.2.2.2.2.2.2.1, x.1.2.2.2.2.2.2.2.2.1, (⟨x.1.2.2.2.2.2.2.2.2.2.1, x.1.2.2.2.2.2.2.2.2.2.2.1⟩ : api_Time), (⟨x.1.2.2.2.2.2.2.2.2.2.2.2.1, x.1.2.2.2.2.2.2.2.2.2.2.2.2.1⟩ : api_Time), (⟨x.1.2.2.2.2.2.2.2.2.2.2.2.2.2.1, x.1.2.2.2.2.2.2.2.2.2.2.2.2.2.2.1⟩ : api_Time)⟩ : api_Claims) (⟨y.2.2.1, x.2.1.2.1, x.2.1.2.2.1, x.2.1.2.2.2.1, x.2.1.2.2.2.2.1, x.2.1.2.2.2.2.2.1, x.2.1.2.2.2.2.2.2.1, x.2.1.2.2.2.2.2.2.2.1, y.2.2.2.1⟩ : api_Policy) _ _
noncomputable def claims_Check_w : CQ := prepQ [(0, some 0, some (.node, 40)), (0, some 5, some (.str, 9)), (1, some 0, some (.str, 9)), (1, some 8, some (.str, 9))] (liftV [false, false, false, false] claims_Check_c)
theorem claims_Check_ok : ValidQ Try.prog 6 claims_Check_w := prep_quiet claims_Check_val

/-! ### signet/signetlaw19.sameTexts -/
def signetlaw19_sameTexts_b0 : IQ :=
  (.loop [0, 1, 5]
    (.seq
    (.seq
    (.reg 14 none [
      ⟨(some 11), .mv (.t 5), none⟩,
      ⟨(some 12), .mv (.t 0), none⟩,
      ⟨(some 13), .len (.t 12), none⟩,
      ⟨(some 14), .bin false .lss (.t 11) (.t 13), none⟩])
    (.cond (.t 14)
      .skip
      (.canon [] [] (.exit 0))))
    (.seq
    (.block 1
      (.seq
      (.reg 25 (some [0, 1, 2, 3, 4, 5, 6, 7, 8]) [
        ⟨(some 17), .mv (.t 0), none⟩,
        ⟨(some 18), .mv (.t 5), none⟩,
        ⟨(some 19), .iaddr 1 (.t 17) (.t 18), none⟩,
        ⟨(some 20), .load none (.t 19), none⟩,
        ⟨(some 21), .mv (.t 1), none⟩,
        ⟨(some 22), .mv (.t 5), none⟩,
        ⟨(some 23), .iaddr 1 (.t 21) (.t 22), none⟩,
        ⟨(some 24), .load none (.t 23), none⟩,
        ⟨(some 25), .bin false .neq (.t 20) (.t 24), none⟩])
      (.cond (.t 25)
        (.seq
        (.reg 4 none [
          ⟨(some 4), .mv (.v (.bool false)), none⟩])
        (.canon [] [4] .ret))
        .skip)))
    (.reg 5 none [
      ⟨(some 15), .mv (.t 5), none⟩,
      ⟨(some 16), .bin false .add (.t 15) (.v (.int .i64 1)), none⟩,
      ⟨(some 5), .mv (.t 16), none⟩]))))
def signetlaw19_sameTexts_q : IQ :=
  (.seq
  (.reg 4 none [
    ⟨(some 4), .mv (.v (.bool false)), none⟩])
  (.seq
  (.seq
  (.reg 10 none [
    ⟨(some 6), .mv (.t 0), none⟩,
    ⟨(some 7), .len (.t 6), none⟩,
    ⟨(some 8), .mv (.t 1), none⟩,
    ⟨(some 9), .len (.t 8), none⟩,
    ⟨(some 10), .bin false .neq (.t 7) (.t 9), none⟩])
  (.cond (.t 10)
    (.seq
    (.reg 4 none [
      ⟨(some 4), .mv (.v (.bool false)), none⟩])
    (.canon [] [4] .ret))
    .skip))
  (.seq
  (.seq
  (.reg 5 none [
    ⟨(some 5), .mv (.v (.int .i64 0)), none⟩])
  (.block 0
    (.canon [] [0, 1, 5] (.sub 0 signetlaw19_sameTexts_b0))))
  (.seq
  (.reg 4 none [
    ⟨(some 4), .mv (.v (.bool true)), none⟩])
  (.canon [] [4] .ret)))))
theorem signetlaw19_sameTexts_chk : chk Try.prog 8 [] = some (signetlaw19_sameTexts_q.erase, [.tmp 4], 26) := by kernel_rfl
noncomputable def signetlaw19_sameTexts_p0_step (i : Int) (a : List ByteArray) (b : List ByteArray) : Option (Int ⊕ (Bool ⊕ Unit)) :=
  bif decide (i < (a.length : Int)) then (
    gd (0 ≤ i ∧ i < a.length) <|
    gd ((Int.toNat i) < a.length) <|
    gd (0 ≤ i ∧ i < b.length) <|
    gd ((Int.toNat i) < b.length) <|
    bif (!decide ((a.getD (Int.toNat i) (ET.dft .str)) = (b.getD (Int.toNat i) (ET.dft .str)))) then (
      some (.inr (.inl false)))
    else (
      gd (InI64 (i + (1 : Int))) <|
      some (.inl (i + (1 : Int)))))
  else (
    some (.inr (.inr ())))
noncomputable def signetlaw19_sameTexts_p0 (i : Int) (a : List ByteArray) (b : List ByteArray) : Option (Bool ⊕ Unit) :=
  whileO (fun x : Int => signetlaw19_sameTexts_p0_step x a b) i
noncomputable def signetlaw19_sameTexts_s (a : (List ByteArray)) (b : (List ByteArray)) : Option Bool :=
  bif (!decide ((a.length : Int) = (b.length : Int))) then (
    some false)
  else (
    (signetlaw19_sameTexts_p0 (0 : Int) a b).bind fun o1 => (Sum.elim (fun (o1_0 : Bool) =>
      some o1_0) (fun (o1_1 : Unit) =>
      some true)) o1)
noncomputable def signetlaw19_sameTexts_G : Nat → Option CQ := tblQ []
theorem signetlaw19_sameTexts_Gok : ∀ f C, signetlaw19_sameTexts_G f = some C → ValidQ Try.prog f C := fun f C h => by cases h
def signetlaw19_sameTexts_d0 := (dQS (dCons (dSl 0 (dVC (dCO (dO 0)))) (dCons (dSl 1 (dVC (dCO (dO 1)))) (dCons (dSl 5 (dVC (dCO (dI .i64)))) dNil))) (dCons (dView .str) (dCons (dView .str) dNil)))
noncomputable def signetlaw19_sameTexts_l0 : SubQ := fun S R kn kx kr => (Dec.d signetlaw19_sameTexts_d0 S).bind fun x => (signetlaw19_sameTexts_p0 x.1.2.2.1 x.2.1 x.2.2.1).bind fun r => (Sum.elim (fun (r_0 : Bool) => kr ⟨[(4, [], .c (.o (.val (.bool r_0))))], [], [.view .str x.2.1, .view .str x.2.2.1]⟩) (fun (r_1 : Unit) => kx 0 ⟨[], [], [.view .str x.2.1, .view .str x.2.2.1]⟩)) r
noncomputable def signetlaw19_sameTexts_L : Nat → SubQ := tblL [(0, signetlaw19_sameTexts_l0)]
theorem signetlaw19_sameTexts_p0_eq (i : Int) (a : List ByteArray) (b : List ByteArray) (R : Type) (kn : QS → Option R) (kx : Nat → QS → Option R) (kr : QS → Option R) :
    interpQ signetlaw19_sameTexts_L signetlaw19_sameTexts_G 2 6 26 signetlaw19_sameTexts_b0 ⟨[(0, [], .c (.o (.own 0))), (1, [], .c (.o (.own 1))), (5, [], .c (.o (.val (.int .i64 i))))], [], [.view .str a, .view .str b]⟩ kn kx kr = (signetlaw19_sameTexts_p0 i a b).bind fun r => (Sum.elim (fun (r_0 : Bool) => kr ⟨[(4, [], .c (.o (.val (.bool r_0))))], [], [.view .str a, .view .str b]⟩) (fun (r_1 : Unit) => kx 0 ⟨[], [], [.view .str a, .view .str b]⟩)) r := by
  refine loop_piece (step := fun x => signetlaw19_sameTexts_p0_step x a b) (enc := fun x => ⟨[(0, [], .c (.o (.own 0))), (1, [], .c (.o (.own 1))), (5, [], .c (.o (.val (.int .i64 x))))], [], [.view .str a, .view .str b]⟩) (ko := fun r => (Sum.elim (fun (r_0 : Bool) => kr ⟨[(4, [], .c (.o (.val (.bool r_0))))], [], [.view .str a, .view .str b]⟩) (fun (r_1 : Unit) => kx 0 ⟨[], [], [.view .str a, .view .str b]⟩)) r) ?_ ?_ i
  · intro x; kernel_rfl
  · intro x ki; simp only [signetlaw19_sameTexts_p0_step, -eq_self, bind_cond, bind_gd, Option.bind_assoc, Option.bind_some, Sum.elim_inl, Sum.elim_inr, bind_elim]; kernel_rfl
theorem signetlaw19_sameTexts_sub0 : SubOK signetlaw19_sameTexts_L signetlaw19_sameTexts_G 2 6 26 0 signetlaw19_sameTexts_b0 := sub_ok' signetlaw19_sameTexts_d0 (fun x R kn kx kr => (signetlaw19_sameTexts_p0 x.1.2.2.1 x.2.1 x.2.2.1).bind fun r => (Sum.elim (fun (r_0 : Bool) => kr ⟨[(4, [], .c (.o (.val (.bool r_0))))], [], [.view .str x.2.1, .view .str x.2.2.1]⟩) (fun (r_1 : Unit) => kx 0 ⟨[], [], [.view .str x.2.1, .view .str x.2.2.1]⟩)) r) (by kernel_rfl) fun x R kn kx kr => signetlaw19_sameTexts_p0_eq x.1.2.2.1 x.2.1 x.2.2.1 R kn kx kr
theorem signetlaw19_sameTexts_subs : subsOK signetlaw19_sameTexts_L signetlaw19_sameTexts_G 2 6 26 signetlaw19_sameTexts_q := subs_of (show AllSub signetlaw19_sameTexts_L signetlaw19_sameTexts_G 2 6 26 [(0, signetlaw19_sameTexts_b0)] from ⟨signetlaw19_sameTexts_sub0, trivial⟩)
theorem signetlaw19_sameTexts_eq (a : (List ByteArray)) (b : (List ByteArray)) (R : Type) (k : SV → List SB → Option R) :
    fnQ signetlaw19_sameTexts_L signetlaw19_sameTexts_G 6 26 signetlaw19_sameTexts_q [.tmp 4] [.c (.o (.own 0)), .c (.o (.own 1))] [.view .str a, .view .str b] k = (signetlaw19_sameTexts_s a b).bind fun r => k (.c (.o (.val (.bool r)))) [.view .str a, .view .str b] := by
  simp only [signetlaw19_sameTexts_s, -eq_self, bind_cond, bind_gd, Option.bind_assoc, Option.bind_some, Sum.elim_inl, Sum.elim_inr, bind_elim]
  kernel_rfl
def signetlaw19_sameTexts_da := (dCons (dVC (dCO (dO 0))) (dCons (dVC (dCO (dO 1))) dNil))
def signetlaw19_sameTexts_db := (dCons (dView .str) (dCons (dView .str) dNil))
noncomputable def signetlaw19_sameTexts_c : CS := fun args hp R k => (Dec.d signetlaw19_sameTexts_da args).bind fun x => (Dec.d signetlaw19_sameTexts_db hp).bind fun y => (signetlaw19_sameTexts_s y.1 y.2.1).bind fun r => k (.c (.o (.val (.bool r)))) [.view .str y.1, .view .str y.2.1]
theorem signetlaw19_sameTexts_val : ValidS Try.prog 8 signetlaw19_sameTexts_c :=
  val_ok signetlaw19_sameTexts_chk 6 signetlaw19_sameTexts_Gok signetlaw19_sameTexts_da signetlaw19_sameTexts_db 2 (fun x y R k => (signetlaw19_sameTexts_s y.1 y.2.1).bind fun r => k (.c (.o (.val (.bool r)))) [.view .str y.1, .view .str y.2.1]) (by kernel_rfl)
    (fun x y R k => by simp only [Option.bind_assoc, Option.bind_some]) (fun x => Nat.le_of_ble_eq_true rfl) (fun y => rfl) signetlaw19_sameTexts_subs fun x y => signetlaw19_sameTexts_eq y.1 y.2.1 _ _
noncomputable def signetlaw19_sameTexts_w : CQ := prepQ [(0, none, some (.str, 9)), (1, none, some (.str, 9))] (liftV [false, false] signetlaw19_sameTexts_c)
theorem signetlaw19_sameTexts_ok : ValidQ Try.prog 8 signetlaw19_sameTexts_w := prep_quiet signetlaw19_sameTexts_val

/-! ### signet/signetlaw19.sameNodes -/
def signetlaw19_sameNodes_b0 : IQ :=
  (.loop [0, 1, 5]
    (.seq
    (.seq
    (.reg 14 none [
      ⟨(some 11), .mv (.t 5), none⟩,
      ⟨(some 12), .mv (.t 0), none⟩,
      ⟨(some 13), .len (.t 12), none⟩,
      ⟨(some 14), .bin false .lss (.t 11) (.t 13), none⟩])
    (.cond (.t 14)
      .skip
      (.canon [] [] (.exit 0))))
    (.seq
    (.block 1
      (.seq
      (.reg 25 (some [0, 1, 2, 3, 4, 5, 6, 7, 8]) [
        ⟨(some 17), .mv (.t 0), none⟩,
        ⟨(some 18), .mv (.t 5), none⟩,
        ⟨(some 19), .iaddr 6 (.t 17) (.t 18), none⟩,
        ⟨(some 20), .load (some 6) (.t 19), none⟩,
        ⟨(some 21), .mv (.t 1), none⟩,
        ⟨(some 22), .mv (.t 5), none⟩,
        ⟨(some 23), .iaddr 6 (.t 21) (.t 22), none⟩,
        ⟨(some 24), .load (some 6) (.t 23), none⟩,
        ⟨(some 25), .ext (.aggEq true [.int .i64, .str, .str, .bool, .int .i64, .int .i64]) [(.t 20), (.t 24)], none⟩])
      (.cond (.t 25)
        (.seq
        (.reg 4 none [
          ⟨(some 4), .mv (.v (.bool false)), none⟩])
        (.canon [] [4] .ret))
        .skip)))
    (.reg 5 none [
      ⟨(some 15), .mv (.t 5), none⟩,
      ⟨(some 16), .bin false .add (.t 15) (.v (.int .i64 1)), none⟩,
      ⟨(some 5), .mv (.t 16), none⟩]))))
def signetlaw19_sameNodes_q : IQ :=
  (.seq
  (.reg 4 none [
    ⟨(some 4), .mv (.v (.bool false)), none⟩])
  (.seq
  (.seq
  (.reg 10 none [
    ⟨(some 6), .mv (.t 0), none⟩,
    ⟨(some 7), .len (.t 6), none⟩,
    ⟨(some 8), .mv (.t 1), none⟩,
    ⟨(some 9), .len (.t 8), none⟩,
    ⟨(some 10), .bin false .neq (.t 7) (.t 9), none⟩])
  (.cond (.t 10)
    (.seq
    (.reg 4 none [
      ⟨(some 4), .mv (.v (.bool false)), none⟩])
    (.canon [] [4] .ret))
    .skip))
  (.seq
  (.seq
  (.reg 5 none [
    ⟨(some 5), .mv (.v (.int .i64 0)), none⟩])
  (.block 0
    (.canon [] [0, 1, 5] (.sub 0 signetlaw19_sameNodes_b0))))
  (.seq
  (.reg 4 none [
    ⟨(some 4), .mv (.v (.bool true)), none⟩])
  (.canon [] [4] .ret)))))
theorem signetlaw19_sameNodes_chk : chk Try.prog 20 [] = some (signetlaw19_sameNodes_q.erase, [.tmp 4], 26) := by kernel_rfl
noncomputable def signetlaw19_sameNodes_p0_step (i : Int) (a : List Eng.Node) (b : List Eng.Node) : Option (Int ⊕ (Bool ⊕ Unit)) :=
  bif decide (i < (a.length : Int)) then (
    gd (0 ≤ i ∧ i < a.length) <|
    gd ((Int.toNat i) < a.length) <|
    gd (0 ≤ i ∧ i < b.length) <|
    gd ((Int.toNat i) < b.length) <|
    bif (!(decide (((a.getD (Int.toNat i) (ET.dft .node)).kind) = ((b.getD (Int.toNat i) (ET.dft .node)).kind)) && (decide (((a.getD (Int.toNat i) (ET.dft .node)).key) = ((b.getD (Int.toNat i) (ET.dft .node)).key)) && (decide (((a.getD (Int.toNat i) (ET.dft .node)).text) = ((b.getD (Int.toNat i) (ET.dft .node)).text)) && ((((a.getD (Int.toNat i) (ET.dft .node)).whole) == ((b.getD (Int.toNat i) (ET.dft .node)).whole)) && (decide (((a.getD (Int.toNat i) (ET.dft .node)).int) = ((b.getD (Int.toNat i) (ET.dft .node)).int)) && (decide (((a.getD (Int.toNat i) (ET.dft .node)).kids) = ((b.getD (Int.toNat i) (ET.dft .node)).kids)) && true))))))) then (
      some (.inr (.inl false)))
    else (
      gd (InI64 (i + (1 : Int))) <|
      some (.inl (i + (1 : Int)))))
  else (
    some (.inr (.inr ())))
noncomputable def signetlaw19_sameNodes_p0 (i : Int) (a : List Eng.Node) (b : List Eng.Node) : Option (Bool ⊕ Unit) :=
  whileO (fun x : Int => signetlaw19_sameNodes_p0_step x a b) i
noncomputable def signetlaw19_sameNodes_s (a : (List Eng.Node)) (b : (List Eng.Node)) : Option Bool :=
  bif (!decide ((a.length : Int) = (b.length : Int))) then (
    some false)
  else (
    (signetlaw19_sameNodes_p0 (0 : Int) a b).bind fun o1 => (Sum.elim (fun (o1_0 : Bool) =>
      some o1_0) (fun (o1_1 : Unit) =>
      some true)) o1)
noncomputable def signetlaw19_sameNodes_G : Nat → Option CQ := tblQ []
theorem signetlaw19_sameNodes_Gok : ∀ f C, signetlaw19_sameNodes_G f = some C → ValidQ Try.prog f C := fun f C h => by cases h
def signetlaw19_sameNodes_d0 := (dQS (dCons (dSl 0 (dVC (dCO (dO 0)))) (dCons (dSl 1 (dVC (dCO (dO 1)))) (dCons (dSl 5 (dVC (dCO (dI .i64)))) dNil))) (dCons (dView .node) (dCons (dView .node) dNil)))
noncomputable def signetlaw19_sameNodes_l0 : SubQ := fun S R kn kx kr => (Dec.d signetlaw19_sameNodes_d0 S).bind fun x => (signetlaw19_sameNodes_p0 x.1.2.2.1 x.2.1 x.2.2.1).bind fun r => (Sum.elim (fun (r_0 : Bool) => kr ⟨[(4, [], .c (.o (.val (.bool r_0))))], [], [.view .node x.2.1, .view .node x.2.2.1]⟩) (fun (r_1 : Unit) => kx 0 ⟨[], [], [.view .node x.2.1, .view .node x.2.2.1]⟩)) r
noncomputable def signetlaw19_sameNodes_L : Nat → SubQ := tblL [(0, signetlaw19_sameNodes_l0)]
theorem signetlaw19_sameNodes_p0_eq (i : Int) (a : List Eng.Node) (b : List Eng.Node) (R : Type) (kn : QS → Option R) (kx : Nat → QS → Option R) (kr : QS → Option R) :
    interpQ signetlaw19_sameNodes_L signetlaw19_sameNodes_G 2 6 26 signetlaw19_sameNodes_b0 ⟨[(0, [], .c (.o (.own 0))), (1, [], .c (.o (.own 1))), (5, [], .c (.o (.val (.int .i64 i))))], [], [.view .node a, .view .node b]⟩ kn kx kr = (signetlaw19_sameNodes_p0 i a b).bind fun r => (Sum.elim (fun (r_0 : Bool) => kr ⟨[(4, [], .c (.o (.val (.bool r_0))))], [], [.view .node a, .view .node b]⟩) (fun (r_1 : Unit) => kx 0 ⟨[], [], [.view .node a, .view .node b]⟩)) r := by
  refine loop_piece (step := fun x => signetlaw19_sameNodes_p0_step x a b) (enc := fun x => ⟨[(0, [], .c (.o (.own 0))), (1, [], .c (.o (.own 1))), (5, [], .c (.o (.val (.int .i64 x))))], [], [.view .node a, .view .node b]⟩) (ko := fun r => (Sum.elim (fun (r_0 : Bool) => kr ⟨[(4, [], .c (.o (.val (.bool r_0))))], [], [.view .node a, .view .node b]⟩) (fun (r_1 : Unit) => kx 0 ⟨[], [], [.view .node a, .view .node b]⟩)) r) ?_ ?_ i
  · intro x; kernel_rfl
  · intro x ki; simp only [signetlaw19_sameNodes_p0_step, -eq_self, bind_cond, bind_gd, Option.bind_assoc, Option.bind_some, Sum.elim_inl, Sum.elim_inr, bind_elim]; kernel_rfl
theorem signetlaw19_sameNodes_sub0 : SubOK signetlaw19_sameNodes_L signetlaw19_sameNodes_G 2 6 26 0 signetlaw19_sameNodes_b0 := sub_ok' signetlaw19_sameNodes_d0 (fun x R kn kx kr => (signetlaw19_sameNodes_p0 x.1.2.2.1 x.2.1 x.2.2.1).bind fun r => (Sum.elim (fun (r_0 : Bool) => kr ⟨[(4, [], .c (.o (.val (.bool r_0))))], [], [.view .node x.2.1, .view .node x.2.2.1]⟩) (fun (r_1 : Unit) => kx 0 ⟨[], [], [.view .node x.2.1, .view .node x.2.2.1]⟩)) r) (by kernel_rfl) fun x R kn kx kr => signetlaw19_sameNodes_p0_eq x.1.2.2.1 x.2.1 x.2.2.1 R kn kx kr
theorem signetlaw19_sameNodes_subs : subsOK signetlaw19_sameNodes_L signetlaw19_sameNodes_G 2 6 26 signetlaw19_sameNodes_q := subs_of (show AllSub signetlaw19_sameNodes_L signetlaw19_sameNodes_G 2 6 26 [(0, signetlaw19_sameNodes_b0)] from ⟨signetlaw19_sameNodes_sub0, trivial⟩)
theorem signetlaw19_sameNodes_eq (a : (List Eng.Node)) (b : (List Eng.Node)) (R : Type) (k : SV → List SB → Option R) :
    fnQ signetlaw19_sameNodes_L signetlaw19_sameNodes_G 6 26 signetlaw19_sameNodes_q [.tmp 4] [.c (.o (.own 0)), .c (.o (.own 1))] [.view .node a, .view .node b] k = (signetlaw19_sameNodes_s a b).bind fun r => k (.c (.o (.val (.bool r)))) [.view .node a, .view .node b] := by
  simp only [signetlaw19_sameNodes_s, -eq_self, bind_cond, bind_gd, Option.bind_assoc, Option.bind_some, Sum.elim_inl, Sum.elim_inr, bind_elim]
  kernel_rfl
def signetlaw19_sameNodes_da := (dCons (dVC (dCO (dO 0))) (dCons (dVC (dCO (dO 1))) dNil))
def signetlaw19_sameNodes_db := (dCons (dView .node) (dCons (dView .node) dNil))
noncomputable def signetlaw19_sameNodes_c : CS := fun args hp R k => (Dec.d signetlaw19_sameNodes_da args).bind fun x => (Dec.d signetlaw19_sameNodes_db hp).bind fun y => (signetlaw19_sameNodes_s y.1 y.2.1).bind fun r => k (.c (.o (.val (.bool r)))) [.view .node y.1, .view .node y.2.1]
theorem signetlaw19_sameNodes_val : ValidS Try.prog 20 signetlaw19_sameNodes_c :=
  val_ok signetlaw19_sameNodes_chk 6 signetlaw19_sameNodes_Gok signetlaw19_sameNodes_da signetlaw19_sameNodes_db 2 (fun x y R k => (signetlaw19_sameNodes_s y.1 y.2.1).bind fun r => k (.c (.o (.val (.bool r)))) [.view .node y.1, .view .node y.2.1]) (by kernel_rfl)
    (fun x y R k => by simp only [Option.bind_assoc, Option.bind_some]) (fun x => Nat.le_of_ble_eq_true rfl) (fun y => rfl) signetlaw19_sameNodes_subs fun x y => signetlaw19_sameNodes_eq y.1 y.2.1 _ _
noncomputable def signetlaw19_sameNodes_w : CQ := prepQ [(0, none, some (.node, 40)), (1, none, some (.node, 40))] (liftV [false, false] signetlaw19_sameNodes_c)
theorem signetlaw19_sameNodes_ok : ValidQ Try.prog 20 signetlaw19_sameNodes_w := prep_quiet signetlaw19_sameNodes_val

/-! ### signet/signetlaw19.same -/
def signetlaw19_same_q : IQ :=
  (.seq
  (.reg 4 none [
    ⟨(some 2), .box 27 15 (.t 0), none⟩,
    ⟨(some 3), .box 27 15 (.t 1), none⟩,
    ⟨(some 4), .mv (.v (.bool false)), none⟩])
  (.seq
  (.reg 4 none [
    ⟨(some 5), .faddr 1 (.t 2), none⟩,
    ⟨(some 6), .load none (.t 5), none⟩,
    ⟨(some 7), .faddr 1 (.t 3), none⟩,
    ⟨(some 8), .load none (.t 7), none⟩,
    ⟨(some 9), .bin false .eql (.t 6) (.t 8), none⟩,
    ⟨(some 10), .mv (.t 9), none⟩,
    ⟨(some 11), .faddr 2 (.t 2), some (10, true)⟩,
    ⟨(some 12), .load none (.t 11), some (10, true)⟩,
    ⟨(some 13), .faddr 2 (.t 3), some (10, true)⟩,
    ⟨(some 14), .load none (.t 13), some (10, true)⟩,
    ⟨(some 15), .beq false (.t 12) (.t 14), some (10, true)⟩,
    ⟨(some 16), .pick (.t 10) (.t 15) (.v (.bool false)), none⟩,
    ⟨(some 17), .mv (.t 16), none⟩,
    ⟨(some 18), .faddr 3 (.t 2), some (17, true)⟩,
    ⟨(some 19), .load none (.t 18), some (17, true)⟩,
    ⟨(some 20), .faddr 3 (.t 3), some (17, true)⟩,
    ⟨(some 21), .load none (.t 20), some (17, true)⟩,
    ⟨(some 22), .bin false .eql (.t 19) (.t 21), some (17, true)⟩,
    ⟨(some 23), .pick (.t 17) (.t 22) (.v (.bool false)), none⟩,
    ⟨(some 24), .mv (.t 23), none⟩,
    ⟨(some 25), .faddr 4 (.t 2), some (24, true)⟩,
    ⟨(some 26), .load none (.t 25), some (24, true)⟩,
    ⟨(some 27), .faddr 4 (.t 3), some (24, true)⟩,
    ⟨(some 28), .load none (.t 27), some (24, true)⟩,
    ⟨(some 29), .beq false (.t 26) (.t 28), some (24, true)⟩,
    ⟨(some 30), .pick (.t 24) (.t 29) (.v (.bool false)), none⟩,
    ⟨(some 31), .mv (.t 30), none⟩,
    ⟨(some 32), .faddr 5 (.t 2), some (31, true)⟩,
    ⟨(some 33), .load none (.t 32), some (31, true)⟩,
    ⟨(some 34), .faddr 5 (.t 3), some (31, true)⟩,
    ⟨(some 35), .load none (.t 34), some (31, true)⟩,
    ⟨(some 36), .call 8 [(.t 33), (.t 35)], some (31, true)⟩,
    ⟨(some 37), .pick (.t 31) (.t 36) (.v (.bool false)), none⟩,
    ⟨(some 38), .mv (.t 37), none⟩,
    ⟨(some 39), .faddr 6 (.t 2), some (38, true)⟩,
    ⟨(some 40), .load none (.t 39), some (38, true)⟩,
    ⟨(some 41), .faddr 6 (.t 3), some (38, true)⟩,
    ⟨(some 42), .load none (.t 41), some (38, true)⟩,
    ⟨(some 43), .beq false (.t 40) (.t 42), some (38, true)⟩,
    ⟨(some 44), .pick (.t 38) (.t 43) (.v (.bool false)), none⟩,
    ⟨(some 45), .mv (.t 44), none⟩,
    ⟨(some 46), .faddr 7 (.t 2), some (45, true)⟩,
    ⟨(some 47), .load none (.t 46), some (45, true)⟩,
    ⟨(some 48), .faddr 7 (.t 3), some (45, true)⟩,
    ⟨(some 49), .load none (.t 48), some (45, true)⟩,
    ⟨(some 50), .bin false .eql (.t 47) (.t 49), some (45, true)⟩,
    ⟨(some 51), .pick (.t 45) (.t 50) (.v (.bool false)), none⟩,
    ⟨(some 52), .mv (.t 51), none⟩,
    ⟨(some 53), .faddr 8 (.t 2), some (52, true)⟩,
    ⟨(some 54), .load none (.t 53), some (52, true)⟩,
    ⟨(some 55), .faddr 8 (.t 3), some (52, true)⟩,
    ⟨(some 56), .load none (.t 55), some (52, true)⟩,
    ⟨(some 57), .beq false (.t 54) (.t 56), some (52, true)⟩,
    ⟨(some 58), .pick (.t 52) (.t 57) (.v (.bool false)), none⟩,
    ⟨(some 59), .mv (.t 58), none⟩,
    ⟨(some 60), .faddr 9 (.t 2), some (59, true)⟩,
    ⟨(some 61), .load (some 2) (.t 60), some (59, true)⟩,
    ⟨(some 62), .faddr 9 (.t 3), some (59, true)⟩,
    ⟨(some 63), .load (some 2) (.t 62), some (59, true)⟩,
    ⟨(some 64), .ext (.aggEq false [.bool, .int .i64]) [(.t 61), (.t 63)], some (59, true)⟩,
    ⟨(some 65), .pick (.t 59) (.t 64) (.v (.bool false)), none⟩,
    ⟨(some 66), .mv (.t 65), none⟩,
    ⟨(some 67), .faddr 11 (.t 2), some (66, true)⟩,
    ⟨(some 68), .load (some 2) (.t 67), some (66, true)⟩,
    ⟨(some 69), .faddr 11 (.t 3), some (66, true)⟩,
    ⟨(some 70), .load (some 2) (.t 69), some (66, true)⟩,
    ⟨(some 71), .ext (.aggEq false [.bool, .int .i64]) [(.t 68), (.t 70)], some (66, true)⟩,
    ⟨(some 72), .pick (.t 66) (.t 71) (.v (.bool false)), none⟩,
    ⟨(some 73), .mv (.t 72), none⟩,
    ⟨(some 74), .faddr 13 (.t 2), some (73, true)⟩,
    ⟨(some 75), .load (some 2) (.t 74), some (73, true)⟩,
    ⟨(some 76), .faddr 13 (.t 3), some (73, true)⟩,
    ⟨(some 77), .load (some 2) (.t 76), some (73, true)⟩,
    ⟨(some 78), .ext (.aggEq false [.bool, .int .i64]) [(.t 75), (.t 77)], some (73, true)⟩,
    ⟨(some 79), .pick (.t 73) (.t 78) (.v (.bool false)), none⟩,
    ⟨(some 80), .mv (.t 79), none⟩,
    ⟨(some 81), .faddr 0 (.t 2), some (80, true)⟩,
    ⟨(some 82), .load none (.t 81), some (80, true)⟩,
    ⟨(some 83), .faddr 0 (.t 3), some (80, true)⟩,
    ⟨(some 84), .load none (.t 83), some (80, true)⟩,
    ⟨(some 85), .call 20 [(.t 82), (.t 84)], some (80, true)⟩,
    ⟨(some 86), .pick (.t 80) (.t 85) (.v (.bool false)), none⟩,
    ⟨(some 4), .mv (.t 86), none⟩])
  (.canon [] [4] .ret)))
theorem signetlaw19_same_chk : chk Try.prog 14 [] = some (signetlaw19_same_q.erase, [.tmp 4], 87) := by kernel_rfl
noncomputable def signetlaw19_same_s (a : api_Claims) (b : api_Claims) : Option Bool :=
  bif ((((decide (a.iss = b.iss)) && (a.hasIss == b.hasIss)) && (decide (a.sub = b.sub))) && (a.hasSub == b.hasSub)) then (
    (signetlaw19_sameTexts_s a.aud b.aud).bind fun r1 =>
    bif ((((((r1 && (a.hasAud == b.hasAud)) && (decide (a.jti = b.jti))) && (a.hasJti == b.hasJti)) && ((a.exp_.has == b.exp_.has) && (decide (a.exp_.at_ = b.exp_.at_) && true))) && ((a.nbf.has == b.nbf.has) && (decide (a.nbf.at_ = b.nbf.at_) && true))) && ((a.iat.has == b.iat.has) && (decide (a.iat.at_ = b.iat.at_) && true))) then (
      (signetlaw19_sameNodes_s a.value b.value).bind fun r2 =>
      some r2)
    else (
      some false))
  else (
    some false)
noncomputable def signetlaw19_same_G : Nat → Option CQ := tblQ [(8, signetlaw19_sameTexts_w), (20, signetlaw19_sameNodes_w)]
theorem signetlaw19_same_Gok : ∀ f C, signetlaw19_same_G f = some C → ValidQ Try.prog f C := tblQ_valid ⟨signetlaw19_sameTexts_ok, signetlaw19_sameNodes_ok, trivial⟩
noncomputable def signetlaw19_same_L : Nat → SubQ := tblL []
theorem signetlaw19_same_subs : subsOK signetlaw19_same_L signetlaw19_same_G 4 5 87 signetlaw19_same_q := subs_of (show AllSub signetlaw19_same_L signetlaw19_same_G 4 5 87 [] from trivial)
theorem signetlaw19_same_eq (a : api_Claims) (b : api_Claims) (R : Type) (k : SV → List SB → Option R) :
    fnQ signetlaw19_same_L signetlaw19_same_G 5 87 signetlaw19_same_q [.tmp 4] [.c (.agg [.own 0, .val (.string a.iss), .val (.bool a.hasIss), .val (.string a.sub), .val (.bool a.hasSub), .own 1, .val (.bool a.hasAud), .val (.string a.jti), .val (.bool a.hasJti), .val (.bool a.exp_.has), .val (.int .i64 a.exp_.at_), .val (.bool a.nbf.has), .val (.int .i64 a.nbf.at_), .val (.bool a.iat.has), .val (.int .i64 a.iat.at_)]), .c (.agg [.own 2, .val (.string b.iss), .val (.bool b.hasIss), .val (.string b.sub), .val (.bool b.hasSub), .own 3, .val (.bool b.hasAud), .val (.string b.jti), .val (.bool b.hasJti), .val (.bool b.exp_.has), .val (.int .i64 b.exp_.at_), .val (.bool b.nbf.has), .val (.int .i64 b.nbf.at_), .val (.bool b.iat.has), .val (.int .i64 b.iat.at_)])] [.view .node a.value, .view .str a.aud, .view .node b.value, .view .str b.aud] k = (signetlaw19_same_s a b).bind fun r => k (.c (.o (.val (.bool r)))) [.view .node a.value, .view .str a.aud, .view .node b.value, .view .str b.aud] := by
  simp only [signetlaw19_same_s, -eq_self, bind_cond, bind_gd, Option.bind_assoc, Option.bind_some, Sum.elim_inl, Sum.elim_inr, bind_elim]
  kernel_rfl
def signetlaw19_same_da := (dCons (dVC (dCA (dCons (dO 0) (dCons dS (dCons dB (dCons dS (dCons dB (dCons (dO 1) (dCons dB (dCons dS (dCons dB (dCons dB (dCons (dI .i64) (dCons dB (dCons (dI .i64) (dCons dB (dCons (dI .i64) dNil))))))))))))))))) (dCons (dVC (dCA (dCons (dO 2) (dCons dS (dCons dB (dCons dS (dCons dB (dCons (dO 3) (dCons dB (dCons dS (dCons dB (dCons dB (dCons (dI .i64) (dCons dB (dCons (dI .i64) (dCons dB (dCons (dI .i64) dNil))))))))))))))))) dNil))
def signetlaw19_same_db := (dCons (dView .node) (dCons (dView .str) (dCons (dView .node) (dCons (dView .str) dNil))))
noncomputable def signetlaw19_same_c : CS := fun args hp R k => (Dec.d signetlaw19_same_da args).bind fun x => (Dec.d signetlaw19_same_db hp).bind fun y => (signetlaw19_same_s (⟨y.1, x.1.2.1, x.1.2.2.1, x.1.2.2.2.1, x.1.2.2.2.2.1, y.2.1, x.1.2.2.2.2.2.2.1, x.1.2.2.2.2.2.2.2.1, x.1.2.2.2.2.2.2.2.2.1, (⟨x.1.2.2.2.2.2.2.2.2.2.1, x.1.2.2.2.2.2.2.2.2.2.2.1⟩ : api_Time), (⟨x.1.2.2.2.2.2.2.2.2.2.2.2.1, x.1.2.2.2.2.2.2.2.2.2.2.2.2.1⟩ : api_Time), (⟨x.1.2.2.2.2.2.2.2.2.2.2.2.2.2.1, x.1.2.2.2.2.2.2.2.2.2.2.2.2.2.2.1⟩ : api_Time)⟩ : api_Claims) (⟨y.2.2.1, x.2.1.2.1, x.2.1.2.2.1, x.2.1.2.2.2.1, x.2.1.2.2.2.2.1, y.2.2.2.1, x.2.1.2.2.2.2.2.2.1, x.2.1.2.2.2.2.2.2.2.1, x.2.1.2.2.2.2.2.2.2.2.1, (⟨x.2.1.2.2.2.2.2.2.2.2.2.1, x.2.1.2.2.2.2.2.2.2.2.2.2.1⟩ : api_Time), (⟨x.2.1.2.2.2.2.2.2.2.2.2.2.2.1, x.2.1.2.2.2.2.2.2.2.2.2.2.2.2.1⟩ : api_Time), (⟨x.2.1.2.2.2.2.2.2.2.2.2.2.2.2.2.1, x.2.1.2.2.2.2.2.2.2.2.2.2.2.2.2.2.1⟩ : api_Time)⟩ : api_Claims)).bind fun r => k (.c (.o (.val (.bool r)))) [.view .node y.1, .view .str y.2.1, .view .node y.2.2.1, .view .str y.2.2.2.1]
theorem signetlaw19_same_val : ValidS Try.prog 14 signetlaw19_same_c :=
  val_ok signetlaw19_same_chk 5 signetlaw19_same_Gok signetlaw19_same_da signetlaw19_same_db 4 (fun x y R k => (signetlaw19_same_s (⟨y.1, x.1.2.1, x.1.2.2.1, x.1.2.2.2.1, x.1.2.2.2.2.1, y.2.1, x.1.2.2.2.2.2.2.1, x.1.2.2.2.2.2.2.2.1, x.1.2.2.2.2.2.2.2.2.1, (⟨x.1.2.2.2.2.2.2.2.2.2.1, x.1.2.2.2.2.2.2.2.2.2.2.1⟩ : api_Time), (⟨x.1.2.2.2.2.2.2.2.2.2.2.2.1, x.1.2.2.2.2.2.2.2.2.2.2.2.2.1⟩ : api_Time), (⟨x.1.2.2.2.2.2.2.2.2.2.2.2.2.2.1, x.1.2.2.2.2.2.2.2.2.2.2.2.2.2.2.1⟩ : api_Time)⟩ : api_Claims) (⟨y.2.2.1, x.2.1.2.1, x.2.1.2.2.1, x.2.1.2.2.2.1, x.2.1.2.2.2.2.1, y.2.2.2.1, x.2.1.2.2.2.2.2.2.1, x.2.1.2.2.2.2.2.2.2.1, x.2.1.2.2.2.2.2.2.2.2.1, (⟨x.2.1.2.2.2.2.2.2.2.2.2.1, x.2.1.2.2.2.2.2.2.2.2.2.2.1⟩ : api_Time), (⟨x.2.1.2.2.2.2.2.2.2.2.2.2.2.1, x.2.1.2.2.2.2.2.2.2.2.2.2.2.2.1⟩ : api_Time), (⟨x.2.1.2.2.2.2.2.2.2.2.2.2.2.2.2.1, x.2.1.2.2.2.2.2.2.2.2.2.2.2.2.2.2.1⟩ : api_Time)⟩ : api_Claims)).bind fun r => k (.c (.o (.val (.bool r)))) [.view .node y.1, .view .str y.2.1, .view .node y.2.2.1, .view .str y.2.2.2.1]) (by kernel_rfl)
    (fun x y R k => by simp only [Option.bind_assoc, Option.bind_some]) (fun x => Nat.le_of_ble_eq_true rfl) (fun y => rfl) signetlaw19_same_subs fun x y => signetlaw19_same_eq (⟨y.1, x.1.2.1, x.1.2.2.1, x.1.2.2.2.1, x.1.2.2.2.2.1, y.2.1, x.1.2.2.2.2.2.2.1, x.1.2.2.2.2.2.2.2.1, x.1.2.2.2.2.2.2.2.2.1, (⟨x.1.2.2.2.2.2.2.2.2.2.1, x.1.2.2.2.2.2.2.2.2.2.2.1⟩ : api_Time), (⟨x.1.2.2.2.2.2.2.2.2.2.2.2.1, x.1.2.2.2.2.2.2.2.2.2.2.2.2.1⟩ : api_Time), (⟨x.1.2.2.2.2.2.2.2.2.2.2.2.2.2.1, x.1.2.2.2.2.2.2.2.2.2.2.2.2.2.2.1⟩ : api_Time)⟩ : api_Claims) (⟨y.2.2.1, x.2.1.2.1, x.2.1.2.2.1, x.2.1.2.2.2.1, x.2.1.2.2.2.2.1, y.2.2.2.1, x.2.1.2.2.2.2.2.2.1, x.2.1.2.2.2.2.2.2.2.1, x.2.1.2.2.2.2.2.2.2.2.1, (⟨x.2.1.2.2.2.2.2.2.2.2.2.1, x.2.1.2.2.2.2.2.2.2.2.2.2.1⟩ : api_Time), (⟨x.2.1.2.2.2.2.2.2.2.2.2.2.2.1, x.2.1.2.2.2.2.2.2.2.2.2.2.2.2.1⟩ : api_Time), (⟨x.2.1.2.2.2.2.2.2.2.2.2.2.2.2.2.1, x.2.1.2.2.2.2.2.2.2.2.2.2.2.2.2.2.1⟩ : api_Time)⟩ : api_Claims) _ _
noncomputable def signetlaw19_same_w : CQ := prepQ [(0, some 0, some (.node, 40)), (0, some 5, some (.str, 9)), (1, some 0, some (.node, 40)), (1, some 5, some (.str, 9))] (liftV [false, false, false, false] signetlaw19_same_c)
theorem signetlaw19_same_ok : ValidQ Try.prog 14 signetlaw19_same_w := prep_quiet signetlaw19_same_val

/-! ### signet/signetlaw19.spared -/
def signetlaw19_spared_q : IQ :=
  (.seq
  (.reg 4 none [
    ⟨(some 2), .box 27 15 (.t 0), none⟩,
    ⟨(some 3), .box 27 15 (.t 1), none⟩,
    ⟨(some 4), .mv (.v (.bool false)), none⟩])
  (.seq
  (.reg 5 none [
    ⟨(some 9), .faddr 0 (.t 3), none⟩,
    ⟨(some 10), .load none (.t 9), none⟩,
    ⟨(some 11), .len (.t 10), none⟩,
    ⟨(some 5), .mv (.t 11), none⟩])
  (.seq
  (.reg 6 none [
    ⟨(some 12), .faddr 5 (.t 3), none⟩,
    ⟨(some 13), .load none (.t 12), none⟩,
    ⟨(some 14), .len (.t 13), none⟩,
    ⟨(some 6), .mv (.t 14), none⟩])
  (.seq
  (.seq
  (.reg 18 none [
    ⟨(some 15), .load (some 15) (.t 2), none⟩,
    ⟨(some 16), .load (some 15) (.t 3), none⟩,
    ⟨(some 17), .call 14 [(.t 15), (.t 16)], none⟩,
    ⟨(some 18), .un .not (.t 17), none⟩])
  (.cond (.t 18)
    (.seq
    (.reg 4 none [
      ⟨(some 4), .mv (.v (.bool false)), none⟩])
    (.canon [] [4] .ret))
    .skip))
  (.seq
  (.reg 7 none [
    ⟨(some 19), .faddr 0 (.t 2), none⟩,
    ⟨(some 20), .load none (.t 19), none⟩,
    ⟨(some 21), .mv (.t 5), none⟩,
    ⟨(some 22), .bin false .add (.t 21) (.v (.int .i64 2)), none⟩,
    ⟨(some 23), .sub (some 6) (.t 20) none (some (.t 22)), none⟩,
    ⟨(some 7), .mv (.t 23), none⟩])
  (.seq
  (.reg 8 none [
    ⟨(some 24), .faddr 5 (.t 2), none⟩,
    ⟨(some 25), .load none (.t 24), none⟩,
    ⟨(some 26), .mv (.t 6), none⟩,
    ⟨(some 27), .bin false .add (.t 26) (.v (.int .i64 2)), none⟩,
    ⟨(some 28), .sub (some 1) (.t 25) none (some (.t 27)), none⟩,
    ⟨(some 8), .mv (.t 28), none⟩])
  (.seq
  (.reg 4 none [
    ⟨(some 29), .mv (.t 7), none⟩,
    ⟨(some 30), .mv (.t 5), none⟩,
    ⟨(some 31), .iaddr 6 (.t 29) (.t 30), none⟩,
    ⟨(some 32), .load (some 6) (.t 31), none⟩,
    ⟨(some 33), .build [.int .i64 0, .string ⟨#[]⟩, .string ⟨#[]⟩, .bool false, .int .i64 0, .int .i64 0] [(2, 1, (.v (.string ⟨#[109, 97, 114, 107]⟩)))], none⟩,
    ⟨(some 34), .ext (.aggEq false [.int .i64, .str, .str, .bool, .int .i64, .int .i64]) [(.t 32), (.t 33)], none⟩,
    ⟨(some 35), .mv (.t 34), none⟩,
    ⟨(some 36), .mv (.t 7), some (35, true)⟩,
    ⟨(some 37), .mv (.t 5), some (35, true)⟩,
    ⟨(some 38), .bin false .add (.t 37) (.v (.int .i64 1)), some (35, true)⟩,
    ⟨(some 39), .iaddr 6 (.t 36) (.t 38), some (35, true)⟩,
    ⟨(some 40), .load (some 6) (.t 39), some (35, true)⟩,
    ⟨(some 41), .build [.int .i64 0, .string ⟨#[]⟩, .string ⟨#[]⟩, .bool false, .int .i64 0, .int .i64 0] [(2, 1, (.v (.string ⟨#[109, 97, 114, 107]⟩)))], some (35, true)⟩,
    ⟨(some 42), .ext (.aggEq false [.int .i64, .str, .str, .bool, .int .i64, .int .i64]) [(.t 40), (.t 41)], some (35, true)⟩,
    ⟨(some 43), .pick (.t 35) (.t 42) (.v (.bool false)), none⟩,
    ⟨(some 44), .mv (.t 43), none⟩,
    ⟨(some 45), .mv (.t 8), some (44, true)⟩,
    ⟨(some 46), .mv (.t 6), some (44, true)⟩,
    ⟨(some 47), .iaddr 1 (.t 45) (.t 46), some (44, true)⟩,
    ⟨(some 48), .load none (.t 47), some (44, true)⟩,
    ⟨(some 49), .bin false .eql (.t 48) (.v (.string ⟨#[109, 97, 114, 107]⟩)), some (44, true)⟩,
    ⟨(some 50), .pick (.t 44) (.t 49) (.v (.bool false)), none⟩,
    ⟨(some 51), .mv (.t 50), none⟩,
    ⟨(some 52), .mv (.t 8), some (51, true)⟩,
    ⟨(some 53), .mv (.t 6), some (51, true)⟩,
    ⟨(some 54), .bin false .add (.t 53) (.v (.int .i64 1)), some (51, true)⟩,
    ⟨(some 55), .iaddr 1 (.t 52) (.t 54), some (51, true)⟩,
    ⟨(some 56), .load none (.t 55), some (51, true)⟩,
    ⟨(some 57), .bin false .eql (.t 56) (.v (.string ⟨#[109, 97, 114, 107]⟩)), some (51, true)⟩,
    ⟨(some 58), .pick (.t 51) (.t 57) (.v (.bool false)), none⟩,
    ⟨(some 4), .mv (.t 58), none⟩])
  (.canon [] [4] .ret))))))))
theorem signetlaw19_spared_chk : chk Try.prog 7 [] = some (signetlaw19_spared_q.erase, [.tmp 4], 59) := by kernel_rfl
noncomputable def signetlaw19_spared_s (d : api_Claims) (c : api_Claims) (d_value_lo : Nat) (d_value_n : Nat) (d_aud_lo : Nat) (d_aud_n : Nat) : Option Bool :=
  gd (d_value_lo + d_value_n ≤ d.value.length) <|
  gd (d_aud_lo + d_aud_n ≤ d.aud.length) <|
  (signetlaw19_same_s (⟨((d.value.drop d_value_lo).take d_value_n), d.iss, d.hasIss, d.sub, d.hasSub, ((d.aud.drop d_aud_lo).take d_aud_n), d.hasAud, d.jti, d.hasJti, d.exp_, d.nbf, d.iat⟩ : api_Claims) c).bind fun r1 =>
  bif (!r1) then (
    some false)
  else (
    gd (InI64 ((c.value.length : Int) + (2 : Int))) <|
    gd (0 ≤ (0 : Int) ∧ (0 : Int) ≤ ((c.value.length : Int) + (2 : Int)) ∧ ((d_value_lo : Nat) : Int) + ((c.value.length : Int) + (2 : Int)) ≤ (d.value.length : Int)) <|
    gd (InI64 ((c.aud.length : Int) + (2 : Int))) <|
    gd (0 ≤ (0 : Int) ∧ (0 : Int) ≤ ((c.aud.length : Int) + (2 : Int)) ∧ ((d_aud_lo : Nat) : Int) + ((c.aud.length : Int) + (2 : Int)) ≤ (d.aud.length : Int)) <|
    gd (0 ≤ (c.value.length : Int) ∧ (c.value.length : Int) < (((Int.toNat ((c.value.length : Int) + (2 : Int))) : Nat) : Int)) <|
    gd ((d_value_lo + Int.toNat (c.value.length : Int)) < d.value.length) <|
    gd ((decide (((d.value.getD (d_value_lo + Int.toNat (c.value.length : Int)) (ET.dft .node)).kind) = (0 : Int)) && (decide (((d.value.getD (d_value_lo + Int.toNat (c.value.length : Int)) (ET.dft .node)).key) = (⟨#[]⟩ : ByteArray)) && (decide (((d.value.getD (d_value_lo + Int.toNat (c.value.length : Int)) (ET.dft .node)).text) = (⟨#[109, 97, 114, 107]⟩ : ByteArray)) && ((((d.value.getD (d_value_lo + Int.toNat (c.value.length : Int)) (ET.dft .node)).whole) == false) && (decide (((d.value.getD (d_value_lo + Int.toNat (c.value.length : Int)) (ET.dft .node)).int) = (0 : Int)) && (decide (((d.value.getD (d_value_lo + Int.toNat (c.value.length : Int)) (ET.dft .node)).kids) = (0 : Int)) && true)))))) = true → InI64 ((c.value.length : Int) + (1 : Int))) <|
    gd ((decide (((d.value.getD (d_value_lo + Int.toNat (c.value.length : Int)) (ET.dft .node)).kind) = (0 : Int)) && (decide (((d.value.getD (d_value_lo + Int.toNat (c.value.length : Int)) (ET.dft .node)).key) = (⟨#[]⟩ : ByteArray)) && (decide (((d.value.getD (d_value_lo + Int.toNat (c.value.length : Int)) (ET.dft .node)).text) = (⟨#[109, 97, 114, 107]⟩ : ByteArray)) && ((((d.value.getD (d_value_lo + Int.toNat (c.value.length : Int)) (ET.dft .node)).whole) == false) && (decide (((d.value.getD (d_value_lo + Int.toNat (c.value.length : Int)) (ET.dft .node)).int) = (0 : Int)) && (decide (((d.value.getD (d_value_lo + Int.toNat (c.value.length : Int)) (ET.dft .node)).kids) = (0 : Int)) && true)))))) = true → 0 ≤ ((c.value.length : Int) + (1 : Int)) ∧ ((c.value.length : Int) + (1 : Int)) < (((Int.toNat ((c.value.length : Int) + (2 : Int))) : Nat) : Int)) <|
    gd ((decide (((d.value.getD (d_value_lo + Int.toNat (c.value.length : Int)) (ET.dft .node)).kind) = (0 : Int)) && (decide (((d.value.getD (d_value_lo + Int.toNat (c.value.length : Int)) (ET.dft .node)).key) = (⟨#[]⟩ : ByteArray)) && (decide (((d.value.getD (d_value_lo + Int.toNat (c.value.length : Int)) (ET.dft .node)).text) = (⟨#[109, 97, 114, 107]⟩ : ByteArray)) && ((((d.value.getD (d_value_lo + Int.toNat (c.value.length : Int)) (ET.dft .node)).whole) == false) && (decide (((d.value.getD (d_value_lo + Int.toNat (c.value.length : Int)) (ET.dft .node)).int) = (0 : Int)) && (decide (((d.value.getD (d_value_lo + Int.toNat (c.value.length : Int)) (ET.dft .node)).kids) = (0 : Int)) && true)))))) = true → (d_value_lo + Int.toNat ((c.value.length : Int) + (1 : Int))) < d.value.length) <|
    gd (((decide (((d.value.getD (d_value_lo + Int.toNat (c.value.length : Int)) (ET.dft .node)).kind) = (0 : Int)) && (decide (((d.value.getD (d_value_lo + Int.toNat (c.value.length : Int)) (ET.dft .node)).key) = (⟨#[]⟩ : ByteArray)) && (decide (((d.value.getD (d_value_lo + Int.toNat (c.value.length : Int)) (ET.dft .node)).text) = (⟨#[109, 97, 114, 107]⟩ : ByteArray)) && ((((d.value.getD (d_value_lo + Int.toNat (c.value.length : Int)) (ET.dft .node)).whole) == false) && (decide (((d.value.getD (d_value_lo + Int.toNat (c.value.length : Int)) (ET.dft .node)).int) = (0 : Int)) && (decide (((d.value.getD (d_value_lo + Int.toNat (c.value.length : Int)) (ET.dft .node)).kids) = (0 : Int)) && true)))))) && (decide (((d.value.getD (d_value_lo + Int.toNat ((c.value.length : Int) + (1 : Int))) (ET.dft .node)).kind) = (0 : Int)) && (decide (((d.value.getD (d_value_lo + Int.toNat ((c.value.length : Int) + (1 : Int))) (ET.dft .node)).key) = (⟨#[]⟩ : ByteArray)) && (decide (((d.value.getD (d_value_lo + Int.toNat ((c.value.length : Int) + (1 : Int))) (ET.dft .node)).text) = (⟨#[109, 97, 114, 107]⟩ : ByteArray)) && ((((d.value.getD (d_value_lo + Int.toNat ((c.value.length : Int) + (1 : Int))) (ET.dft .node)).whole) == false) && (decide (((d.value.getD (d_value_lo + Int.toNat ((c.value.length : Int) + (1 : Int))) (ET.dft .node)).int) = (0 : Int)) && (decide (((d.value.getD (d_value_lo + Int.toNat ((c.value.length : Int) + (1 : Int))) (ET.dft .node)).kids) = (0 : Int)) && true))))))) = true → 0 ≤ (c.aud.length : Int) ∧ (c.aud.length : Int) < (((Int.toNat ((c.aud.length : Int) + (2 : Int))) : Nat) : Int)) <|
    gd (((decide (((d.value.getD (d_value_lo + Int.toNat (c.value.length : Int)) (ET.dft .node)).kind) = (0 : Int)) && (decide (((d.value.getD (d_value_lo + Int.toNat (c.value.length : Int)) (ET.dft .node)).key) = (⟨#[]⟩ : ByteArray)) && (decide (((d.value.getD (d_value_lo + Int.toNat (c.value.length : Int)) (ET.dft .node)).text) = (⟨#[109, 97, 114, 107]⟩ : ByteArray)) && ((((d.value.getD (d_value_lo + Int.toNat (c.value.length : Int)) (ET.dft .node)).whole) == false) && (decide (((d.value.getD (d_value_lo + Int.toNat (c.value.length : Int)) (ET.dft .node)).int) = (0 : Int)) && (decide (((d.value.getD (d_value_lo + Int.toNat (c.value.length : Int)) (ET.dft .node)).kids) = (0 : Int)) && true)))))) && (decide (((d.value.getD (d_value_lo + Int.toNat ((c.value.length : Int) + (1 : Int))) (ET.dft .node)).kind) = (0 : Int)) && (decide (((d.value.getD (d_value_lo + Int.toNat ((c.value.length : Int) + (1 : Int))) (ET.dft .node)).key) = (⟨#[]⟩ : ByteArray)) && (decide (((d.value.getD (d_value_lo + Int.toNat ((c.value.length : Int) + (1 : Int))) (ET.dft .node)).text) = (⟨#[109, 97, 114, 107]⟩ : ByteArray)) && ((((d.value.getD (d_value_lo + Int.toNat ((c.value.length : Int) + (1 : Int))) (ET.dft .node)).whole) == false) && (decide (((d.value.getD (d_value_lo + Int.toNat ((c.value.length : Int) + (1 : Int))) (ET.dft .node)).int) = (0 : Int)) && (decide (((d.value.getD (d_value_lo + Int.toNat ((c.value.length : Int) + (1 : Int))) (ET.dft .node)).kids) = (0 : Int)) && true))))))) = true → (d_aud_lo + Int.toNat (c.aud.length : Int)) < d.aud.length) <|
    gd ((((decide (((d.value.getD (d_value_lo + Int.toNat (c.value.length : Int)) (ET.dft .node)).kind) = (0 : Int)) && (decide (((d.value.getD (d_value_lo + Int.toNat (c.value.length : Int)) (ET.dft .node)).key) = (⟨#[]⟩ : ByteArray)) && (decide (((d.value.getD (d_value_lo + Int.toNat (c.value.length : Int)) (ET.dft .node)).text) = (⟨#[109, 97, 114, 107]⟩ : ByteArray)) && ((((d.value.getD (d_value_lo + Int.toNat (c.value.length : Int)) (ET.dft .node)).whole) == false) && (decide (((d.value.getD (d_value_lo + Int.toNat (c.value.length : Int)) (ET.dft .node)).int) = (0 : Int)) && (decide (((d.value.getD (d_value_lo + Int.toNat (c.value.length : Int)) (ET.dft .node)).kids) = (0 : Int)) && true)))))) && (decide (((d.value.getD (d_value_lo + Int.toNat ((c.value.length : Int) + (1 : Int))) (ET.dft .node)).kind) = (0 : Int)) && (decide (((d.value.getD (d_value_lo + Int.toNat ((c.value.length : Int) + (1 : Int))) (ET.dft .node)).key) = (⟨#[]⟩ : ByteArray)) && (decide (((d.value.getD (d_value_lo + Int.toNat ((c.value.length : Int) + (1 : Int))) (ET.dft .node)).text) = (⟨#[109, 97, 114, 107]⟩ : ByteArray)) && ((((d.value.getD (d_value_lo + Int.toNat ((c.value.length : Int) + (1 : Int))) (ET.dft .node)).whole) == false) && (decide (((d.value.getD (d_value_lo + Int.toNat ((c.value.length : Int) + (1 : Int))) (ET.dft .node)).int) = (0 : Int)) && (decide (((d.value.getD (d_value_lo + Int.toNat ((c.value.length : Int) + (1 : Int))) (ET.dft .node)).kids) = (0 : Int)) && true))))))) && (decide ((d.aud.getD (d_aud_lo + Int.toNat (c.aud.length : Int)) (ET.dft .str)) = (⟨#[109, 97, 114, 107]⟩ : ByteArray)))) = true → InI64 ((c.aud.length : Int) + (1 : Int))) <|
    gd ((((decide (((d.value.getD (d_value_lo + Int.toNat (c.value.length : Int)) (ET.dft .node)).kind) = (0 : Int)) && (decide (((d.value.getD (d_value_lo + Int.toNat (c.value.length : Int)) (ET.dft .node)).key) = (⟨#[]⟩ : ByteArray)) && (decide (((d.value.getD (d_value_lo + Int.toNat (c.value.length : Int)) (ET.dft .node)).text) = (⟨#[109, 97, 114, 107]⟩ : ByteArray)) && ((((d.value.getD (d_value_lo + Int.toNat (c.value.length : Int)) (ET.dft .node)).whole) == false) && (decide (((d.value.getD (d_value_lo + Int.toNat (c.value.length : Int)) (ET.dft .node)).int) = (0 : Int)) && (decide (((d.value.getD (d_value_lo + Int.toNat (c.value.length : Int)) (ET.dft .node)).kids) = (0 : Int)) && true)))))) && (decide (((d.value.getD (d_value_lo + Int.toNat ((c.value.length : Int) + (1 : Int))) (ET.dft .node)).kind) = (0 : Int)) && (decide (((d.value.getD (d_value_lo + Int.toNat ((c.value.length : Int) + (1 : Int))) (ET.dft .node)).key) = (⟨#[]⟩ : ByteArray)) && (decide (((d.value.getD (d_value_lo + Int.toNat ((c.value.length : Int) + (1 : Int))) (ET.dft .node)).text) = (⟨#[109, 97, 114, 107]⟩ : ByteArray)) && ((((d.value.getD (d_value_lo + Int.toNat ((c.value.length : Int) + (1 : Int))) (ET.dft .node)).whole) == false) && (decide (((d.value.getD (d_value_lo + Int.toNat ((c.value.length : Int) + (1 : Int))) (ET.dft .node)).int) = (0 : Int)) && (decide (((d.value.getD (d_value_lo + Int.toNat ((c.value.length : Int) + (1 : Int))) (ET.dft .node)).kids) = (0 : Int)) && true))))))) && (decide ((d.aud.getD (d_aud_lo + Int.toNat (c.aud.length : Int)) (ET.dft .str)) = (⟨#[109, 97, 114, 107]⟩ : ByteArray)))) = true → 0 ≤ ((c.aud.length : Int) + (1 : Int)) ∧ ((c.aud.length : Int) + (1 : Int)) < (((Int.toNat ((c.aud.length : Int) + (2 : Int))) : Nat) : Int)) <|
    gd ((((decide (((d.value.getD (d_value_lo + Int.toNat (c.value.length : Int)) (ET.dft .node)).kind) = (0 : Int)) && (decide (((d.value.getD (d_value_lo + Int.toNat (c.value.length : Int)) (ET.dft .node)).key) = (⟨#[]⟩ : ByteArray)) && (decide (((d.value.getD (d_value_lo + Int.toNat (c.value.length : Int)) (ET.dft .node)).text) = (⟨#[109, 97, 114, 107]⟩ : ByteArray)) && ((((d.value.getD (d_value_lo + Int.toNat (c.value.length : Int)) (ET.dft .node)).whole) == false) && (decide (((d.value.getD (d_value_lo + Int.toNat (c.value.length : Int)) (ET.dft .node)).int) = (0 : Int)) && (decide (((d.value.getD (d_value_lo + Int.toNat (c.value.length : Int)) (ET.dft .node)).kids) = (0 : Int)) && true)))))) && (decide (((d.value.getD (d_value_lo + Int.toNat ((c.value.length : Int) + (1 : Int))) (ET.dft .node)).kind) = (0 : Int)) && (decide (((d.value.getD (d_value_lo + Int.toNat ((c.value.length : Int) + (1 : Int))) (ET.dft .node)).key) = (⟨#[]⟩ : ByteArray)) && (decide (((d.value.getD (d_value_lo + Int.toNat ((c.value.length : Int) + (1 : Int))) (ET.dft .node)).text) = (⟨#[109, 97, 114, 107]⟩ : ByteArray)) && ((((d.value.getD (d_value_lo + Int.toNat ((c.value.length : Int) + (1 : Int))) (ET.dft .node)).whole) == false) && (decide (((d.value.getD (d_value_lo + Int.toNat ((c.value.length : Int) + (1 : Int))) (ET.dft .node)).int) = (0 : Int)) && (decide (((d.value.getD (d_value_lo + Int.toNat ((c.value.length : Int) + (1 : Int))) (ET.dft .node)).kids) = (0 : Int)) && true))))))) && (decide ((d.aud.getD (d_aud_lo + Int.toNat (c.aud.length : Int)) (ET.dft .str)) = (⟨#[109, 97, 114, 107]⟩ : ByteArray)))) = true → (d_aud_lo + Int.toNat ((c.aud.length : Int) + (1 : Int))) < d.aud.length) <|
    some ((((decide (((d.value.getD (d_value_lo + Int.toNat (c.value.length : Int)) (ET.dft .node)).kind) = (0 : Int)) && (decide (((d.value.getD (d_value_lo + Int.toNat (c.value.length : Int)) (ET.dft .node)).key) = (⟨#[]⟩ : ByteArray)) && (decide (((d.value.getD (d_value_lo + Int.toNat (c.value.length : Int)) (ET.dft .node)).text) = (⟨#[109, 97, 114, 107]⟩ : ByteArray)) && ((((d.value.getD (d_value_lo + Int.toNat (c.value.length : Int)) (ET.dft .node)).whole) == false) && (decide (((d.value.getD (d_value_lo + Int.toNat (c.value.length : Int)) (ET.dft .node)).int) = (0 : Int)) && (decide (((d.value.getD (d_value_lo + Int.toNat (c.value.length : Int)) (ET.dft .node)).kids) = (0 : Int)) && true)))))) && (decide (((d.value.getD (d_value_lo + Int.toNat ((c.value.length : Int) + (1 : Int))) (ET.dft .node)).kind) = (0 : Int)) && (decide (((d.value.getD (d_value_lo + Int.toNat ((c.value.length : Int) + (1 : Int))) (ET.dft .node)).key) = (⟨#[]⟩ : ByteArray)) && (decide (((d.value.getD (d_value_lo + Int.toNat ((c.value.length : Int) + (1 : Int))) (ET.dft .node)).text) = (⟨#[109, 97, 114, 107]⟩ : ByteArray)) && ((((d.value.getD (d_value_lo + Int.toNat ((c.value.length : Int) + (1 : Int))) (ET.dft .node)).whole) == false) && (decide (((d.value.getD (d_value_lo + Int.toNat ((c.value.length : Int) + (1 : Int))) (ET.dft .node)).int) = (0 : Int)) && (decide (((d.value.getD (d_value_lo + Int.toNat ((c.value.length : Int) + (1 : Int))) (ET.dft .node)).kids) = (0 : Int)) && true))))))) && (decide ((d.aud.getD (d_aud_lo + Int.toNat (c.aud.length : Int)) (ET.dft .str)) = (⟨#[109, 97, 114, 107]⟩ : ByteArray)))) && (decide ((d.aud.getD (d_aud_lo + Int.toNat ((c.aud.length : Int) + (1 : Int))) (ET.dft .str)) = (⟨#[109, 97, 114, 107]⟩ : ByteArray)))))
noncomputable def signetlaw19_spared_G : Nat → Option CQ := tblQ [(14, signetlaw19_same_w)]
theorem signetlaw19_spared_Gok : ∀ f C, signetlaw19_spared_G f = some C → ValidQ Try.prog f C := tblQ_valid ⟨signetlaw19_same_ok, trivial⟩
noncomputable def signetlaw19_spared_L : Nat → SubQ := tblL []
theorem signetlaw19_spared_subs : subsOK signetlaw19_spared_L signetlaw19_spared_G 6 9 59 signetlaw19_spared_q := subs_of (show AllSub signetlaw19_spared_L signetlaw19_spared_G 6 9 59 [] from trivial)
theorem signetlaw19_spared_eq (d : api_Claims) (c : api_Claims) (d_value_lo : Nat) (d_value_n : Nat) (d_aud_lo : Nat) (d_aud_n : Nat) (R : Type) (k : SV → List SB → Option R) :
    fnQ signetlaw19_spared_L signetlaw19_spared_G 9 59 signetlaw19_spared_q [.tmp 4] [.c (.agg [.own 0, .val (.string d.iss), .val (.bool d.hasIss), .val (.string d.sub), .val (.bool d.hasSub), .own 1, .val (.bool d.hasAud), .val (.string d.jti), .val (.bool d.hasJti), .val (.bool d.exp_.has), .val (.int .i64 d.exp_.at_), .val (.bool d.nbf.has), .val (.int .i64 d.nbf.at_), .val (.bool d.iat.has), .val (.int .i64 d.iat.at_)]), .c (.agg [.own 2, .val (.string c.iss), .val (.bool c.hasIss), .val (.string c.sub), .val (.bool c.hasSub), .own 3, .val (.bool c.hasAud), .val (.string c.jti), .val (.bool c.hasJti), .val (.bool c.exp_.has), .val (.int .i64 c.exp_.at_), .val (.bool c.nbf.has), .val (.int .i64 c.nbf.at_), .val (.bool c.iat.has), .val (.int .i64 c.iat.at_)])] [.part 4 d_value_lo d_value_n 6, .part 5 d_aud_lo d_aud_n 1, .view .node c.value, .view .str c.aud, .view .node d.value, .view .str d.aud] k = (signetlaw19_spared_s d c d_value_lo d_value_n d_aud_lo d_aud_n).bind fun r => k (.c (.o (.val (.bool r)))) [.part 4 d_value_lo d_value_n 6, .part 5 d_aud_lo d_aud_n 1, .view .node c.value, .view .str c.aud, .view .node d.value, .view .str d.aud] := by
  simp only [signetlaw19_spared_s, -eq_self, bind_cond, bind_gd, Option.bind_assoc, Option.bind_some, Sum.elim_inl, Sum.elim_inr, bind_elim]
  kernel_rfl
def signetlaw19_spared_da := (dCons (dVC (dCA (dCons (dO 0) (dCons dS (dCons dB (dCons dS (dCons dB (dCons (dO 1) (dCons dB (dCons dS (dCons dB (dCons dB (dCons (dI .i64) (dCons dB (dCons (dI .i64) (dCons dB (dCons (dI .i64) dNil))))))))))))))))) (dCons (dVC (dCA (dCons (dO 2) (dCons dS (dCons dB (dCons dS (dCons dB (dCons (dO 3) (dCons dB (dCons dS (dCons dB (dCons dB (dCons (dI .i64) (dCons dB (dCons (dI .i64) (dCons dB (dCons (dI .i64) dNil))))))))))))))))) dNil))
def signetlaw19_spared_db := (dCons (dPart 4 6) (dCons (dPart 5 1) (dCons (dView .node) (dCons (dView .str) (dCons (dView .node) (dCons (dView .str) dNil))))))
noncomputable def signetlaw19_spared_c : CS := fun args hp R k => (Dec.d signetlaw19_spared_da args).bind fun x => (Dec.d signetlaw19_spared_db hp).bind fun y => (signetlaw19_spared_s (⟨y.2.2.2.2.1, x.1.2.1, x.1.2.2.1, x.1.2.2.2.1, x.1.2.2.2.2.1, y.2.2.2.2.2.1, x.1.2.2.2.2.2.2.1, x.1.2.2.2.2.2.2.2.1, x.1.2.2.2.2.2.2.2.2.1, (⟨x.1.2.2.2.2.2.2.2.2.2.1, x.1.2.2.2.2.2.2.2.2.2.2.1⟩ : api_Time), (⟨x.1.2.2.2.2.2.2.2.2.2.2.2.1, x.1.2.2.2.2.2.2.2.2.2.2.2.2.1⟩ : api_Time), (⟨x.1.2.2.2.2.2.2.2.2.2.2.2.2.2.1, x.1.2.2.2.2.2.2.2.2.2.2.2.2.2.2.1⟩ : api_Time)⟩ : api_Claims) (⟨y.2.2.1, x.2.1.2.1, x.2.1.2.2.1, x.2.1.2.2.2.1, x.2.1.2.2.2.2.1, y.2.2.2.1, x.2.1.2.2.2.2.2.2.1, x.2.1.2.2.2.2.2.2.2.1, x.2.1.2.2.2.2.2.2.2.2.1, (⟨x.2.1.2.2.2.2.2.2.2.2.2.1, x.2.1.2.2.2.2.2.2.2.2.2.2.1⟩ : api_Time), (⟨x.2.1.2.2.2.2.2.2.2.2.2.2.2.1, x.2.1.2.2.2.2.2.2.2.2.2.2.2.2.1⟩ : api_Time), (⟨x.2.1.2.2.2.2.2.2.2.2.2.2.2.2.2.1, x.2.1.2.2.2.2.2.2.2.2.2.2.2.2.2.2.1⟩ : api_Time)⟩ : api_Claims) y.1.1 y.1.2 y.2.1.1 y.2.1.2).bind fun r => k (.c (.o (.val (.bool r)))) [.part 4 y.1.1 y.1.2 6, .part 5 y.2.1.1 y.2.1.2 1, .view .node y.2.2.1, .view .str y.2.2.2.1, .view .node y.2.2.2.2.1, .view .str y.2.2.2.2.2.1]
theorem signetlaw19_spared_val : ValidS Try.prog 7 signetlaw19_spared_c :=
  val_ok signetlaw19_spared_chk 9 signetlaw19_spared_Gok signetlaw19_spared_da signetlaw19_spared_db 6 (fun x y R k => (signetlaw19_spared_s (⟨y.2.2.2.2.1, x.1.2.1, x.1.2.2.1, x.1.2.2.2.1, x.1.2.2.2.2.1, y.2.2.2.2.2.1, x.1.2.2.2.2.2.2.1, x.1.2.2.2.2.2.2.2.1, x.1.2.2.2.2.2.2.2.2.1, (⟨x.1.2.2.2.2.2.2.2.2.2.1, x.1.2.2.2.2.2.2.2.2.2.2.1⟩ : api_Time), (⟨x.1.2.2.2.2.2.2.2.2.2.2.2.1, x.1.2.2.2.2.2.2.2.2.2.2.2.2.1⟩ : api_Time), (⟨x.1.2.2.2.2.2.2.2.2.2.2.2.2.2.1, x.1.2.2.2.2.2.2.2.2.2.2.2.2.2.2.1⟩ : api_Time)⟩ : api_Claims) (⟨y.2.2.1, x.2.1.2.1, x.2.1.2.2.1, x.2.1.2.2.2.1, x.2.1.2.2.2.2.1, y.2.2.2.1, x.2.1.2.2.2.2.2.2.1, x.2.1.2.2.2.2.2.2.2.1, x.2.1.2.2.2.2.2.2.2.2.1, (⟨x.2.1.2.2.2.2.2.2.2.2.2.1, x.2.1.2.2.2.2.2.2.2.2.2.2.1⟩ : api_Time), (⟨x.2.1.2.2.2.2.2.2.2.2.2.2.2.1, x.2.1.2.2.2.2.2.2.2.2.2.2.2.2.1⟩ : api_Time), (⟨x.2.1.2.2.2.2.2.2.2.2.2.2.2.2.2.1, x.2.1.2.2.2.2.2.2.2.2.2.2.2.2.2.2.1⟩ : api_Time)⟩ : api_Claims) y.1.1 y.1.2 y.2.1.1 y.2.1.2).bind fun r => k (.c (.o (.val (.bool r)))) [.part 4 y.1.1 y.1.2 6, .part 5 y.2.1.1 y.2.1.2 1, .view .node y.2.2.1, .view .str y.2.2.2.1, .view .node y.2.2.2.2.1, .view .str y.2.2.2.2.2.1]) (by kernel_rfl)
    (fun x y R k => by simp only [Option.bind_assoc, Option.bind_some]) (fun x => Nat.le_of_ble_eq_true rfl) (fun y => rfl) signetlaw19_spared_subs fun x y => signetlaw19_spared_eq (⟨y.2.2.2.2.1, x.1.2.1, x.1.2.2.1, x.1.2.2.2.1, x.1.2.2.2.2.1, y.2.2.2.2.2.1, x.1.2.2.2.2.2.2.1, x.1.2.2.2.2.2.2.2.1, x.1.2.2.2.2.2.2.2.2.1, (⟨x.1.2.2.2.2.2.2.2.2.2.1, x.1.2.2.2.2.2.2.2.2.2.2.1⟩ : api_Time), (⟨x.1.2.2.2.2.2.2.2.2.2.2.2.1, x.1.2.2.2.2.2.2.2.2.2.2.2.2.1⟩ : api_Time), (⟨x.1.2.2.2.2.2.2.2.2.2.2.2.2.2.1, x.1.2.2.2.2.2.2.2.2.2.2.2.2.2.2.1⟩ : api_Time)⟩ : api_Claims) (⟨y.2.2.1, x.2.1.2.1, x.2.1.2.2.1, x.2.1.2.2.2.1, x.2.1.2.2.2.2.1, y.2.2.2.1, x.2.1.2.2.2.2.2.2.1, x.2.1.2.2.2.2.2.2.2.1, x.2.1.2.2.2.2.2.2.2.2.1, (⟨x.2.1.2.2.2.2.2.2.2.2.2.1, x.2.1.2.2.2.2.2.2.2.2.2.2.1⟩ : api_Time), (⟨x.2.1.2.2.2.2.2.2.2.2.2.2.2.1, x.2.1.2.2.2.2.2.2.2.2.2.2.2.2.1⟩ : api_Time), (⟨x.2.1.2.2.2.2.2.2.2.2.2.2.2.2.2.1, x.2.1.2.2.2.2.2.2.2.2.2.2.2.2.2.2.1⟩ : api_Time)⟩ : api_Claims) y.1.1 y.1.2 y.2.1.1 y.2.1.2 _ _
noncomputable def signetlaw19_spared_w : CQ := prepQ [(0, some 0, some (.node, 40)), (0, some 5, some (.str, 9)), (1, some 0, some (.node, 40)), (1, some 5, some (.str, 9))] (liftE [false, false, false, false, false, false] signetlaw19_spared_c)
theorem signetlaw19_spared_ok : ValidQ Try.prog 7 signetlaw19_spared_w := prep_quietE signetlaw19_spared_val

/-! ### signet/signetref19.among -/
def signetref19_among_b0 : IQ :=
  (.loop [0, 1, 5]
    (.seq
    (.seq
    (.reg 9 none [
      ⟨(some 6), .mv (.t 5), none⟩,
      ⟨(some 7), .mv (.t 0), none⟩,
      ⟨(some 8), .len (.t 7), none⟩,
      ⟨(some 9), .bin false .lss (.t 6) (.t 8), none⟩])
    (.cond (.t 9)
      .skip
      (.canon [] [] (.exit 0))))
    (.seq
    (.block 1
      (.seq
      (.reg 17 none [
        ⟨(some 12), .mv (.t 0), none⟩,
        ⟨(some 13), .mv (.t 5), none⟩,
        ⟨(some 14), .iaddr 1 (.t 12) (.t 13), none⟩,
        ⟨(some 15), .load none (.t 14), none⟩,
        ⟨(some 16), .mv (.t 1), none⟩,
        ⟨(some 17), .bin false .eql (.t 15) (.t 16), none⟩])
      (.cond (.t 17)
        (.seq
        (.reg 4 none [
          ⟨(some 4), .mv (.v (.bool true)), none⟩])
        (.canon [] [4] .ret))
        .skip)))
    (.reg 5 none [
      ⟨(some 10), .mv (.t 5), none⟩,
      ⟨(some 11), .bin false .add (.t 10) (.v (.int .i64 1)), none⟩,
      ⟨(some 5), .mv (.t 11), none⟩]))))
def signetref19_among_q : IQ :=
  (.seq
  (.reg 4 none [
    ⟨(some 4), .mv (.v (.bool false)), none⟩])
  (.seq
  (.seq
  (.reg 5 none [
    ⟨(some 5), .mv (.v (.int .i64 0)), none⟩])
  (.block 0
    (.canon [] [0, 1, 5] (.sub 0 signetref19_among_b0))))
  (.seq
  (.reg 4 none [
    ⟨(some 4), .mv (.v (.bool false)), none⟩])
  (.canon [] [4] .ret))))
theorem signetref19_among_chk : chk Try.prog 17 [] = some (signetref19_among_q.erase, [.tmp 4], 18) := by kernel_rfl
noncomputable def signetref19_among_p0_step (s : ByteArray) (i : Int) (l : List ByteArray) : Option (Int ⊕ (Bool ⊕ Unit)) :=
  bif decide (i < (l.length : Int)) then (
    gd (0 ≤ i ∧ i < l.length) <|
    gd ((Int.toNat i) < l.length) <|
    bif decide ((l.getD (Int.toNat i) (ET.dft .str)) = s) then (
      some (.inr (.inl true)))
    else (
      gd (InI64 (i + (1 : Int))) <|
      some (.inl (i + (1 : Int)))))
  else (
    some (.inr (.inr ())))
noncomputable def signetref19_among_p0 (s : ByteArray) (i : Int) (l : List ByteArray) : Option (Bool ⊕ Unit) :=
  whileO (fun x : Int => signetref19_among_p0_step s x l) i
noncomputable def signetref19_among_s (l : (List ByteArray)) (s : ByteArray) : Option Bool :=
  (signetref19_among_p0 s (0 : Int) l).bind fun o1 => (Sum.elim (fun (o1_0 : Bool) =>
    some o1_0) (fun (o1_1 : Unit) =>
    some false)) o1
noncomputable def signetref19_among_G : Nat → Option CQ := tblQ []
theorem signetref19_among_Gok : ∀ f C, signetref19_among_G f = some C → ValidQ Try.prog f C := fun f C h => by cases h
def signetref19_among_d0 := (dQS (dCons (dSl 0 (dVC (dCO (dO 0)))) (dCons (dSl 1 (dVC (dCO dS))) (dCons (dSl 5 (dVC (dCO (dI .i64)))) dNil))) (dCons (dView .str) dNil))
noncomputable def signetref19_among_l0 : SubQ := fun S R kn kx kr => (Dec.d signetref19_among_d0 S).bind fun x => (signetref19_among_p0 x.1.2.1 x.1.2.2.1 x.2.1).bind fun r => (Sum.elim (fun (r_0 : Bool) => kr ⟨[(4, [], .c (.o (.val (.bool r_0))))], [], [.view .str x.2.1]⟩) (fun (r_1 : Unit) => kx 0 ⟨[], [], [.view .str x.2.1]⟩)) r
noncomputable def signetref19_among_L : Nat → SubQ := tblL [(0, signetref19_among_l0)]
theorem signetref19_among_p0_eq (s : ByteArray) (i : Int) (l : List ByteArray) (R : Type) (kn : QS → Option R) (kx : Nat → QS → Option R) (kr : QS → Option R) :
    interpQ signetref19_among_L signetref19_among_G 1 6 18 signetref19_among_b0 ⟨[(0, [], .c (.o (.own 0))), (1, [], .c (.o (.val (.string s)))), (5, [], .c (.o (.val (.int .i64 i))))], [], [.view .str l]⟩ kn kx kr = (signetref19_among_p0 s i l).bind fun r => (Sum.elim (fun (r_0 : Bool) => kr ⟨[(4, [], .c (.o (.val (.bool r_0))))], [], [.view .str l]⟩) (fun (r_1 : Unit) => kx 0 ⟨[], [], [.view .str l]⟩)) r := by
  refine loop_piece (step := fun x => signetref19_among_p0_step s x l) (enc := fun x => ⟨[(0, [], .c (.o (.own 0))), (1, [], .c (.o (.val (.string s)))), (5, [], .c (.o (.val (.int .i64 x))))], [], [.view .str l]⟩) (ko := fun r => (Sum.elim (fun (r_0 : Bool) => kr ⟨[(4, [], .c (.o (.val (.bool r_0))))], [], [.view .str l]⟩) (fun (r_1 : Unit) => kx 0 ⟨[], [], [.view .str l]⟩)) r) ?_ ?_ i
  · intro x; kernel_rfl
  · intro x ki; simp only [signetref19_among_p0_step, -eq_self, bind_cond, bind_gd, Option.bind_assoc, Option.bind_some, Sum.elim_inl, Sum.elim_inr, bind_elim]; kernel_rfl
theorem signetref19_among_sub0 : SubOK signetref19_among_L signetref19_among_G 1 6 18 0 signetref19_among_b0 := sub_ok' signetref19_among_d0 (fun x R kn kx kr => (signetref19_among_p0 x.1.2.1 x.1.2.2.1 x.2.1).bind fun r => (Sum.elim (fun (r_0 : Bool) => kr ⟨[(4, [], .c (.o (.val (.bool r_0))))], [], [.view .str x.2.1]⟩) (fun (r_1 : Unit) => kx 0 ⟨[], [], [.view .str x.2.1]⟩)) r) (by kernel_rfl) fun x R kn kx kr => signetref19_among_p0_eq x.1.2.1 x.1.2.2.1 x.2.1 R kn kx kr
theorem signetref19_among_subs : subsOK signetref19_among_L signetref19_among_G 1 6 18 signetref19_among_q := subs_of (show AllSub signetref19_among_L signetref19_among_G 1 6 18 [(0, signetref19_among_b0)] from ⟨signetref19_among_sub0, trivial⟩)
theorem signetref19_among_eq (l : (List ByteArray)) (s : ByteArray) (R : Type) (k : SV → List SB → Option R) :
    fnQ signetref19_among_L signetref19_among_G 6 18 signetref19_among_q [.tmp 4] [.c (.o (.own 0)), .c (.o (.val (.string s)))] [.view .str l] k = (signetref19_among_s l s).bind fun r => k (.c (.o (.val (.bool r)))) [.view .str l] := by
  simp only [signetref19_among_s, -eq_self, bind_cond, bind_gd, Option.bind_assoc, Option.bind_some, Sum.elim_inl, Sum.elim_inr, bind_elim]
  kernel_rfl
def signetref19_among_da := (dCons (dVC (dCO (dO 0))) (dCons (dVC (dCO dS)) dNil))
def signetref19_among_db := (dCons (dView .str) dNil)
noncomputable def signetref19_among_c : CS := fun args hp R k => (Dec.d signetref19_among_da args).bind fun x => (Dec.d signetref19_among_db hp).bind fun y => (signetref19_among_s y.1 x.2.1).bind fun r => k (.c (.o (.val (.bool r)))) [.view .str y.1]
theorem signetref19_among_val : ValidS Try.prog 17 signetref19_among_c :=
  val_ok signetref19_among_chk 6 signetref19_among_Gok signetref19_among_da signetref19_among_db 1 (fun x y R k => (signetref19_among_s y.1 x.2.1).bind fun r => k (.c (.o (.val (.bool r)))) [.view .str y.1]) (by kernel_rfl)
    (fun x y R k => by simp only [Option.bind_assoc, Option.bind_some]) (fun x => Nat.le_of_ble_eq_true rfl) (fun y => rfl) signetref19_among_subs fun x y => signetref19_among_eq y.1 x.2.1 _ _
noncomputable def signetref19_among_w : CQ := prepQ [(0, none, some (.str, 9))] (liftV [false] signetref19_among_c)
theorem signetref19_among_ok : ValidQ Try.prog 17 signetref19_among_w := prep_quiet signetref19_among_val

/-! ### signet/signetref19.Check -/
def signetref19_Check_b0 : IQ :=
  (.loop [2, 3, 5]
    (.seq
    (.seq
    (.reg 10 none [
      ⟨(some 6), .mv (.t 5), none⟩,
      ⟨(some 7), .faddr 8 (.t 3), none⟩,
      ⟨(some 8), .load none (.t 7), none⟩,
      ⟨(some 9), .len (.t 8), none⟩,
      ⟨(some 10), .bin false .lss (.t 6) (.t 9), none⟩])
    (.cond (.t 10)
      .skip
      (.canon [] [2, 3] (.exit 0))))
    (.seq
    (.block 1
      (.seq
      (.reg 21 (some [0, 1, 2, 3, 4, 5, 6, 7, 8]) [
        ⟨(some 13), .faddr 0 (.t 2), none⟩,
        ⟨(some 14), .load none (.t 13), none⟩,
        ⟨(some 15), .faddr 8 (.t 3), none⟩,
        ⟨(some 16), .load none (.t 15), none⟩,
        ⟨(some 17), .mv (.t 5), none⟩,
        ⟨(some 18), .iaddr 1 (.t 16) (.t 17), none⟩,
        ⟨(some 19), .load none (.t 18), none⟩,
        ⟨(some 20), .call 16 [(.t 14), (.v (.int .i64 0)), (.t 19)], none⟩,
        ⟨(some 21), .bin false .lss (.t 20) (.v (.int .i64 0)), none⟩])
      (.cond (.t 21)
        (.seq
        (.reg 4 none [
          ⟨(some 4), .mv (.v (.int .i64 137)), none⟩])
        (.canon [] [4] .ret))
        .skip)))
    (.reg 5 none [
      ⟨(some 11), .mv (.t 5), none⟩,
      ⟨(some 12), .bin false .add (.t 11) (.v (.int .i64 1)), none⟩,
      ⟨(some 5), .mv (.t 12), none⟩]))))
def signetref19_Check_q : IQ :=
  (.seq
  (.reg 4 none [
    ⟨(some 2), .box 27 15 (.t 0), none⟩,
    ⟨(some 3), .box 29 9 (.t 1), none⟩,
    ⟨(some 4), .mv (.v (.int .i64 0)), none⟩])
  (.seq
  (.seq
  (.reg 5 none [
    ⟨(some 5), .mv (.v (.int .i64 0)), none⟩])
  (.block 0
    (.canon [] [2, 3, 5] (.sub 0 signetref19_Check_b0))))
  (.seq
  (.seq
  (.reg 35 none [
    ⟨(some 22), .faddr 2 (.t 3), none⟩,
    ⟨(some 23), .load none (.t 22), none⟩,
    ⟨(some 24), .mv (.t 23), none⟩,
    ⟨(some 25), .faddr 2 (.t 2), some (24, true)⟩,
    ⟨(some 26), .load none (.t 25), some (24, true)⟩,
    ⟨(some 27), .un .not (.t 26), some (24, true)⟩,
    ⟨(some 28), .mv (.t 27), some (24, true)⟩,
    ⟨(some 29), .faddr 1 (.t 2), some (28, false)⟩,
    ⟨(some 30), .load none (.t 29), some (28, false)⟩,
    ⟨(some 31), .faddr 1 (.t 3), some (28, false)⟩,
    ⟨(some 32), .load none (.t 31), some (28, false)⟩,
    ⟨(some 33), .bin false .neq (.t 30) (.t 32), some (28, false)⟩,
    ⟨(some 34), .pick (.t 28) (.v (.bool true)) (.t 33), some (24, true)⟩,
    ⟨(some 35), .pick (.t 24) (.t 34) (.v (.bool false)), none⟩])
  (.cond (.t 35)
    (.seq
    (.reg 4 none [
      ⟨(some 4), .mv (.v (.int .i64 132)), none⟩])
    (.canon [] [4] .ret))
    .skip))
  (.seq
  (.seq
  (.reg 59 none [
    ⟨(some 36), .faddr 4 (.t 3), none⟩,
    ⟨(some 37), .load none (.t 36), none⟩,
    ⟨(some 38), .mv (.t 37), none⟩,
    ⟨(some 39), .faddr 6 (.t 2), some (38, true)⟩,
    ⟨(some 40), .load none (.t 39), some (38, true)⟩,
    ⟨(some 41), .un .not (.t 40), some (38, true)⟩,
    ⟨(some 42), .mv (.t 41), some (38, true)⟩,
    ⟨(some 43), .faddr 5 (.t 2), some (42, false)⟩,
    ⟨(some 44), .load none (.t 43), some (42, false)⟩,
    ⟨(some 45), .faddr 3 (.t 3), some (42, false)⟩,
    ⟨(some 46), .load none (.t 45), some (42, false)⟩,
    ⟨(some 47), .call 17 [(.t 44), (.t 46)], some (42, false)⟩,
    ⟨(some 48), .un .not (.t 47), some (42, false)⟩,
    ⟨(some 49), .pick (.t 42) (.v (.bool true)) (.t 48), some (38, true)⟩,
    ⟨(some 50), .pick (.t 38) (.t 49) (.v (.bool false)), none⟩,
    ⟨(some 51), .mv (.t 50), none⟩,
    ⟨(some 52), .faddr 4 (.t 3), some (51, false)⟩,
    ⟨(some 53), .load none (.t 52), some (51, false)⟩,
    ⟨(some 54), .un .not (.t 53), some (51, false)⟩,
    ⟨(some 55), .mv (.t 54), some (51, false)⟩,
    ⟨(some 56), .faddr 6 (.t 2), some (55, true)⟩,
    ⟨(some 57), .load none (.t 56), some (55, true)⟩,
    ⟨(some 58), .pick (.t 55) (.t 57) (.v (.bool false)), some (51, false)⟩,
    ⟨(some 59), .pick (.t 51) (.v (.bool true)) (.t 58), none⟩])
  (.cond (.t 59)
    (.seq
    (.reg 4 none [
      ⟨(some 4), .mv (.v (.int .i64 133)), none⟩])
    (.canon [] [4] .ret))
    .skip))
  (.seq
  (.reg 4 none [
    ⟨(some 4), .mv (.v (.int .i64 0)), none⟩])
  (.canon [] [4] .ret))))))
theorem signetref19_Check_chk : chk Try.prog 10 [] = some (signetref19_Check_q.erase, [.tmp 4], 60) := by kernel_rfl
noncomputable def signetref19_Check_p0_step (i : Int) (c_value : List Eng.Node) (p_need : List ByteArray) : Option (Int ⊕ (Int ⊕ Unit)) :=
  bif decide (i < (p_need.length : Int)) then (
    gd (0 ≤ i ∧ i < p_need.length) <|
    gd ((Int.toNat i) < p_need.length) <|
    (signetref3_Member_s c_value (0 : Int) (p_need.getD (Int.toNat i) (ET.dft .str))).bind fun r2 =>
    bif decide (r2 < (0 : Int)) then (
      some (.inr (.inl (137 : Int))))
    else (
      gd (InI64 (i + (1 : Int))) <|
      some (.inl (i + (1 : Int)))))
  else (
    some (.inr (.inr ())))
noncomputable def signetref19_Check_p0 (i : Int) (c_value : List Eng.Node) (p_need : List ByteArray) : Option (Int ⊕ Unit) :=
  whileO (fun x : Int => signetref19_Check_p0_step x c_value p_need) i
noncomputable def signetref19_Check_s (c : api_Claims) (p : api_Policy) : Option Int :=
  (signetref19_Check_p0 (0 : Int) c.value p.need).bind fun o3 => (Sum.elim (fun (o3_0 : Int) =>
    some o3_0) (fun (o3_1 : Unit) =>
    bif (p.hasIss && ((!c.hasIss) || (!decide (c.iss = p.iss)))) then (
      some (132 : Int))
    else (
      bif p.hasAud then (
        bif (!c.hasAud) then (
          some (133 : Int))
        else (
          (signetref19_among_s c.aud p.aud).bind fun r4 =>
          bif ((!r4) || ((!p.hasAud) && c.hasAud)) then (
            some (133 : Int))
          else (
            some (0 : Int))))
      else (
        bif ((!p.hasAud) && c.hasAud) then (
          some (133 : Int))
        else (
          some (0 : Int)))))) o3
noncomputable def signetref19_Check_G : Nat → Option CQ := tblQ [(16, signetref3_Member_w), (17, signetref19_among_w)]
theorem signetref19_Check_Gok : ∀ f C, signetref19_Check_G f = some C → ValidQ Try.prog f C := tblQ_valid ⟨signetref3_Member_ok, signetref19_among_ok, trivial⟩
def signetref19_Check_d0 := (dQS (dCons (dSl 2 (dVC (dCO (dH 4 0)))) (dCons (dSl 3 (dVC (dCO (dH 5 0)))) (dCons (dSl 5 (dVC (dCO (dI .i64)))) dNil))) (dCons (dView .node) (dCons (dView .str) (dCons (dView .str) (dCons (dView .str) (dCons (dCells 27 (dCons (dO 0) (dCons dS (dCons dB (dCons dS (dCons dB (dCons (dO 1) (dCons dB (dCons dS (dCons dB (dCons dB (dCons (dI .i64) (dCons dB (dCons (dI .i64) (dCons dB (dCons (dI .i64) dNil)))))))))))))))) (dCons (dCells 29 (dCons (dO 2) (dCons dS (dCons dB (dCons dS (dCons dB (dCons dS (dCons dB (dCons (dI .i64) (dCons (dO 3) dNil)))))))))) dNil)))))))
noncomputable def signetref19_Check_l0 : SubQ := fun S R kn kx kr => (Dec.d signetref19_Check_d0 S).bind fun x => (signetref19_Check_p0 x.1.2.2.1 x.2.1 x.2.2.2.2.1).bind fun r => (Sum.elim (fun (r_0 : Int) => kr ⟨[(4, [], .c (.o (.val (.int .i64 r_0))))], [], [.view .node x.2.1, .view .str x.2.2.1, .view .str x.2.2.2.1, .view .str x.2.2.2.2.1]⟩) (fun (r_1 : Unit) => kx 0 ⟨[(2, [], .c (.o (.hd 4 0))), (3, [], .c (.o (.hd 5 0)))], [], [.view .node x.2.1, .view .str x.2.2.1, .view .str x.2.2.2.1, .view .str x.2.2.2.2.1, .cells 27 [.own 0, .val (.string x.2.2.2.2.2.1.2.1), .val (.bool x.2.2.2.2.2.1.2.2.1), .val (.string x.2.2.2.2.2.1.2.2.2.1), .val (.bool x.2.2.2.2.2.1.2.2.2.2.1), .own 1, .val (.bool x.2.2.2.2.2.1.2.2.2.2.2.2.1), .val (.string x.2.2.2.2.2.1.2.2.2.2.2.2.2.1), .val (.bool x.2.2.2.2.2.1.2.2.2.2.2.2.2.2.1), .val (.bool x.2.2.2.2.2.1.2.2.2.2.2.2.2.2.2.1), .val (.int .i64 x.2.2.2.2.2.1.2.2.2.2.2.2.2.2.2.2.1), .val (.bool x.2.2.2.2.2.1.2.2.2.2.2.2.2.2.2.2.2.1), .val (.int .i64 x.2.2.2.2.2.1.2.2.2.2.2.2.2.2.2.2.2.2.1), .val (.bool x.2.2.2.2.2.1.2.2.2.2.2.2.2.2.2.2.2.2.2.1), .val (.int .i64 x.2.2.2.2.2.1.2.2.2.2.2.2.2.2.2.2.2.2.2.2.1)], .cells 29 [.own 2, .val (.string x.2.2.2.2.2.2.1.2.1), .val (.bool x.2.2.2.2.2.2.1.2.2.1), .val (.string x.2.2.2.2.2.2.1.2.2.2.1), .val (.bool x.2.2.2.2.2.2.1.2.2.2.2.1), .val (.string x.2.2.2.2.2.2.1.2.2.2.2.2.1), .val (.bool x.2.2.2.2.2.2.1.2.2.2.2.2.2.1), .val (.int .i64 x.2.2.2.2.2.2.1.2.2.2.2.2.2.2.1), .own 3]]⟩)) r
noncomputable def signetref19_Check_L : Nat → SubQ := tblL [(0, signetref19_Check_l0)]
theorem signetref19_Check_p0_eq (i : Int) (c_value : List Eng.Node) (c_aud : List ByteArray) (p_algs : List ByteArray) (p_need : List ByteArray) (c_Iss : ByteArray) (c_HasIss : Bool) (c_Sub : ByteArray) (c_HasSub : Bool) (c_HasAud : Bool) (c_Jti : ByteArray) (c_HasJti : Bool) (c_Exp_Has : Bool) (c_Exp_At : Int) (c_Nbf_Has : Bool) (c_Nbf_At : Int) (c_Iat_Has : Bool) (c_Iat_At : Int) (p_Iss : ByteArray) (p_HasIss : Bool) (p_Aud : ByteArray) (p_HasAud : Bool) (p_Typ : ByteArray) (p_HasTyp : Bool) (p_Leeway : Int) (R : Type) (kn : QS → Option R) (kx : Nat → QS → Option R) (kr : QS → Option R) :
    interpQ signetref19_Check_L signetref19_Check_G 4 6 60 signetref19_Check_b0 ⟨[(2, [], .c (.o (.hd 4 0))), (3, [], .c (.o (.hd 5 0))), (5, [], .c (.o (.val (.int .i64 i))))], [], [.view .node c_value, .view .str c_aud, .view .str p_algs, .view .str p_need, .cells 27 [.own 0, .val (.string c_Iss), .val (.bool c_HasIss), .val (.string c_Sub), .val (.bool c_HasSub), .own 1, .val (.bool c_HasAud), .val (.string c_Jti), .val (.bool c_HasJti), .val (.bool c_Exp_Has), .val (.int .i64 c_Exp_At), .val (.bool c_Nbf_Has), .val (.int .i64 c_Nbf_At), .val (.bool c_Iat_Has), .val (.int .i64 c_Iat_At)], .cells 29 [.own 2, .val (.string p_Iss), .val (.bool p_HasIss), .val (.string p_Aud), .val (.bool p_HasAud), .val (.string p_Typ), .val (.bool p_HasTyp), .val (.int .i64 p_Leeway), .own 3]]⟩ kn kx kr = (signetref19_Check_p0 i c_value p_need).bind fun r => (Sum.elim (fun (r_0 : Int) => kr ⟨[(4, [], .c (.o (.val (.int .i64 r_0))))], [], [.view .node c_value, .view .str c_aud, .view .str p_algs, .view .str p_need]⟩) (fun (r_1 : Unit) => kx 0 ⟨[(2, [], .c (.o (.hd 4 0))), (3, [], .c (.o (.hd 5 0)))], [], [.view .node c_value, .view .str c_aud, .view .str p_algs, .view .str p_need, .cells 27 [.own 0, .val (.string c_Iss), .val (.bool c_HasIss), .val (.string c_Sub), .val (.bool c_HasSub), .own 1, .val (.bool c_HasAud), .val (.string c_Jti), .val (.bool c_HasJti), .val (.bool c_Exp_Has), .val (.int .i64 c_Exp_At), .val (.bool c_Nbf_Has), .val (.int .i64 c_Nbf_At), .val (.bool c_Iat_Has), .val (.int .i64 c_Iat_At)], .cells 29 [.own 2, .val (.string p_Iss), .val (.bool p_HasIss), .val (.string p_Aud), .val (.bool p_HasAud), .val (.string p_Typ), .val (.bool p_HasTyp), .val (.int .i64 p_Leeway), .own 3]]⟩)) r := by
  refine loop_piece (step := fun x => signetref19_Check_p0_step x c_value p_need) (enc := fun x => ⟨[(2, [], .c (.o (.hd 4 0))), (3, [], .c (.o (.hd 5 0))), (5, [], .c (.o (.val (.int .i64 x))))], [], [.view .node c_value, .view .str c_aud, .view .str p_algs, .view .str p_need, .cells 27 [.own 0, .val (.string c_Iss), .val (.bool c_HasIss), .val (.string c_Sub), .val (.bool c_HasSub), .own 1, .val (.bool c_HasAud), .val (.string c_Jti), .val (.bool c_HasJti), .val (.bool c_Exp_Has), .val (.int .i64 c_Exp_At), .val (.bool c_Nbf_Has), .val (.int .i64 c_Nbf_At), .val (.bool c_Iat_Has), .val (.int .i64 c_Iat_At)], .cells 29 [.own 2, .val (.string p_Iss), .val (.bool p_HasIss), .val (.string p_Aud), .val (.bool p_HasAud), .val (.string p_Typ), .val (.bool p_HasTyp), .val (.int .i64 p_Leeway), .own 3]]⟩) (ko := fun r => (Sum.elim (fun (r_0 : Int) => kr ⟨[(4, [], .c (.o (.val (.int .i64 r_0))))], [], [.view .node c_value, .view .str c_aud, .view .str p_algs, .view .str p_need]⟩) (fun (r_1 : Unit) => kx 0 ⟨[(2, [], .c (.o (.hd 4 0))), (3, [], .c (.o (.hd 5 0)))], [], [.view .node c_value, .view .str c_aud, .view .str p_algs, .view .str p_need, .cells 27 [.own 0, .val (.string c_Iss), .val (.bool c_HasIss), .val (.string c_Sub), .val (.bool c_HasSub), .own 1, .val (.bool c_HasAud), .val (.string c_Jti), .val (.bool c_HasJti), .val (.bool c_Exp_Has), .val (.int .i64 c_Exp_At), .val (.bool c_Nbf_Has), .val (.int .i64 c_Nbf_At), .val (.bool c_Iat_Has), .val (.int .i64 c_Iat_At)], .cells 29 [.own 2, .val (.string p_Iss), .val (.bool p_HasIss), .val (.string p_Aud), .val (.bool p_HasAud), .val (.string p_Typ), .val (.bool p_HasTyp), .val (.int .i64 p_Leeway), .own 3]]⟩)) r) ?_ ?_ i
  · intro x; kernel_rfl
  · intro x ki; simp only [signetref19_Check_p0_step, -eq_self, bind_cond, bind_gd, Option.bind_assoc, Option.bind_some, Sum.elim_inl, Sum.elim_inr, bind_elim]; kernel_rfl
theorem signetref19_Check_sub0 : SubOK signetref19_Check_L signetref19_Check_G 4 6 60 0 signetref19_Check_b0 := sub_ok' signetref19_Check_d0 (fun x R kn kx kr => (signetref19_Check_p0 x.1.2.2.1 x.2.1 x.2.2.2.2.1).bind fun r => (Sum.elim (fun (r_0 : Int) => kr ⟨[(4, [], .c (.o (.val (.int .i64 r_0))))], [], [.view .node x.2.1, .view .str x.2.2.1, .view .str x.2.2.2.1, .view .str x.2.2.2.2.1]⟩) (fun (r_1 : Unit) => kx 0 ⟨[(2, [], .c (.o (.hd 4 0))), (3, [], .c (.o (.hd 5 0)))], [], [.view .node x.2.1, .view .str x.2.2.1, .view .str x.2.2.2.1, .view .str x.2.2.2.2.1, .cells 27 [.own 0, .val (.string x.2.2.2.2.2.1.2.1), .val (.bool x.2.2.2.2.2.1.2.2.1), .val (.string x.2.2.2.2.2.1.2.2.2.1), .val (.bool x.2.2.2.2.2.1.2.2.2.2.1), .own 1, .val (.bool x.2.2.2.2.2.1.2.2.2.2.2.2.1), .val (.string x.2.2.2.2.2.1.2.2.2.2.2.2.2.1), .val (.bool x.2.2.2.2.2.1.2.2.2.2.2.2.2.2.1), .val (.bool x.2.2.2.2.2.1.2.2.2.2.2.2.2.2.2.1), .val (.int .i64 x.2.2.2.2.2.1.2.2.2.2.2.2.2.2.2.2.1), .val (.bool x.2.2.2.2.2.1.2.2.2.2.2.2.2.2.2.2.2.1), .val (.int .i64 x.2.2.2.2.2.1.2.2.2.2.2.2.2.2.2.2.2.2.1), .val (.bool x.2.2.2.2.2.1.2.2.2.2.2.2.2.2.2.2.2.2.2.1), .val (.int .i64 x.2.2.2.2.2.1.2.2.2.2.2.2.2.2.2.2.2.2.2.2.1)], .cells 29 [.own 2, .val (.string x.2.2.2.2.2.2.1.2.1), .val (.bool x.2.2.2.2.2.2.1.2.2.1), .val (.string x.2.2.2.2.2.2.1.2.2.2.1), .val (.bool x.2.2.2.2.2.2.1.2.2.2.2.1), .val (.string x.2.2.2.2.2.2.1.2.2.2.2.2.1), .val (.bool x.2.2.2.2.2.2.1.2.2.2.2.2.2.1), .val (.int .i64 x.2.2.2.2.2.2.1.2.2.2.2.2.2.2.1), .own 3]]⟩)) r) (by kernel_rfl) fun x R kn kx kr => signetref19_Check_p0_eq x.1.2.2.1 x.2.1 x.2.2.1 x.2.2.2.1 x.2.2.2.2.1 x.2.2.2.2.2.1.2.1 x.2.2.2.2.2.1.2.2.1 x.2.2.2.2.2.1.2.2.2.1 x.2.2.2.2.2.1.2.2.2.2.1 x.2.2.2.2.2.1.2.2.2.2.2.2.1 x.2.2.2.2.2.1.2.2.2.2.2.2.2.1 x.2.2.2.2.2.1.2.2.2.2.2.2.2.2.1 x.2.2.2.2.2.1.2.2.2.2.2.2.2.2.2.1 x.2.2.2.2.2.1.2.2.2.2.2.2.2.2.2.2.1 x.2.2.2.2.2.1.2.2.2.2.2.2.2.2.2.2.2.1 x.2.2.2.2.2.1.2.2.2.2.2.2.2.2.2.2.2.2.1 x.2.2.2.2.2.1.2.2.2.2.2.2.2.2.2.2.2.2.2.1 x.2.2.2.2.2.1.2.2.2.2.2.2.2.2.2.2.2.2.2.2.1 x.2.2.2.2.2.2.1.2.1 x.2.2.2.2.2.2.1.2.2.1 x.2.2.2.2.2.2.1.2.2.2.1 x.2.2.2.2.2.2.1.2.2.2.2.1 x.2.2.2.2.2.2.1.2.2.2.2.2.1 x.2.2.2.2.2.2.1.2.2.2.2.2.2.1 x.2.2.2.2.2.2.1.2.2.2.2.2.2.2.1 R kn kx kr
theorem signetref19_Check_subs : subsOK signetref19_Check_L signetref19_Check_G 4 6 60 signetref19_Check_q := subs_of (show AllSub signetref19_Check_L signetref19_Check_G 4 6 60 [(0, signetref19_Check_b0)] from ⟨signetref19_Check_sub0, trivial⟩)
theorem signetref19_Check_eq (c : api_Claims) (p : api_Policy) (R : Type) (k : SV → List SB → Option R) :
    fnQ signetref19_Check_L signetref19_Check_G 6 60 signetref19_Check_q [.tmp 4] [.c (.agg [.own 0, .val (.string c.iss), .val (.bool c.hasIss), .val (.string c.sub), .val (.bool c.hasSub), .own 1, .val (.bool c.hasAud), .val (.string c.jti), .val (.bool c.hasJti), .val (.bool c.exp_.has), .val (.int .i64 c.exp_.at_), .val (.bool c.nbf.has), .val (.int .i64 c.nbf.at_), .val (.bool c.iat.has), .val (.int .i64 c.iat.at_)]), .c (.agg [.own 2, .val (.string p.iss), .val (.bool p.hasIss), .val (.string p.aud), .val (.bool p.hasAud), .val (.string p.typ), .val (.bool p.hasTyp), .val (.int .i64 p.leeway), .own 3])] [.view .node c.value, .view .str c.aud, .view .str p.algs, .view .str p.need] k = (signetref19_Check_s c p).bind fun r => k (.c (.o (.val (.int .i64 r)))) [.view .node c.value, .view .str c.aud, .view .str p.algs, .view .str p.need] := by
  simp only [signetref19_Check_s, -eq_self, bind_cond, bind_gd, Option.bind_assoc, Option.bind_some, Sum.elim_inl, Sum.elim_inr, bind_elim]
  kernel_rfl
def signetref19_Check_da := (dCons (dVC (dCA (dCons (dO 0) (dCons dS (dCons dB (dCons dS (dCons dB (dCons (dO 1) (dCons dB (dCons dS (dCons dB (dCons dB (dCons (dI .i64) (dCons dB (dCons (dI .i64) (dCons dB (dCons (dI .i64) dNil))))))))))))))))) (dCons (dVC (dCA (dCons (dO 2) (dCons dS (dCons dB (dCons dS (dCons dB (dCons dS (dCons dB (dCons (dI .i64) (dCons (dO 3) dNil))))))))))) dNil))
def signetref19_Check_db := (dCons (dView .node) (dCons (dView .str) (dCons (dView .str) (dCons (dView .str) dNil))))
noncomputable def signetref19_Check_c : CS := fun args hp R k => (Dec.d signetref19_Check_da args).bind fun x => (Dec.d signetref19_Check_db hp).bind fun y => (signetref19_Check_s (⟨y.1, x.1.2.1, x.1.2.2.1, x.1.2.2.2.1, x.1.2.2.2.2.1, y.2.1, x.1.2.2.2.2.2.2.1, x.1.2.2.2.2.2.2.2.1, x.1.2.2.2.2.2.2.2.2.1, (⟨x.1.2.2.2.2.2.2.2.2.2.1, x.1.2.2.2.2.2.2.2.2.2.2.1⟩ : api_Time), (⟨x.1.2.2.2.2.2.2.2.2.2.2.2.1, x.1.2.2.2.2.2.2.2.2.2.2.2.2.1⟩ : api_Time), (⟨x.1.2.2.2.2.2.2.2.2.2.2.2.2.2.1, x.1.2.2.2.2.2.2.2.2.2.2.2.2.2.2.1⟩ : api_Time)⟩ : api_Claims) (⟨y.2.2.1, x.2.1.2.1, x.2.1.2.2.1, x.2.1.2.2.2.1, x.2.1.2.2.2.2.1, x.2.1.2.2.2.2.2.1, x.2.1.2.2.2.2.2.2.1, x.2.1.2.2.2.2.2.2.2.1, y.2.2.2.1⟩ : api_Policy)).bind fun r => k (.c (.o (.val (.int .i64 r)))) [.view .node y.1, .view .str y.2.1, .view .str y.2.2.1, .view .str y.2.2.2.1]
theorem signetref19_Check_val : ValidS Try.prog 10 signetref19_Check_c :=
  val_ok signetref19_Check_chk 6 signetref19_Check_Gok signetref19_Check_da signetref19_Check_db 4 (fun x y R k => (signetref19_Check_s (⟨y.1, x.1.2.1, x.1.2.2.1, x.1.2.2.2.1, x.1.2.2.2.2.1, y.2.1, x.1.2.2.2.2.2.2.1, x.1.2.2.2.2.2.2.2.1, x.1.2.2.2.2.2.2.2.2.1, (⟨x.1.2.2.2.2.2.2.2.2.2.1, x.1.2.2.2.2.2.2.2.2.2.2.1⟩ : api_Time), (⟨x.1.2.2.2.2.2.2.2.2.2.2.2.1, x.1.2.2.2.2.2.2.2.2.2.2.2.2.1⟩ : api_Time), (⟨x.1.2.2.2.2.2.2.2.2.2.2.2.2.2.1, x.1.2.2.2.2.2.2.2.2.2.2.2.2.2.2.1⟩ : api_Time)⟩ : api_Claims) (⟨y.2.2.1, x.2.1.2.1, x.2.1.2.2.1, x.2.1.2.2.2.1, x.2.1.2.2.2.2.1, x.2.1.2.2.2.2.2.1, x.2.1.2.2.2.2.2.2.1, x.2.1.2.2.2.2.2.2.2.1, y.2.2.2.1⟩ : api_Policy)).bind fun r => k (.c (.o (.val (.int .i64 r)))) [.view .node y.1, .view .str y.2.1, .view .str y.2.2.1, .view .str y.2.2.2.1]) (by kernel_rfl)
    (fun x y R k => by simp only [Option.bind_assoc, Option.bind_some]) (fun x => Nat.le_of_ble_eq_true rfl) (fun y => rfl) signetref19_Check_subs fun x y => signetref19_Check_eq (⟨y.1, x.1.2.1, x.1.2.2.1, x.1.2.2.2.1, x.1.2.2.2.2.1, y.2.1, x.1.2.2.2.2.2.2.1, x.1.2.2.2.2.2.2.2.1, x.1.2.2.2.2.2.2.2.2.1, (⟨x.1.2.2.2.2.2.2.2.2.2.1, x.1.2.2.2.2.2.2.2.2.2.2.1⟩ : api_Time), (⟨x.1.2.2.2.2.2.2.2.2.2.2.2.1, x.1.2.2.2.2.2.2.2.2.2.2.2.2.1⟩ : api_Time), (⟨x.1.2.2.2.2.2.2.2.2.2.2.2.2.2.1, x.1.2.2.2.2.2.2.2.2.2.2.2.2.2.2.1⟩ : api_Time)⟩ : api_Claims) (⟨y.2.2.1, x.2.1.2.1, x.2.1.2.2.1, x.2.1.2.2.2.1, x.2.1.2.2.2.2.1, x.2.1.2.2.2.2.2.1, x.2.1.2.2.2.2.2.2.1, x.2.1.2.2.2.2.2.2.2.1, y.2.2.2.1⟩ : api_Policy) _ _
noncomputable def signetref19_Check_w : CQ := prepQ [(0, some 0, some (.node, 40)), (0, some 5, some (.str, 9)), (1, some 0, some (.str, 9)), (1, some 8, some (.str, 9))] (liftV [false, false, false, false] signetref19_Check_c)
theorem signetref19_Check_ok : ValidQ Try.prog 10 signetref19_Check_w := prep_quiet signetref19_Check_val

/-! ### signet/signetlaw19.ClaimsChecks -/
def signetlaw19_ClaimsChecks_b0 : IQ :=
  (.loop [3, 5, 7, 9]
    (.seq
    (.seq
    (.reg 78 none [
      ⟨(some 74), .mv (.t 9), none⟩,
      ⟨(some 75), .faddr 5 (.t 5), none⟩,
      ⟨(some 76), .load none (.t 75), none⟩,
      ⟨(some 77), .len (.t 76), none⟩,
      ⟨(some 78), .bin false .lss (.t 74) (.t 77), none⟩])
    (.cond (.t 78)
      .skip
      (.canon [] [3, 5, 7] (.exit 0))))
    (.seq
    (.block 1
      (.reg 0 (some [0, 1, 2, 3, 4, 5, 6, 7, 8, 9, 10]) [
        ⟨(some 81), .faddr 5 (.t 5), none⟩,
        ⟨(some 82), .load none (.t 81), none⟩,
        ⟨(some 83), .mv (.t 9), none⟩,
        ⟨(some 84), .faddr 5 (.t 5), none⟩,
        ⟨(some 85), .load none (.t 84), none⟩,
        ⟨(some 86), .mv (.t 9), none⟩,
        ⟨(some 87), .iaddr 1 (.t 85) (.t 86), none⟩,
        ⟨(some 88), .load none (.t 87), none⟩,
        ⟨(some 89), .bin false .add (.t 88) (.v (.string ⟨#[120]⟩)), none⟩,
        ⟨(some 90), .iaddr 1 (.t 82) (.t 83), none⟩,
        ⟨none, .store 1 (.t 90) (.t 89), none⟩]))
    (.reg 9 none [
      ⟨(some 79), .mv (.t 9), none⟩,
      ⟨(some 80), .bin false .add (.t 79) (.v (.int .i64 1)), none⟩,
      ⟨(some 9), .mv (.t 80), none⟩]))))
def signetlaw19_ClaimsChecks_b1 : IQ :=
  (.loop [5, 7, 11]
    (.seq
    (.seq
    (.reg 104 none [
      ⟨(some 99), .mv (.t 11), none⟩,
      ⟨(some 100), .bin false .add (.t 99) (.v (.int .i64 1)), none⟩,
      ⟨(some 101), .faddr 8 (.t 7), none⟩,
      ⟨(some 102), .load none (.t 101), none⟩,
      ⟨(some 103), .len (.t 102), none⟩,
      ⟨(some 104), .bin false .lss (.t 100) (.t 103), none⟩])
    (.cond (.t 104)
      .skip
      (.canon [] [5, 7] (.exit 2))))
    (.seq
    (.block 3
      (.reg 0 (some [0, 1, 2, 3, 4, 5, 6, 7, 8, 9, 10, 11]) [
        ⟨(some 107), .faddr 8 (.t 7), none⟩,
        ⟨(some 108), .load none (.t 107), none⟩,
        ⟨(some 109), .mv (.t 11), none⟩,
        ⟨(some 110), .faddr 8 (.t 7), none⟩,
        ⟨(some 111), .load none (.t 110), none⟩,
        ⟨(some 112), .mv (.t 11), none⟩,
        ⟨(some 113), .bin false .add (.t 112) (.v (.int .i64 1)), none⟩,
        ⟨(some 114), .iaddr 1 (.t 111) (.t 113), none⟩,
        ⟨(some 115), .load none (.t 114), none⟩,
        ⟨(some 116), .bin false .add (.t 115) (.v (.string ⟨#[120]⟩)), none⟩,
        ⟨(some 117), .iaddr 1 (.t 108) (.t 109), none⟩,
        ⟨none, .store 1 (.t 117) (.t 116), none⟩]))
    (.reg 11 none [
      ⟨(some 105), .mv (.t 11), none⟩,
      ⟨(some 106), .bin false .add (.t 105) (.v (.int .i64 1)), none⟩,
      ⟨(some 11), .mv (.t 106), none⟩]))))
def signetlaw19_ClaimsChecks_q : IQ :=
  (.seq
  (.reg 4 none [
    ⟨(some 2), .box 27 15 (.t 0), none⟩,
    ⟨(some 3), .box 29 9 (.t 1), none⟩,
    ⟨(some 4), .mv (.v (.bool false)), none⟩])
  (.seq
  (.seq
  (.reg 14 none [
    ⟨(some 12), .faddr 0 (.t 2), none⟩,
    ⟨(some 13), .load none (.t 12), none⟩,
    ⟨(some 14), .call 4 [(.t 13)], none⟩])
  (.cond (.t 14)
    (.seq
    (.reg 4 none [
      ⟨(some 4), .mv (.v (.bool true)), none⟩])
    (.canon [] [4] .ret))
    .skip))
  (.seq
  (.reg 0 none [
    ⟨(some 15), .load (some 15) (.t 2), none⟩,
    ⟨(some 16), .call 5 [(.t 15)], none⟩,
    ⟨(some 5), .alloc 27 [.slice none 0 0, .string ⟨#[]⟩, .bool false, .string ⟨#[]⟩, .bool false, .slice none 0 0, .bool false, .string ⟨#[]⟩, .bool false, .bool false, .int .i64 0, .bool false, .int .i64 0, .bool false, .int .i64 0], none⟩,
    ⟨none, .store 15 (.t 5) (.t 16), none⟩])
  (.seq
  (.reg 6 none [
    ⟨(some 17), .bslice 9 1 0 [.string ⟨#[]⟩] [], none⟩,
    ⟨(some 18), .faddr 8 (.t 3), none⟩,
    ⟨(some 19), .load none (.t 18), none⟩,
    ⟨(some 20), .append 9 1 16 [.string ⟨#[]⟩] (.t 17) (.t 19), none⟩,
    ⟨(some 6), .mv (.t 20), none⟩])
  (.seq
  (.reg 6 none [
    ⟨(some 21), .mv (.t 6), none⟩,
    ⟨(some 22), .bslice 9 1 2 [.string ⟨#[]⟩] [(0, (.v (.string ⟨#[109, 97, 114, 107]⟩))), (1, (.v (.string ⟨#[109, 97, 114, 107]⟩)))], none⟩,
    ⟨(some 23), .append 9 1 16 [.string ⟨#[]⟩] (.t 21) (.t 22), none⟩,
    ⟨(some 6), .mv (.t 23), none⟩])
  (.seq
  (.reg 0 none [
    ⟨(some 24), .load (some 9) (.t 3), none⟩,
    ⟨(some 7), .alloc 29 [.slice none 0 0, .string ⟨#[]⟩, .bool false, .string ⟨#[]⟩, .bool false, .string ⟨#[]⟩, .bool false, .int .i64 0, .slice none 0 0], none⟩,
    ⟨none, .store 9 (.t 7) (.t 24), none⟩])
  (.seq
  (.reg 0 none [
    ⟨(some 25), .mv (.t 6), none⟩,
    ⟨(some 26), .faddr 8 (.t 3), none⟩,
    ⟨(some 27), .load none (.t 26), none⟩,
    ⟨(some 28), .len (.t 27), none⟩,
    ⟨(some 29), .sub (some 1) (.t 25) (some (.v (.int .i64 0))) (some (.t 28)), none⟩,
    ⟨(some 30), .faddr 8 (.t 7), none⟩,
    ⟨none, .store 1 (.t 30) (.t 29), none⟩])
  (.seq
  (.reg 8 none [
    ⟨(some 31), .load (some 15) (.t 5), none⟩,
    ⟨(some 32), .load (some 9) (.t 7), none⟩,
    ⟨(some 33), .call 6 [(.t 31), (.t 32)], none⟩,
    ⟨(some 8), .mv (.t 33), none⟩])
  (.seq
  (.seq
  (.reg 64 none [
    ⟨(some 34), .load (some 15) (.t 5), none⟩,
    ⟨(some 35), .load (some 15) (.t 2), none⟩,
    ⟨(some 36), .call 7 [(.t 34), (.t 35)], none⟩,
    ⟨(some 37), .un .not (.t 36), none⟩,
    ⟨(some 38), .mv (.t 37), none⟩,
    ⟨(some 39), .faddr 8 (.t 7), some (38, false)⟩,
    ⟨(some 40), .load none (.t 39), some (38, false)⟩,
    ⟨(some 41), .faddr 8 (.t 3), some (38, false)⟩,
    ⟨(some 42), .load none (.t 41), some (38, false)⟩,
    ⟨(some 43), .call 8 [(.t 40), (.t 42)], some (38, false)⟩,
    ⟨(some 44), .un .not (.t 43), some (38, false)⟩,
    ⟨(some 45), .pick (.t 38) (.v (.bool true)) (.t 44), none⟩,
    ⟨(some 46), .mv (.t 45), none⟩,
    ⟨(some 47), .mv (.t 6), some (46, false)⟩,
    ⟨(some 48), .faddr 8 (.t 3), some (46, false)⟩,
    ⟨(some 49), .load none (.t 48), some (46, false)⟩,
    ⟨(some 50), .len (.t 49), some (46, false)⟩,
    ⟨(some 51), .iaddr 1 (.t 47) (.t 50), some (46, false)⟩,
    ⟨(some 52), .load none (.t 51), some (46, false)⟩,
    ⟨(some 53), .bin false .neq (.t 52) (.v (.string ⟨#[109, 97, 114, 107]⟩)), some (46, false)⟩,
    ⟨(some 54), .pick (.t 46) (.v (.bool true)) (.t 53), none⟩,
    ⟨(some 55), .mv (.t 54), none⟩,
    ⟨(some 56), .mv (.t 6), some (55, false)⟩,
    ⟨(some 57), .faddr 8 (.t 3), some (55, false)⟩,
    ⟨(some 58), .load none (.t 57), some (55, false)⟩,
    ⟨(some 59), .len (.t 58), some (55, false)⟩,
    ⟨(some 60), .bin false .add (.t 59) (.v (.int .i64 1)), some (55, false)⟩,
    ⟨(some 61), .iaddr 1 (.t 56) (.t 60), some (55, false)⟩,
    ⟨(some 62), .load none (.t 61), some (55, false)⟩,
    ⟨(some 63), .bin false .neq (.t 62) (.v (.string ⟨#[109, 97, 114, 107]⟩)), some (55, false)⟩,
    ⟨(some 64), .pick (.t 55) (.v (.bool true)) (.t 63), none⟩])
  (.cond (.t 64)
    (.seq
    (.reg 4 none [
      ⟨(some 4), .mv (.v (.bool false)), none⟩])
    (.canon [] [4] .ret))
    .skip))
  (.seq
  (.seq
  (.reg 68 none [
    ⟨(some 65), .faddr 0 (.t 2), none⟩,
    ⟨(some 66), .load none (.t 65), none⟩,
    ⟨(some 67), .call 9 [(.t 66)], none⟩,
    ⟨(some 68), .un .not (.t 67), none⟩])
  (.cond (.t 68)
    (.seq
    (.reg 4 none [
      ⟨(some 4), .mv (.v (.bool true)), none⟩])
    (.canon [] [4] .ret))
    .skip))
  (.seq
  (.seq
  (.reg 73 none [
    ⟨(some 69), .mv (.t 8), none⟩,
    ⟨(some 70), .load (some 15) (.t 2), none⟩,
    ⟨(some 71), .load (some 9) (.t 3), none⟩,
    ⟨(some 72), .call 10 [(.t 70), (.t 71)], none⟩,
    ⟨(some 73), .bin false .neq (.t 69) (.t 72), none⟩])
  (.cond (.t 73)
    (.seq
    (.reg 4 none [
      ⟨(some 4), .mv (.v (.bool false)), none⟩])
    (.canon [] [4] .ret))
    .skip))
  (.seq
  (.seq
  (.reg 9 none [
    ⟨(some 9), .mv (.v (.int .i64 0)), none⟩])
  (.block 0
    (.canon [] [3, 5, 7, 9] (.sub 0 signetlaw19_ClaimsChecks_b0))))
  (.seq
  (.reg 10 none [
    ⟨(some 91), .load (some 15) (.t 5), none⟩,
    ⟨(some 92), .load (some 9) (.t 3), none⟩,
    ⟨(some 93), .call 10 [(.t 91), (.t 92)], none⟩,
    ⟨(some 10), .mv (.t 93), none⟩])
  (.seq
  (.seq
  (.reg 98 none [
    ⟨(some 94), .load (some 15) (.t 5), none⟩,
    ⟨(some 95), .load (some 9) (.t 7), none⟩,
    ⟨(some 96), .call 6 [(.t 94), (.t 95)], none⟩,
    ⟨(some 97), .mv (.t 10), none⟩,
    ⟨(some 98), .bin false .neq (.t 96) (.t 97), none⟩])
  (.cond (.t 98)
    (.seq
    (.reg 4 none [
      ⟨(some 4), .mv (.v (.bool false)), none⟩])
    (.canon [] [4] .ret))
    .skip))
  (.seq
  (.seq
  (.reg 11 none [
    ⟨(some 11), .mv (.v (.int .i64 0)), none⟩])
  (.block 2
    (.canon [] [5, 7, 11] (.sub 1 signetlaw19_ClaimsChecks_b1))))
  (.seq
  (.reg 10 none [
    ⟨(some 118), .load (some 15) (.t 5), none⟩,
    ⟨(some 119), .load (some 9) (.t 7), none⟩,
    ⟨(some 120), .call 10 [(.t 118), (.t 119)], none⟩,
    ⟨(some 10), .mv (.t 120), none⟩])
  (.seq
  (.reg 4 none [
    ⟨(some 121), .load (some 15) (.t 5), none⟩,
    ⟨(some 122), .load (some 9) (.t 7), none⟩,
    ⟨(some 123), .call 6 [(.t 121), (.t 122)], none⟩,
    ⟨(some 124), .mv (.t 10), none⟩,
    ⟨(some 125), .bin false .eql (.t 123) (.t 124), none⟩,
    ⟨(some 4), .mv (.t 125), none⟩])
  (.canon [] [4] .ret))))))))))))))))))
theorem signetlaw19_ClaimsChecks_chk : chk Try.prog 3 [29] = some (signetlaw19_ClaimsChecks_q.erase, [.tmp 4], 126) := by kernel_rfl
noncomputable def signetlaw19_ClaimsChecks_p0_step (i : Int) (mine_Aud_n : Nat) (h11 : List ByteArray) : Option ((Int × (List ByteArray)) ⊕ ((List ByteArray))) :=
  bif decide (i < ((mine_Aud_n : Nat) : Int)) then (
    gd (0 ≤ i ∧ i < ((mine_Aud_n : Nat) : Int)) <|
    gd (((0) + Int.toNat i) < h11.length) <|
    gd ((h11.getD ((0) + Int.toNat i) (ET.dft .str)).size + (⟨#[120]⟩ : ByteArray).size ≤ 9223372036854775807) <|
    gd (0 ≤ i ∧ i < ((mine_Aud_n : Nat) : Int)) <|
    gd (((0) + Int.toNat i) < h11.length) <|
    gd (InI64 (i + (1 : Int))) <|
    some (.inl ((i + (1 : Int)), (h11.set ((0) + Int.toNat i) ((h11.getD ((0) + Int.toNat i) (ET.dft .str)) ++ (⟨#[120]⟩ : ByteArray))))))
  else (
    some (.inr h11))
noncomputable def signetlaw19_ClaimsChecks_p0 (i : Int) (mine_Aud_n : Nat) (h11 : List ByteArray) : Option ((List ByteArray)) :=
  whileO (fun x : (Int × (List ByteArray)) => signetlaw19_ClaimsChecks_p0_step x.1 mine_Aud_n x.2) (i, h11)
noncomputable def signetlaw19_ClaimsChecks_p1_step (i : Int) (q_Need_n : Nat) (h11 : List ByteArray) : Option ((Int × (List ByteArray)) ⊕ ((List ByteArray))) :=
  gd (InI64 (i + (1 : Int))) <|
  bif decide ((i + (1 : Int)) < ((q_Need_n : Nat) : Int)) then (
    gd (InI64 (i + (1 : Int))) <|
    gd (0 ≤ (i + (1 : Int)) ∧ (i + (1 : Int)) < ((q_Need_n : Nat) : Int)) <|
    gd (((0) + Int.toNat (i + (1 : Int))) < h11.length) <|
    gd ((h11.getD ((0) + Int.toNat (i + (1 : Int))) (ET.dft .str)).size + (⟨#[120]⟩ : ByteArray).size ≤ 9223372036854775807) <|
    gd (0 ≤ i ∧ i < ((q_Need_n : Nat) : Int)) <|
    gd (((0) + Int.toNat i) < h11.length) <|
    gd (InI64 (i + (1 : Int))) <|
    some (.inl ((i + (1 : Int)), (h11.set ((0) + Int.toNat i) ((h11.getD ((0) + Int.toNat (i + (1 : Int))) (ET.dft .str)) ++ (⟨#[120]⟩ : ByteArray))))))
  else (
    some (.inr h11))
noncomputable def signetlaw19_ClaimsChecks_p1 (i : Int) (q_Need_n : Nat) (h11 : List ByteArray) : Option ((List ByteArray)) :=
  whileO (fun x : (Int × (List ByteArray)) => signetlaw19_ClaimsChecks_p1_step x.1 q_Need_n x.2) (i, h11)
noncomputable def signetlaw19_ClaimsChecks_s (c : api_Claims) (p : api_Policy) : Option Bool :=
  (signetref3_Beyond_s c.value).bind fun r35 =>
  bif r35 then (
    some true)
  else (
    (signetlaw19_roomy_s c).bind fun r36 =>
    gd (([] : List ByteArray).length + p.need.length ≤ 9223372036854775807 ∧ (([] : List ByteArray).length + p.need.length) * 16 ≤ 140737488355328) <|
    gd (([] ++ p.need).length + ([(⟨#[109, 97, 114, 107]⟩ : ByteArray), (⟨#[109, 97, 114, 107]⟩ : ByteArray)] : List ByteArray).length ≤ 9223372036854775807 ∧ (([] ++ p.need).length + ([(⟨#[109, 97, 114, 107]⟩ : ByteArray), (⟨#[109, 97, 114, 107]⟩ : ByteArray)] : List ByteArray).length) * 16 ≤ 140737488355328) <|
    gd (0 ≤ (0 : Int) ∧ (0 : Int) ≤ (p.need.length : Int) ∧ (p.need.length : Int) ≤ (([] ++ p.need) ++ [(⟨#[109, 97, 114, 107]⟩ : ByteArray), (⟨#[109, 97, 114, 107]⟩ : ByteArray)]).length) <|
    gd ((0) + r36.2.1 ≤ r36.1.value.length) <|
    gd ((0) + r36.2.2 ≤ r36.1.aud.length) <|
    gd ((0) + (Int.toNat (p.need.length : Int)) ≤ (([] ++ p.need) ++ [(⟨#[109, 97, 114, 107]⟩ : ByteArray), (⟨#[109, 97, 114, 107]⟩ : ByteArray)]).length) <|
    (claims_Check_s (⟨((r36.1.value.drop (0)).take r36.2.1), r36.1.iss, r36.1.hasIss, r36.1.sub, r36.1.hasSub, ((r36.1.aud.drop (0)).take r36.2.2), r36.1.hasAud, r36.1.jti, r36.1.hasJti, r36.1.exp_, r36.1.nbf, r36.1.iat⟩ : api_Claims) (⟨p.algs, p.iss, p.hasIss, p.aud, p.hasAud, p.typ, p.hasTyp, p.leeway, (((([] ++ p.need) ++ [(⟨#[109, 97, 114, 107]⟩ : ByteArray), (⟨#[109, 97, 114, 107]⟩ : ByteArray)]).drop (0)).take (Int.toNat (p.need.length : Int)))⟩ : api_Policy)).bind fun r37 =>
    (signetlaw19_spared_s r36.1 c (0) r36.2.1 (0) r36.2.2).bind fun r38 =>
    bif (!r38) then (
      gd (true = false → 0 ≤ (p.need.length : Int) ∧ (p.need.length : Int) < (([] ++ p.need) ++ [(⟨#[109, 97, 114, 107]⟩ : ByteArray), (⟨#[109, 97, 114, 107]⟩ : ByteArray)]).length) <|
      gd (true = false → (Int.toNat (p.need.length : Int)) < (([] ++ p.need) ++ [(⟨#[109, 97, 114, 107]⟩ : ByteArray), (⟨#[109, 97, 114, 107]⟩ : ByteArray)]).length) <|
      gd (true = false → InI64 ((p.need.length : Int) + (1 : Int))) <|
      gd (true = false → 0 ≤ ((p.need.length : Int) + (1 : Int)) ∧ ((p.need.length : Int) + (1 : Int)) < (([] ++ p.need) ++ [(⟨#[109, 97, 114, 107]⟩ : ByteArray), (⟨#[109, 97, 114, 107]⟩ : ByteArray)]).length) <|
      gd (true = false → (Int.toNat ((p.need.length : Int) + (1 : Int))) < (([] ++ p.need) ++ [(⟨#[109, 97, 114, 107]⟩ : ByteArray), (⟨#[109, 97, 114, 107]⟩ : ByteArray)]).length) <|
      some false)
    else (
      gd ((0) + (Int.toNat (p.need.length : Int)) ≤ (([] ++ p.need) ++ [(⟨#[109, 97, 114, 107]⟩ : ByteArray), (⟨#[109, 97, 114, 107]⟩ : ByteArray)]).length) <|
      (signetlaw19_sameTexts_s (((([] ++ p.need) ++ [(⟨#[109, 97, 114, 107]⟩ : ByteArray), (⟨#[109, 97, 114, 107]⟩ : ByteArray)]).drop (0)).take (Int.toNat (p.need.length : Int))) p.need).bind fun r39 =>
      gd ((!r39) = false → 0 ≤ (p.need.length : Int) ∧ (p.need.length : Int) < (([] ++ p.need) ++ [(⟨#[109, 97, 114, 107]⟩ : ByteArray), (⟨#[109, 97, 114, 107]⟩ : ByteArray)]).length) <|
      gd ((!r39) = false → (Int.toNat (p.need.length : Int)) < (([] ++ p.need) ++ [(⟨#[109, 97, 114, 107]⟩ : ByteArray), (⟨#[109, 97, 114, 107]⟩ : ByteArray)]).length) <|
      gd (((!r39) || (!decide (((([] ++ p.need) ++ [(⟨#[109, 97, 114, 107]⟩ : ByteArray), (⟨#[109, 97, 114, 107]⟩ : ByteArray)]).getD (Int.toNat (p.need.length : Int)) (ET.dft .str)) = (⟨#[109, 97, 114, 107]⟩ : ByteArray)))) = false → InI64 ((p.need.length : Int) + (1 : Int))) <|
      gd (((!r39) || (!decide (((([] ++ p.need) ++ [(⟨#[109, 97, 114, 107]⟩ : ByteArray), (⟨#[109, 97, 114, 107]⟩ : ByteArray)]).getD (Int.toNat (p.need.length : Int)) (ET.dft .str)) = (⟨#[109, 97, 114, 107]⟩ : ByteArray)))) = false → 0 ≤ ((p.need.length : Int) + (1 : Int)) ∧ ((p.need.length : Int) + (1 : Int)) < (([] ++ p.need) ++ [(⟨#[109, 97, 114, 107]⟩ : ByteArray), (⟨#[109, 97, 114, 107]⟩ : ByteArray)]).length) <|
      gd (((!r39) || (!decide (((([] ++ p.need) ++ [(⟨#[109, 97, 114, 107]⟩ : ByteArray), (⟨#[109, 97, 114, 107]⟩ : ByteArray)]).getD (Int.toNat (p.need.length : Int)) (ET.dft .str)) = (⟨#[109, 97, 114, 107]⟩ : ByteArray)))) = false → (Int.toNat ((p.need.length : Int) + (1 : Int))) < (([] ++ p.need) ++ [(⟨#[109, 97, 114, 107]⟩ : ByteArray), (⟨#[109, 97, 114, 107]⟩ : ByteArray)]).length) <|
      bif (((!r39) || (!decide (((([] ++ p.need) ++ [(⟨#[109, 97, 114, 107]⟩ : ByteArray), (⟨#[109, 97, 114, 107]⟩ : ByteArray)]).getD (Int.toNat (p.need.length : Int)) (ET.dft .str)) = (⟨#[109, 97, 114, 107]⟩ : ByteArray)))) || (!decide (((([] ++ p.need) ++ [(⟨#[109, 97, 114, 107]⟩ : ByteArray), (⟨#[109, 97, 114, 107]⟩ : ByteArray)]).getD (Int.toNat ((p.need.length : Int) + (1 : Int))) (ET.dft .str)) = (⟨#[109, 97, 114, 107]⟩ : ByteArray)))) then (
        some false)
      else (
        (signetref3_Shaped_s c.value).bind fun r40 =>
        bif (!r40) then (
          some true)
        else (
          (signetref19_Check_s c p).bind fun r41 =>
          bif (!decide (r37 = r41)) then (
            some false)
          else (
            (signetlaw19_ClaimsChecks_p0 (0 : Int) r36.2.2 r36.1.aud).bind fun o42 =>
            gd ((0) + r36.2.1 ≤ r36.1.value.length) <|
            gd ((0) + r36.2.2 ≤ o42.length) <|
            (signetref19_Check_s (⟨((r36.1.value.drop (0)).take r36.2.1), r36.1.iss, r36.1.hasIss, r36.1.sub, r36.1.hasSub, ((o42.drop (0)).take r36.2.2), r36.1.hasAud, r36.1.jti, r36.1.hasJti, r36.1.exp_, r36.1.nbf, r36.1.iat⟩ : api_Claims) p).bind fun r43 =>
            gd ((0) + r36.2.1 ≤ r36.1.value.length) <|
            gd ((0) + r36.2.2 ≤ o42.length) <|
            gd ((0) + (Int.toNat (p.need.length : Int)) ≤ (([] ++ p.need) ++ [(⟨#[109, 97, 114, 107]⟩ : ByteArray), (⟨#[109, 97, 114, 107]⟩ : ByteArray)]).length) <|
            (claims_Check_s (⟨((r36.1.value.drop (0)).take r36.2.1), r36.1.iss, r36.1.hasIss, r36.1.sub, r36.1.hasSub, ((o42.drop (0)).take r36.2.2), r36.1.hasAud, r36.1.jti, r36.1.hasJti, r36.1.exp_, r36.1.nbf, r36.1.iat⟩ : api_Claims) (⟨p.algs, p.iss, p.hasIss, p.aud, p.hasAud, p.typ, p.hasTyp, p.leeway, (((([] ++ p.need) ++ [(⟨#[109, 97, 114, 107]⟩ : ByteArray), (⟨#[109, 97, 114, 107]⟩ : ByteArray)]).drop (0)).take (Int.toNat (p.need.length : Int)))⟩ : api_Policy)).bind fun r44 =>
            bif (!decide (r44 = r43)) then (
              some false)
            else (
              (signetlaw19_ClaimsChecks_p1 (0 : Int) (Int.toNat (p.need.length : Int)) (([] ++ p.need) ++ [(⟨#[109, 97, 114, 107]⟩ : ByteArray), (⟨#[109, 97, 114, 107]⟩ : ByteArray)])).bind fun o45 =>
              gd ((0) + r36.2.1 ≤ r36.1.value.length) <|
              gd ((0) + r36.2.2 ≤ o42.length) <|
              gd ((0) + (Int.toNat (p.need.length : Int)) ≤ o45.length) <|
              (signetref19_Check_s (⟨((r36.1.value.drop (0)).take r36.2.1), r36.1.iss, r36.1.hasIss, r36.1.sub, r36.1.hasSub, ((o42.drop (0)).take r36.2.2), r36.1.hasAud, r36.1.jti, r36.1.hasJti, r36.1.exp_, r36.1.nbf, r36.1.iat⟩ : api_Claims) (⟨p.algs, p.iss, p.hasIss, p.aud, p.hasAud, p.typ, p.hasTyp, p.leeway, ((o45.drop (0)).take (Int.toNat (p.need.length : Int)))⟩ : api_Policy)).bind fun r46 =>
              gd ((0) + r36.2.1 ≤ r36.1.value.length) <|
              gd ((0) + r36.2.2 ≤ o42.length) <|
              gd ((0) + (Int.toNat (p.need.length : Int)) ≤ o45.length) <|
              (claims_Check_s (⟨((r36.1.value.drop (0)).take r36.2.1), r36.1.iss, r36.1.hasIss, r36.1.sub, r36.1.hasSub, ((o42.drop (0)).take r36.2.2), r36.1.hasAud, r36.1.jti, r36.1.hasJti, r36.1.exp_, r36.1.nbf, r36.1.iat⟩ : api_Claims) (⟨p.algs, p.iss, p.hasIss, p.aud, p.hasAud, p.typ, p.hasTyp, p.leeway, ((o45.drop (0)).take (Int.toNat (p.need.length : Int)))⟩ : api_Policy)).bind fun r47 =>
              some (decide (r47 = r46))))))))
noncomputable def signetlaw19_ClaimsChecks_G : Nat → Option CQ := tblQ [(4, signetref3_Beyond_w), (5, signetlaw19_roomy_w), (6, claims_Check_w), (7, signetlaw19_spared_w), (8, signetlaw19_sameTexts_w), (9, signetref3_Shaped_w), (10, signetref19_Check_w)]
theorem signetlaw19_ClaimsChecks_Gok : ∀ f C, signetlaw19_ClaimsChecks_G f = some C → ValidQ Try.prog f C := tblQ_valid ⟨signetref3_Beyond_ok, signetlaw19_roomy_ok, claims_Check_ok, signetlaw19_spared_ok, signetlaw19_sameTexts_ok, signetref3_Shaped_ok, signetref19_Check_ok, trivial⟩
def signetlaw19_ClaimsChecks_d0 := (dQS (dCons (dSl 3 (dVC (dCO (dH 4 0)))) (dCons (dSl 5 (dVC (dCO (dH 5 0)))) (dCons (dSl 7 (dVC (dCO (dH 6 0)))) (dCons (dSl 9 (dVC (dCO (dI .i64)))) dNil)))) (dCons (dView .node) (dCons (dView .str) (dCons (dView .str) (dCons (dView .str) (dCons (dCells 29 (dCons (dO 2) (dCons dS (dCons dB (dCons dS (dCons dB (dCons dS (dCons dB (dCons (dI .i64) (dCons (dO 3) dNil)))))))))) (dCons (dCells 27 (dCons (dO 7) (dCons dS (dCons dB (dCons dS (dCons dB (dCons (dO 8) (dCons dB (dCons dS (dCons dB (dCons dB (dCons (dI .i64) (dCons dB (dCons (dI .i64) (dCons dB (dCons (dI .i64) dNil)))))))))))))))) (dCons (dCells 29 (dCons (dO 2) (dCons dS (dCons dB (dCons dS (dCons dB (dCons dS (dCons dB (dCons (dI .i64) (dCons (dO 9) dNil)))))))))) (dCons (dPart0 10 6) (dCons (dPart0 11 1) (dCons (dPart0 12 1) (dCons (dRow .node 40) (dCons (dRow .str 9) (dCons (dRow .str 9) dNil))))))))))))))
noncomputable def signetlaw19_ClaimsChecks_l0 : SubQ := fun S R kn kx kr => (Dec.d signetlaw19_ClaimsChecks_d0 S).bind fun x => (signetlaw19_ClaimsChecks_p0 x.1.2.2.2.1 x.2.2.2.2.2.2.2.2.2.1 x.2.2.2.2.2.2.2.2.2.2.2.2.1).bind fun r => kx 0 ⟨[(3, [], .c (.o (.hd 4 0))), (5, [], .c (.o (.hd 5 0))), (7, [], .c (.o (.hd 6 0)))], [], [.view .node x.2.1, .view .str x.2.2.1, .view .str x.2.2.2.1, .view .str x.2.2.2.2.1, .cells 29 [.own 2, .val (.string x.2.2.2.2.2.1.2.1), .val (.bool x.2.2.2.2.2.1.2.2.1), .val (.string x.2.2.2.2.2.1.2.2.2.1), .val (.bool x.2.2.2.2.2.1.2.2.2.2.1), .val (.string x.2.2.2.2.2.1.2.2.2.2.2.1), .val (.bool x.2.2.2.2.2.1.2.2.2.2.2.2.1), .val (.int .i64 x.2.2.2.2.2.1.2.2.2.2.2.2.2.1), .own 3], .cells 27 [.own 7, .val (.string x.2.2.2.2.2.2.1.2.1), .val (.bool x.2.2.2.2.2.2.1.2.2.1), .val (.string x.2.2.2.2.2.2.1.2.2.2.1), .val (.bool x.2.2.2.2.2.2.1.2.2.2.2.1), .own 8, .val (.bool x.2.2.2.2.2.2.1.2.2.2.2.2.2.1), .val (.string x.2.2.2.2.2.2.1.2.2.2.2.2.2.2.1), .val (.bool x.2.2.2.2.2.2.1.2.2.2.2.2.2.2.2.1), .val (.bool x.2.2.2.2.2.2.1.2.2.2.2.2.2.2.2.2.1), .val (.int .i64 x.2.2.2.2.2.2.1.2.2.2.2.2.2.2.2.2.2.1), .val (.bool x.2.2.2.2.2.2.1.2.2.2.2.2.2.2.2.2.2.2.1), .val (.int .i64 x.2.2.2.2.2.2.1.2.2.2.2.2.2.2.2.2.2.2.2.1), .val (.bool x.2.2.2.2.2.2.1.2.2.2.2.2.2.2.2.2.2.2.2.2.1), .val (.int .i64 x.2.2.2.2.2.2.1.2.2.2.2.2.2.2.2.2.2.2.2.2.2.1)], .cells 29 [.own 2, .val (.string x.2.2.2.2.2.2.2.1.2.1), .val (.bool x.2.2.2.2.2.2.2.1.2.2.1), .val (.string x.2.2.2.2.2.2.2.1.2.2.2.1), .val (.bool x.2.2.2.2.2.2.2.1.2.2.2.2.1), .val (.string x.2.2.2.2.2.2.2.1.2.2.2.2.2.1), .val (.bool x.2.2.2.2.2.2.2.1.2.2.2.2.2.2.1), .val (.int .i64 x.2.2.2.2.2.2.2.1.2.2.2.2.2.2.2.1), .own 9], .part 10 (0) x.2.2.2.2.2.2.2.2.1 6, .part 11 (0) x.2.2.2.2.2.2.2.2.2.1 1, .part 12 (0) x.2.2.2.2.2.2.2.2.2.2.1 1, .row .node 40 x.2.2.2.2.2.2.2.2.2.2.2.1, .row .str 9 r, .row .str 9 x.2.2.2.2.2.2.2.2.2.2.2.2.2.1]⟩
def signetlaw19_ClaimsChecks_d1 := (dQS (dCons (dSl 5 (dVC (dCO (dH 4 0)))) (dCons (dSl 7 (dVC (dCO (dH 5 0)))) (dCons (dSl 11 (dVC (dCO (dI .i64)))) dNil))) (dCons (dView .node) (dCons (dView .str) (dCons (dView .str) (dCons (dView .str) (dCons (dCells 27 (dCons (dO 6) (dCons dS (dCons dB (dCons dS (dCons dB (dCons (dO 7) (dCons dB (dCons dS (dCons dB (dCons dB (dCons (dI .i64) (dCons dB (dCons (dI .i64) (dCons dB (dCons (dI .i64) dNil)))))))))))))))) (dCons (dCells 29 (dCons (dO 2) (dCons dS (dCons dB (dCons dS (dCons dB (dCons dS (dCons dB (dCons (dI .i64) (dCons (dO 8) dNil)))))))))) (dCons (dPart0 9 6) (dCons (dPart0 10 1) (dCons (dPart0 11 1) (dCons (dRow .node 40) (dCons (dRow .str 9) (dCons (dRow .str 9) dNil)))))))))))))
noncomputable def signetlaw19_ClaimsChecks_l1 : SubQ := fun S R kn kx kr => (Dec.d signetlaw19_ClaimsChecks_d1 S).bind fun x => (signetlaw19_ClaimsChecks_p1 x.1.2.2.1 x.2.2.2.2.2.2.2.2.2.1 x.2.2.2.2.2.2.2.2.2.2.2.2.1).bind fun r => kx 2 ⟨[(5, [], .c (.o (.hd 4 0))), (7, [], .c (.o (.hd 5 0)))], [], [.view .node x.2.1, .view .str x.2.2.1, .view .str x.2.2.2.1, .view .str x.2.2.2.2.1, .cells 27 [.own 6, .val (.string x.2.2.2.2.2.1.2.1), .val (.bool x.2.2.2.2.2.1.2.2.1), .val (.string x.2.2.2.2.2.1.2.2.2.1), .val (.bool x.2.2.2.2.2.1.2.2.2.2.1), .own 7, .val (.bool x.2.2.2.2.2.1.2.2.2.2.2.2.1), .val (.string x.2.2.2.2.2.1.2.2.2.2.2.2.2.1), .val (.bool x.2.2.2.2.2.1.2.2.2.2.2.2.2.2.1), .val (.bool x.2.2.2.2.2.1.2.2.2.2.2.2.2.2.2.1), .val (.int .i64 x.2.2.2.2.2.1.2.2.2.2.2.2.2.2.2.2.1), .val (.bool x.2.2.2.2.2.1.2.2.2.2.2.2.2.2.2.2.2.1), .val (.int .i64 x.2.2.2.2.2.1.2.2.2.2.2.2.2.2.2.2.2.2.1), .val (.bool x.2.2.2.2.2.1.2.2.2.2.2.2.2.2.2.2.2.2.2.1), .val (.int .i64 x.2.2.2.2.2.1.2.2.2.2.2.2.2.2.2.2.2.2.2.2.1)], .cells 29 [.own 2, .val (.string x.2.2.2.2.2.2.1.2.1), .val (.bool x.2.2.2.2.2.2.1.2.2.1), .val (.string x.2.2.2.2.2.2.1.2.2.2.1), .val (.bool x.2.2.2.2.2.2.1.2.2.2.2.1), .val (.string x.2.2.2.2.2.2.1.2.2.2.2.2.1), .val (.bool x.2.2.2.2.2.2.1.2.2.2.2.2.2.1), .val (.int .i64 x.2.2.2.2.2.2.1.2.2.2.2.2.2.2.1), .own 8], .part 9 (0) x.2.2.2.2.2.2.2.1 6, .part 10 (0) x.2.2.2.2.2.2.2.2.1 1, .part 11 (0) x.2.2.2.2.2.2.2.2.2.1 1, .row .node 40 x.2.2.2.2.2.2.2.2.2.2.1, .row .str 9 x.2.2.2.2.2.2.2.2.2.2.2.1, .row .str 9 r]⟩
noncomputable def signetlaw19_ClaimsChecks_L : Nat → SubQ := tblL [(0, signetlaw19_ClaimsChecks_l0), (1, signetlaw19_ClaimsChecks_l1)]
theorem signetlaw19_ClaimsChecks_p0_eq (i : Int) (c_value : List Eng.Node) (c_aud : List ByteArray) (p_algs : List ByteArray) (p_need : List ByteArray) (p_Iss : ByteArray) (p_HasIss : Bool) (p_Aud : ByteArray) (p_HasAud : Bool) (p_Typ : ByteArray) (p_HasTyp : Bool) (p_Leeway : Int) (mine_Iss : ByteArray) (mine_HasIss : Bool) (mine_Sub : ByteArray) (mine_HasSub : Bool) (mine_HasAud : Bool) (mine_Jti : ByteArray) (mine_HasJti : Bool) (mine_Exp_Has : Bool) (mine_Exp_At : Int) (mine_Nbf_Has : Bool) (mine_Nbf_At : Int) (mine_Iat_Has : Bool) (mine_Iat_At : Int) (q_Iss : ByteArray) (q_HasIss : Bool) (q_Aud : ByteArray) (q_HasAud : Bool) (q_Typ : ByteArray) (q_HasTyp : Bool) (q_Leeway : Int) (mine_Value_n : Nat) (mine_Aud_n : Nat) (q_Need_n : Nat) (h10 : List Eng.Node) (h11 : List ByteArray) (h12 : List ByteArray) (R : Type) (kn : QS → Option R) (kx : Nat → QS → Option R) (kr : QS → Option R) :
    interpQ signetlaw19_ClaimsChecks_L signetlaw19_ClaimsChecks_G 4 12 126 signetlaw19_ClaimsChecks_b0 ⟨[(3, [], .c (.o (.hd 4 0))), (5, [], .c (.o (.hd 5 0))), (7, [], .c (.o (.hd 6 0))), (9, [], .c (.o (.val (.int .i64 i))))], [], [.view .node c_value, .view .str c_aud, .view .str p_algs, .view .str p_need, .cells 29 [.own 2, .val (.string p_Iss), .val (.bool p_HasIss), .val (.string p_Aud), .val (.bool p_HasAud), .val (.string p_Typ), .val (.bool p_HasTyp), .val (.int .i64 p_Leeway), .own 3], .cells 27 [.own 7, .val (.string mine_Iss), .val (.bool mine_HasIss), .val (.string mine_Sub), .val (.bool mine_HasSub), .own 8, .val (.bool mine_HasAud), .val (.string mine_Jti), .val (.bool mine_HasJti), .val (.bool mine_Exp_Has), .val (.int .i64 mine_Exp_At), .val (.bool mine_Nbf_Has), .val (.int .i64 mine_Nbf_At), .val (.bool mine_Iat_Has), .val (.int .i64 mine_Iat_At)], .cells 29 [.own 2, .val (.string q_Iss), .val (.bool q_HasIss), .val (.string q_Aud), .val (.bool q_HasAud), .val (.string q_Typ), .val (.bool q_HasTyp), .val (.int .i64 q_Leeway), .own 9], .part 10 (0) mine_Value_n 6, .part 11 (0) mine_Aud_n 1, .part 12 (0) q_Need_n 1, .row .node 40 h10, .row .str 9 h11, .row .str 9 h12]⟩ kn kx kr = (signetlaw19_ClaimsChecks_p0 i mine_Aud_n h11).bind fun r => kx 0 ⟨[(3, [], .c (.o (.hd 4 0))), (5, [], .c (.o (.hd 5 0))), (7, [], .c (.o (.hd 6 0)))], [], [.view .node c_value, .view .str c_aud, .view .str p_algs, .view .str p_need, .cells 29 [.own 2, .val (.string p_Iss), .val (.bool p_HasIss), .val (.string p_Aud), .val (.bool p_HasAud), .val (.string p_Typ), .val (.bool p_HasTyp), .val (.int .i64 p_Leeway), .own 3], .cells 27 [.own 7, .val (.string mine_Iss), .val (.bool mine_HasIss), .val (.string mine_Sub), .val (.bool mine_HasSub), .own 8, .val (.bool mine_HasAud), .val (.string mine_Jti), .val (.bool mine_HasJti), .val (.bool mine_Exp_Has), .val (.int .i64 mine_Exp_At), .val (.bool mine_Nbf_Has), .val (.int .i64 mine_Nbf_At), .val (.bool mine_Iat_Has), .val (.int .i64 mine_Iat_At)], .cells 29 [.own 2, .val (.string q_Iss), .val (.bool q_HasIss), .val (.string q_Aud), .val (.bool q_HasAud), .val (.string q_Typ), .val (.bool q_HasTyp), .val (.int .i64 q_Leeway), .own 9], .part 10 (0) mine_Value_n 6, .part 11 (0) mine_Aud_n 1, .part 12 (0) q_Need_n 1, .row .node 40 h10, .row .str 9 r, .row .str 9 h12]⟩ := by
  refine loop_piece (step := fun x => signetlaw19_ClaimsChecks_p0_step x.1 mine_Aud_n x.2) (enc := fun x => ⟨[(3, [], .c (.o (.hd 4 0))), (5, [], .c (.o (.hd 5 0))), (7, [], .c (.o (.hd 6 0))), (9, [], .c (.o (.val (.int .i64 x.1))))], [], [.view .node c_value, .view .str c_aud, .view .str p_algs, .view .str p_need, .cells 29 [.own 2, .val (.string p_Iss), .val (.bool p_HasIss), .val (.string p_Aud), .val (.bool p_HasAud), .val (.string p_Typ), .val (.bool p_HasTyp), .val (.int .i64 p_Leeway), .own 3], .cells 27 [.own 7, .val (.string mine_Iss), .val (.bool mine_HasIss), .val (.string mine_Sub), .val (.bool mine_HasSub), .own 8, .val (.bool mine_HasAud), .val (.string mine_Jti), .val (.bool mine_HasJti), .val (.bool mine_Exp_Has), .val (.int .i64 mine_Exp_At), .val (.bool mine_Nbf_Has), .val (.int .i64 mine_Nbf_At), .val (.bool mine_Iat_Has), .val (.int .i64 mine_Iat_At)], .cells 29 [.own 2, .val (.string q_Iss), .val (.bool q_HasIss), .val (.string q_Aud), .val (.bool q_HasAud), .val (.string q_Typ), .val (.bool q_HasTyp), .val (.int .i64 q_Leeway), .own 9], .part 10 (0) mine_Value_n 6, .part 11 (0) mine_Aud_n 1, .part 12 (0) q_Need_n 1, .row .node 40 h10, .row .str 9 x.2, .row .str 9 h12]⟩) (ko := fun r => kx 0 ⟨[(3, [], .c (.o (.hd 4 0))), (5, [], .c (.o (.hd 5 0))), (7, [], .c (.o (.hd 6 0)))], [], [.view .node c_value, .view .str c_aud, .view .str p_algs, .view .str p_need, .cells 29 [.own 2, .val (.string p_Iss), .val (.bool p_HasIss), .val (.string p_Aud), .val (.bool p_HasAud), .val (.string p_Typ), .val (.bool p_HasTyp), .val (.int .i64 p_Leeway), .own 3], .cells 27 [.own 7, .val (.string mine_Iss), .val (.bool mine_HasIss), .val (.string mine_Sub), .val (.bool mine_HasSub), .own 8, .val (.bool mine_HasAud), .val (.string mine_Jti), .val (.bool mine_HasJti), .val (.bool mine_Exp_Has), .val (.int .i64 mine_Exp_At), .val (.bool mine_Nbf_Has), .val (.int .i64 mine_Nbf_At), .val (.bool mine_Iat_Has), .val (.int .i64 mine_Iat_At)], .cells 29 [.own 2, .val (.string q_Iss), .val (.bool q_HasIss), .val (.string q_Aud), .val (.bool q_HasAud), .val (.string q_Typ), .val (.bool q_HasTyp), .val (.int .i64 q_Leeway), .own 9], .part 10 (0) mine_Value_n 6, .part 11 (0) mine_Aud_n 1, .part 12 (0) q_Need_n 1, .row .node 40 h10, .row .str 9 r, .row .str 9 h12]⟩) ?_ ?_ (i, h11)
  · intro x; kernel_rfl
  · intro x ki; simp only [signetlaw19_ClaimsChecks_p0_step, -eq_self, bind_cond, bind_gd, Option.bind_assoc, Option.bind_some, Sum.elim_inl, Sum.elim_inr, bind_elim]; kernel_rfl
theorem signetlaw19_ClaimsChecks_sub0 : SubOK signetlaw19_ClaimsChecks_L signetlaw19_ClaimsChecks_G 4 12 126 0 signetlaw19_ClaimsChecks_b0 := sub_ok' signetlaw19_ClaimsChecks_d0 (fun x R kn kx kr => (signetlaw19_ClaimsChecks_p0 x.1.2.2.2.1 x.2.2.2.2.2.2.2.2.2.1 x.2.2.2.2.2.2.2.2.2.2.2.2.1).bind fun r => kx 0 ⟨[(3, [], .c (.o (.hd 4 0))), (5, [], .c (.o (.hd 5 0))), (7, [], .c (.o (.hd 6 0)))], [], [.view .node x.2.1, .view .str x.2.2.1, .view .str x.2.2.2.1, .view .str x.2.2.2.2.1, .cells 29 [.own 2, .val (.string x.2.2.2.2.2.1.2.1), .val (.bool x.2.2.2.2.2.1.2.2.1), .val (.string x.2.2.2.2.2.1.2.2.2.1), .val (.bool x.2.2.2.2.2.1.2.2.2.2.1), .val (.string x.2.2.2.2.2.1.2.2.2.2.2.1), .val (.bool x.2.2.2.2.2.1.2.2.2.2.2.2.1), .val (.int .i64 x.2.2.2.2.2.1.2.2.2.2.2.2.2.1), .own 3], .cells 27 [.own 7, .val (.string x.2.2.2.2.2.2.1.2.1), .val (.bool x.2.2.2.2.2.2.1.2.2.1), .val (.string x.2.2.2.2.2.2.1.2.2.2.1), .val (.bool x.2.2.2.2.2.2.1.2.2.2.2.1), .own 8, .val (.bool x.2.2.2.2.2.2.1.2.2.2.2.2.2.1), .val (.string x.2.2.2.2.2.2.1.2.2.2.2.2.2.2.1), .val (.bool x.2.2.2.2.2.2.1.2.2.2.2.2.2.2.2.1), .val (.bool x.2.2.2.2.2.2.1.2.2.2.2.2.2.2.2.2.1), .val (.int .i64 x.2.2.2.2.2.2.1.2.2.2.2.2.2.2.2.2.2.1), .val (.bool x.2.2.2.2.2.2.1.2.2.2.2.2.2.2.2.2.2.2.1), .val (.int .i64 x.2.2.2.2.2.2.1.2.2.2.2.2.2.2.2.2.2.2.2.1), .val (.bool x.2.2.2.2.2.2.1.2.2.2.2.2.2.2.2.2.2.2.2.2.1), .val (.int .i64 x.2.2.2.2.2.2.1.2.2.2.2.2.2.2.2.2.2.2.2.2.2.1)], .cells 29 [.own 2, .val (.string x.2.2.2.2.2.2.2.1.2.1), .val (.bool x.2.2.2.2.2.2.2.1.2.2.1), .val (.string x.2.2.2.2.2.2.2.1.2.2.2.1), .val (.bool x.2.2.2.2.2.2.2.1.2.2.2.2.1), .val (.string x.2.2.2.2.2.2.2.1.2.2.2.2.2.1), .val (.bool x.2.2.2.2.2.2.2.1.2.2.2.2.2.2.1), .val (.int .i64 x.2.2.2.2.2.2.2.1.2.2.2.2.2.2.2.1), .own 9], .part 10 (0) x.2.2.2.2.2.2.2.2.1 6, .part 11 (0) x.2.2.2.2.2.2.2.2.2.1 1, .part 12 (0) x.2.2.2.2.2.2.2.2.2.2.1 1, .row .node 40 x.2.2.2.2.2.2.2.2.2.2.2.1, .row .str 9 r, .row .str 9 x.2.2.2.2.2.2.2.2.2.2.2.2.2.1]⟩) (by kernel_rfl) fun x R kn kx kr => signetlaw19_ClaimsChecks_p0_eq x.1.2.2.2.1 x.2.1 x.2.2.1 x.2.2.2.1 x.2.2.2.2.1 x.2.2.2.2.2.1.2.1 x.2.2.2.2.2.1.2.2.1 x.2.2.2.2.2.1.2.2.2.1 x.2.2.2.2.2.1.2.2.2.2.1 x.2.2.2.2.2.1.2.2.2.2.2.1 x.2.2.2.2.2.1.2.2.2.2.2.2.1 x.2.2.2.2.2.1.2.2.2.2.2.2.2.1 x.2.2.2.2.2.2.1.2.1 x.2.2.2.2.2.2.1.2.2.1 x.2.2.2.2.2.2.1.2.2.2.1 x.2.2.2.2.2.2.1.2.2.2.2.1 x.2.2.2.2.2.2.1.2.2.2.2.2.2.1 x.2.2.2.2.2.2.1.2.2.2.2.2.2.2.1 x.2.2.2.2.2.2.1.2.2.2.2.2.2.2.2.1 x.2.2.2.2.2.2.1.2.2.2.2.2.2.2.2.2.1 x.2.2.2.2.2.2.1.2.2.2.2.2.2.2.2.2.2.1 x.2.2.2.2.2.2.1.2.2.2.2.2.2.2.2.2.2.2.1 x.2.2.2.2.2.2.1.2.2.2.2.2.2.2.2.2.2.2.2.1 x.2.2.2.2.2.2.1.2.2.2.2.2.2.2.2.2.2.2.2.2.1 x.2.2.2.2.2.2.1.2.2.2.2.2.2.2.2.2.2.2.2.2.2.1 x.2.2.2.2.2.2.2.1.2.1 x.2.2.2.2.2.2.2.1.2.2.1 x.2.2.2.2.2.2.2.1.2.2.2.1 x.2.2.2.2.2.2.2.1.2.2.2.2.1 x.2.2.2.2.2.2.2.1.2.2.2.2.2.1 x.2.2.2.2.2.2.2.1.2.2.2.2.2.2.1 x.2.2.2.2.2.2.2.1.2.2.2.2.2.2.2.1 x.2.2.2.2.2.2.2.2.1 x.2.2.2.2.2.2.2.2.2.1 x.2.2.2.2.2.2.2.2.2.2.1 x.2.2.2.2.2.2.2.2.2.2.2.1 x.2.2.2.2.2.2.2.2.2.2.2.2.1 x.2.2.2.2.2.2.2.2.2.2.2.2.2.1 R kn kx kr
theorem signetlaw19_ClaimsChecks_p1_eq (i : Int) (c_value : List Eng.Node) (c_aud : List ByteArray) (p_algs : List ByteArray) (p_need : List ByteArray) (mine_Iss : ByteArray) (mine_HasIss : Bool) (mine_Sub : ByteArray) (mine_HasSub : Bool) (mine_HasAud : Bool) (mine_Jti : ByteArray) (mine_HasJti : Bool) (mine_Exp_Has : Bool) (mine_Exp_At : Int) (mine_Nbf_Has : Bool) (mine_Nbf_At : Int) (mine_Iat_Has : Bool) (mine_Iat_At : Int) (q_Iss : ByteArray) (q_HasIss : Bool) (q_Aud : ByteArray) (q_HasAud : Bool) (q_Typ : ByteArray) (q_HasTyp : Bool) (q_Leeway : Int) (mine_Value_n : Nat) (mine_Aud_n : Nat) (q_Need_n : Nat) (h9 : List Eng.Node) (h10 : List ByteArray) (h11 : List ByteArray) (R : Type) (kn : QS → Option R) (kx : Nat → QS → Option R) (kr : QS → Option R) :
    interpQ signetlaw19_ClaimsChecks_L signetlaw19_ClaimsChecks_G 4 12 126 signetlaw19_ClaimsChecks_b1 ⟨[(5, [], .c (.o (.hd 4 0))), (7, [], .c (.o (.hd 5 0))), (11, [], .c (.o (.val (.int .i64 i))))], [], [.view .node c_value, .view .str c_aud, .view .str p_algs, .view .str p_need, .cells 27 [.own 6, .val (.string mine_Iss), .val (.bool mine_HasIss), .val (.string mine_Sub), .val (.bool mine_HasSub), .own 7, .val (.bool mine_HasAud), .val (.string mine_Jti), .val (.bool mine_HasJti), .val (.bool mine_Exp_Has), .val (.int .i64 mine_Exp_At), .val (.bool mine_Nbf_Has), .val (.int .i64 mine_Nbf_At), .val (.bool mine_Iat_Has), .val (.int .i64 mine_Iat_At)], .cells 29 [.own 2, .val (.string q_Iss), .val (.bool q_HasIss), .val (.string q_Aud), .val (.bool q_HasAud), .val (.string q_Typ), .val (.bool q_HasTyp), .val (.int .i64 q_Leeway), .own 8], .part 9 (0) mine_Value_n 6, .part 10 (0) mine_Aud_n 1, .part 11 (0) q_Need_n 1, .row .node 40 h9, .row .str 9 h10, .row .str 9 h11]⟩ kn kx kr = (signetlaw19_ClaimsChecks_p1 i q_Need_n h11).bind fun r => kx 2 ⟨[(5, [], .c (.o (.hd 4 0))), (7, [], .c (.o (.hd 5 0)))], [], [.view .node c_value, .view .str c_aud, .view .str p_algs, .view .str p_need, .cells 27 [.own 6, .val (.string mine_Iss), .val (.bool mine_HasIss), .val (.string mine_Sub), .val (.bool mine_HasSub), .own 7, .val (.bool mine_HasAud), .val (.string mine_Jti), .val (.bool mine_HasJti), .val (.bool mine_Exp_Has), .val (.int .i64 mine_Exp_At), .val (.bool mine_Nbf_Has), .val (.int .i64 mine_Nbf_At), .val (.bool mine_Iat_Has), .val (.int .i64 mine_Iat_At)], .cells 29 [.own 2, .val (.string q_Iss), .val (.bool q_HasIss), .val (.string q_Aud), .val (.bool q_HasAud), .val (.string q_Typ), .val (.bool q_HasTyp), .val (.int .i64 q_Leeway), .own 8], .part 9 (0) mine_Value_n 6, .part 10 (0) mine_Aud_n 1, .part 11 (0) q_Need_n 1, .row .node 40 h9, .row .str 9 h10, .row .str 9 r]⟩ := by
  refine loop_piece (step := fun x => signetlaw19_ClaimsChecks_p1_step x.1 q_Need_n x.2) (enc := fun x => ⟨[(5, [], .c (.o (.hd 4 0))), (7, [], .c (.o (.hd 5 0))), (11, [], .c (.o (.val (.int .i64 x.1))))], [], [.view .node c_value, .view .str c_aud, .view .str p_algs, .view .str p_need, .cells 27 [.own 6, .val (.string mine_Iss), .val (.bool mine_HasIss), .val (.string mine_Sub), .val (.bool mine_HasSub), .own 7, .val (.bool mine_HasAud), .val (.string mine_Jti), .val (.bool mine_HasJti), .val (.bool mine_Exp_Has), .val (.int .i64 mine_Exp_At), .val (.bool mine_Nbf_Has), .val (.int .i64 mine_Nbf_At), .val (.bool mine_Iat_Has), .val (.int .i64 mine_Iat_At)], .cells 29 [.own 2, .val (.string q_Iss), .val (.bool q_HasIss), .val (.string q_Aud), .val (.bool q_HasAud), .val (.string q_Typ), .val (.bool q_HasTyp), .val (.int .i64 q_Leeway), .own 8], .part 9 (0) mine_Value_n 6, .part 10 (0) mine_Aud_n 1, .part 11 (0) q_Need_n 1, .row .node 40 h9, .row .str 9 h10, .row .str 9 x.2]⟩) (ko := fun r => kx 2 ⟨[(5, [], .c (.o (.hd 4 0))), (7, [], .c (.o (.hd 5 0)))], [], [.view .node c_value, .view .str c_aud, .view .str p_algs, .view .str p_need, .cells 27 [.own 6, .val (.string mine_Iss), .val (.bool mine_HasIss), .val (.string mine_Sub), .val (.bool mine_HasSub), .own 7, .val (.bool mine_HasAud), .val (.string mine_Jti), .val (.bool mine_HasJti), .val (.bool mine_Exp_Has), .val (.int .i64 mine_Exp_At), .val (.bool mine_Nbf_Has), .val (.int .i64 mine_Nbf_At), .val (.bool mine_Iat_Has), .val (.int .i64 mine_Iat_At)], .cells 29 [.own 2, .val (.string q_Iss), .val (.bool q_HasIss), .val (.string q_Aud), .val (.bool q_HasAud), .val (.string q_Typ), .val (.bool q_HasTyp), .val (.int .i64 q_Leeway), .own 8], .part 9 (0) mine_Value_n 6, .part 10 (0) mine_Aud_n 1, .part 11 (0) q_Need_n 1, .row .node 40 h9, .row .str 9 h10, .row .str 9 r]⟩) ?_ ?_ (i, h11)
  · intro x; kernel_rfl
  · intro x ki; simp only [signetlaw19_ClaimsChecks_p1_step, -eq_self, bind_cond, bind_gd, Option.bind_assoc, Option.bind_some, Sum.elim_inl, Sum.elim_inr, bind_elim]; kernel_rfl
theorem signetlaw19_ClaimsChecks_sub1 : SubOK signetlaw19_ClaimsChecks_L signetlaw19_ClaimsChecks_G 4 12 126 1 signetlaw19_ClaimsChecks_b1 := sub_ok' signetlaw19_ClaimsChecks_d1 (fun x R kn kx kr => (signetlaw19_ClaimsChecks_p1 x.1.2.2.1 x.2.2.2.2.2.2.2.2.2.1 x.2.2.2.2.2.2.2.2.2.2.2.2.1).bind fun r => kx 2 ⟨[(5, [], .c (.o (.hd 4 0))), (7, [], .c (.o (.hd 5 0)))], [], [.view .node x.2.1, .view .str x.2.2.1, .view .str x.2.2.2.1, .view .str x.2.2.2.2.1, .cells 27 [.own 6, .val (.string x.2.2.2.2.2.1.2.1), .val (.bool x.2.2.2.2.2.1.2.2.1), .val (.string x.2.2.2.2.2.1.2.2.2.1), .val (.bool x.2.2.2.2.2.1.2.2.2.2.1), .own 7, .val (.bool x.2.2.2.2.2.1.2.2.2.2.2.2.1), .val (.string x.2.2.2.2.2.1.2.2.2.2.2.2.2.1), .val (.bool x.2.2.2.2.2.1.2.2.2.2.2.2.2.2.1), .val (.bool x.2.2.2.2.2.1.2.2.2.2.2.2.2.2.2.1), .val (.int .i64 x.2.2.2.2.2.1.2.2.2.2.2.2.2.2.2.2.1), .val (.bool x.2.2.2.2.2.1.2.2.2.2.2.2.2.2.2.2.2.1), .val (.int .i64 x.2.2.2.2.2.1.2.2.2.2.2.2.2.2.2.2.2.2.1), .val (.bool x.2.2.2.2.2.1.2.2.2.2.2.2.2.2.2.2.2.2.2.1), .val (.int .i64 x.2.2.2.2.2.1.2.2.2.2.2.2.2.2.2.2.2.2.2.2.1)], .cells 29 [.own 2, .val (.string x.2.2.2.2.2.2.1.2.1), .val (.bool x.2.2.2.2.2.2.1.2.2.1), .val (.string x.2.2.2.2.2.2.1.2.2.2.1), .val (.bool x.2.2.2.2.2.2.1.2.2.2.2.1), .val (.string x.2.2.2.2.2.2.1.2.2.2.2.2.1), .val (.bool x.2.2.2.2.2.2.1.2.2.2.2.2.2.1), .val (.int .i64 x.2.2.2.2.2.2.1.2.2.2.2.2.2.2.1), .own 8], .part 9 (0) x.2.2.2.2.2.2.2.1 6, .part 10 (0) x.2.2.2.2.2.2.2.2.1 1, .part 11 (0) x.2.2.2.2.2.2.2.2.2.1 1, .row .node 40 x.2.2.2.2.2.2.2.2.2.2.1, .row .str 9 x.2.2.2.2.2.2.2.2.2.2.2.1, .row .str 9 r]⟩) (by kernel_rfl) fun x R kn kx kr => signetlaw19_ClaimsChecks_p1_eq x.1.2.2.1 x.2.1 x.2.2.1 x.2.2.2.1 x.2.2.2.2.1 x.2.2.2.2.2.1.2.1 x.2.2.2.2.2.1.2.2.1 x.2.2.2.2.2.1.2.2.2.1 x.2.2.2.2.2.1.2.2.2.2.1 x.2.2.2.2.2.1.2.2.2.2.2.2.1 x.2.2.2.2.2.1.2.2.2.2.2.2.2.1 x.2.2.2.2.2.1.2.2.2.2.2.2.2.2.1 x.2.2.2.2.2.1.2.2.2.2.2.2.2.2.2.1 x.2.2.2.2.2.1.2.2.2.2.2.2.2.2.2.2.1 x.2.2.2.2.2.1.2.2.2.2.2.2.2.2.2.2.2.1 x.2.2.2.2.2.1.2.2.2.2.2.2.2.2.2.2.2.2.1 x.2.2.2.2.2.1.2.2.2.2.2.2.2.2.2.2.2.2.2.1 x.2.2.2.2.2.1.2.2.2.2.2.2.2.2.2.2.2.2.2.2.1 x.2.2.2.2.2.2.1.2.1 x.2.2.2.2.2.2.1.2.2.1 x.2.2.2.2.2.2.1.2.2.2.1 x.2.2.2.2.2.2.1.2.2.2.2.1 x.2.2.2.2.2.2.1.2.2.2.2.2.1 x.2.2.2.2.2.2.1.2.2.2.2.2.2.1 x.2.2.2.2.2.2.1.2.2.2.2.2.2.2.1 x.2.2.2.2.2.2.2.1 x.2.2.2.2.2.2.2.2.1 x.2.2.2.2.2.2.2.2.2.1 x.2.2.2.2.2.2.2.2.2.2.1 x.2.2.2.2.2.2.2.2.2.2.2.1 x.2.2.2.2.2.2.2.2.2.2.2.2.1 R kn kx kr
theorem signetlaw19_ClaimsChecks_subs : subsOK signetlaw19_ClaimsChecks_L signetlaw19_ClaimsChecks_G 4 12 126 signetlaw19_ClaimsChecks_q := subs_of (show AllSub signetlaw19_ClaimsChecks_L signetlaw19_ClaimsChecks_G 4 12 126 [(0, signetlaw19_ClaimsChecks_b0), (1, signetlaw19_ClaimsChecks_b1)] from ⟨signetlaw19_ClaimsChecks_sub0, signetlaw19_ClaimsChecks_sub1, trivial⟩)
theorem signetlaw19_ClaimsChecks_eq (c : api_Claims) (p : api_Policy) (R : Type) (k : SV → List SB → Option R) :
    fnQ signetlaw19_ClaimsChecks_L signetlaw19_ClaimsChecks_G 12 126 signetlaw19_ClaimsChecks_q [.tmp 4] [.c (.agg [.own 0, .val (.string c.iss), .val (.bool c.hasIss), .val (.string c.sub), .val (.bool c.hasSub), .own 1, .val (.bool c.hasAud), .val (.string c.jti), .val (.bool c.hasJti), .val (.bool c.exp_.has), .val (.int .i64 c.exp_.at_), .val (.bool c.nbf.has), .val (.int .i64 c.nbf.at_), .val (.bool c.iat.has), .val (.int .i64 c.iat.at_)]), .c (.agg [.own 2, .val (.string p.iss), .val (.bool p.hasIss), .val (.string p.aud), .val (.bool p.hasAud), .val (.string p.typ), .val (.bool p.hasTyp), .val (.int .i64 p.leeway), .own 3])] [.view .node c.value, .view .str c.aud, .view .str p.algs, .view .str p.need] k = (signetlaw19_ClaimsChecks_s c p).bind fun r => k (.c (.o (.val (.bool r)))) [.view .node c.value, .view .str c.aud, .view .str p.algs, .view .str p.need] := by
  simp only [signetlaw19_ClaimsChecks_s, -eq_self, bind_cond, bind_gd, Option.bind_assoc, Option.bind_some, Sum.elim_inl, Sum.elim_inr, bind_elim]
  kernel_rfl
def signetlaw19_ClaimsChecks_da := (dCons (dVC (dCA (dCons (dO 0) (dCons dS (dCons dB (dCons dS (dCons dB (dCons (dO 1) (dCons dB (dCons dS (dCons dB (dCons dB (dCons (dI .i64) (dCons dB (dCons (dI .i64) (dCons dB (dCons (dI .i64) dNil))))))))))))))))) (dCons (dVC (dCA (dCons (dO 2) (dCons dS (dCons dB (dCons dS (dCons dB (dCons dS (dCons dB (dCons (dI .i64) (dCons (dO 3) dNil))))))))))) dNil))
def signetlaw19_ClaimsChecks_db := (dCons (dView .node) (dCons (dView .str) (dCons (dView .str) (dCons (dView .str) dNil))))
noncomputable def signetlaw19_ClaimsChecks_c : CS := fun args hp R k => (Dec.d signetlaw19_ClaimsChecks_da args).bind fun x => (Dec.d signetlaw19_ClaimsChecks_db hp).bind fun y => (signetlaw19_ClaimsChecks_s (⟨y.1, x.1.2.1, x.1.2.2.1, x.1.2.2.2.1, x.1.2.2.2.2.1, y.2.1, x.1.2.2.2.2.2.2.1, x.1.2.2.2.2.2.2.2.1, x.1.2.2.2.2.2.2.2.2.1, (⟨x.1.2.2.2.2.2.2.2.2.2.1, x.1.2.2.2.2.2.2.2.2.2.2.1⟩ : api_Time), (⟨x.1.2.2.2.2.2.2.2.2.2.2.2.1, x.1.2.2.2.2.2.2.2.2.2.2.2.2.1⟩ : api_Time), (⟨x.1.2.2.2.2.2.2.2.2.2.2.2.2.2.1, x.1.2.2.2.2.2.2.2.2.2.2.2.2.2.2.1⟩ : api_Time)⟩ : api_Claims) (⟨y.2.2.1, x.2.1.2.1, x.2.1.2.2.1, x.2.1.2.2.2.1, x.2.1.2.2.2.2.1, x.2.1.2.2.2.2.2.1, x.2.1.2.2.2.2.2.2.1, x.2.1.2.2.2.2.2.2.2.1, y.2.2.2.1⟩ : api_Policy)).bind fun r => k (.c (.o (.val (.bool r)))) [.view .node y.1, .view .str y.2.1, .view .str y.2.2.1, .view .str y.2.2.2.1]
theorem signetlaw19_ClaimsChecks_val : ValidS Try.prog 3 signetlaw19_ClaimsChecks_c :=
  val_ok signetlaw19_ClaimsChecks_chk 12 signetlaw19_ClaimsChecks_Gok signetlaw19_ClaimsChecks_da signetlaw19_ClaimsChecks_db 4 (fun x y R k => (signetlaw19_ClaimsChecks_s (⟨y.1, x.1.2.1, x.1.2.2.1, x.1.2.2.2.1, x.1.2.2.2.2.1, y.2.1, x.1.2.2.2.2.2.2.1, x.1.2.2.2.2.2.2.2.1, x.1.2.2.2.2.2.2.2.2.1, (⟨x.1.2.2.2.2.2.2.2.2.2.1, x.1.2.2.2.2.2.2.2.2.2.2.1⟩ : api_Time), (⟨x.1.2.2.2.2.2.2.2.2.2.2.2.1, x.1.2.2.2.2.2.2.2.2.2.2.2.2.1⟩ : api_Time), (⟨x.1.2.2.2.2.2.2.2.2.2.2.2.2.2.1, x.1.2.2.2.2.2.2.2.2.2.2.2.2.2.2.1⟩ : api_Time)⟩ : api_Claims) (⟨y.2.2.1, x.2.1.2.1, x.2.1.2.2.1, x.2.1.2.2.2.1, x.2.1.2.2.2.2.1, x.2.1.2.2.2.2.2.1, x.2.1.2.2.2.2.2.2.1, x.2.1.2.2.2.2.2.2.2.1, y.2.2.2.1⟩ : api_Policy)).bind fun r => k (.c (.o (.val (.bool r)))) [.view .node y.1, .view .str y.2.1, .view .str y.2.2.1, .view .str y.2.2.2.1]) (by kernel_rfl)
    (fun x y R k => by simp only [Option.bind_assoc, Option.bind_some]) (fun x => Nat.le_of_ble_eq_true rfl) (fun y => rfl) signetlaw19_ClaimsChecks_subs fun x y => signetlaw19_ClaimsChecks_eq (⟨y.1, x.1.2.1, x.1.2.2.1, x.1.2.2.2.1, x.1.2.2.2.2.1, y.2.1, x.1.2.2.2.2.2.2.1, x.1.2.2.2.2.2.2.2.1, x.1.2.2.2.2.2.2.2.2.1, (⟨x.1.2.2.2.2.2.2.2.2.2.1, x.1.2.2.2.2.2.2.2.2.2.2.1⟩ : api_Time), (⟨x.1.2.2.2.2.2.2.2.2.2.2.2.1, x.1.2.2.2.2.2.2.2.2.2.2.2.2.1⟩ : api_Time), (⟨x.1.2.2.2.2.2.2.2.2.2.2.2.2.2.1, x.1.2.2.2.2.2.2.2.2.2.2.2.2.2.2.1⟩ : api_Time)⟩ : api_Claims) (⟨y.2.2.1, x.2.1.2.1, x.2.1.2.2.1, x.2.1.2.2.2.1, x.2.1.2.2.2.2.1, x.2.1.2.2.2.2.2.1, x.2.1.2.2.2.2.2.2.1, x.2.1.2.2.2.2.2.2.2.1, y.2.2.2.1⟩ : api_Policy) _ _
end Go.Proofs.Ytdcoiccdbgcpaaa
