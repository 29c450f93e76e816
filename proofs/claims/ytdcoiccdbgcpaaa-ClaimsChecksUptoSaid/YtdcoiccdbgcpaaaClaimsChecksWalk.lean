/-
  ClaimsChecks: its call returns true.
-/
import Derived.Test.YtdcoiccdbgcpaaaPChecks
import Derived.Test.YtdcoiccdbgcpaaaOpenVS
namespace Go.Proofs.Ytdcoiccdbgcpaaa
open Go.Eng
set_option linter.unusedVariables false
set_option linter.unusedSimpArgs false

theorem claimsChecks_walk (valueV : Value) (value : List Eng.Node) (iss : ByteArray) (hasIss : Bool) (sub : ByteArray) (hasSub : Bool) (audV : Value) (aud : List ByteArray) (hasAud : Bool) (jti : ByteArray) (hasJti : Bool) (expH : Bool) (exp : Int) (nbfH : Bool) (nbf : Int) (iatH : Bool) (iat : Int)
    (algsV : Value) (algs : List ByteArray) (piss : ByteArray) (phasIss : Bool) (paud : ByteArray) (phasAud : Bool) (typ : ByteArray) (hasTyp : Bool) (leeway : Int) (needV : Value) (need : List ByteArray) (W : World)
    (h0 : ViewAt noX W W .node valueV value ∧ (∀ n ∈ value, NodeB 1048576 n) ∧ value.length ≤ 1048576) (h1 : iss.size ≤ 1048576) (h2 : sub.size ≤ 1048576) (h3 : ViewAt noX W W .str audV aud ∧ (∀ s ∈ aud, s.size ≤ 1048576) ∧ aud.length ≤ 1048576) (h4 : jti.size ≤ 1048576)
    (h5 : -9223372036854775808 ≤ exp ∧ exp ≤ 9223372036854775807) (h6 : -9223372036854775808 ≤ nbf ∧ nbf ≤ 9223372036854775807) (h7 : -9223372036854775808 ≤ iat ∧ iat ≤ 9223372036854775807)
    (h8 : ViewAt noX W W .str algsV algs ∧ (∀ s ∈ algs, s.size ≤ 1048576) ∧ algs.length ≤ 1048576) (h9 : piss.size ≤ 1048576) (h10 : paud.size ≤ 1048576) (h11 : typ.size ≤ 1048576) (h12 : -9223372036854775808 ≤ leeway ∧ leeway ≤ 9223372036854775807)
    (h13 : ViewAt noX W W .str needV need ∧ (∀ s ∈ need, s.size ≤ 1048576) ∧ need.length ≤ 1048576) :
    Calls Try.prog 3 #[.agg #[valueV, .string iss, .bool hasIss, .string sub, .bool hasSub, audV, .bool hasAud, .string jti, .bool hasJti, .bool expH, .int .i64 exp, .bool nbfH, .int .i64 nbf, .bool iatH, .int .i64 iat],
        .agg #[algsV, .string piss, .bool phasIss, .string paud, .bool phasAud, .string typ, .bool hasTyp, .int .i64 leeway, needV]] W fun e w' => e = .returned (.bool true) ∧ LowB W w' := by
  refine callV signetlaw19_ClaimsChecks_val
    (args := [.c (.agg [.own 0, .val (.string iss), .val (.bool hasIss), .val (.string sub), .val (.bool hasSub), .own 1, .val (.bool hasAud), .val (.string jti), .val (.bool hasJti), .val (.bool expH), .val (.int .i64 exp), .val (.bool nbfH), .val (.int .i64 nbf), .val (.bool iatH), .val (.int .i64 iat)]),
      .c (.agg [.own 2, .val (.string piss), .val (.bool phasIss), .val (.string paud), .val (.bool phasAud), .val (.string typ), .val (.bool hasTyp), .val (.int .i64 leeway), .own 3])])
    (hp := [.view .node value, .view .str aud, .view .str algs, .view .str need]) (hp' := [.view .node value, .view .str aud, .view .str algs, .view .str need]) (v := .c (.o (.val (.bool true)))) ?_ ?_ rfl W
    (views_sat (vs := [valueV, audV, algsV, needV]) ⟨h0.1, h3.1, h8.1, h13.1, trivial⟩ trivial) _ rfl
  · show ((signetlaw19_ClaimsChecks_s ⟨value, iss, hasIss, sub, hasSub, aud, hasAud, jti, hasJti, ⟨expH, exp⟩, ⟨nbfH, nbf⟩, ⟨iatH, iat⟩⟩ ⟨algs, piss, phasIss, paud, phasAud, typ, hasTyp, leeway, need⟩).bind fun r => some ((.c (.o (.val (.bool r))), [.view .node value, .view .str aud, .view .str algs, .view .str need]) : SV × List SB)) = _
    rw [claimsChecks_plain _ _ h0.2.2 (fun n hn => ⟨(h0.2.1 n hn).key, (h0.2.1 n hn).text, (h0.2.1 n hn).kids⟩) h3.2.2 h3.2.1 h13.2.2 h13.2.1]
    rfl
  · intro x hx
    simp only [List.mem_cons, List.not_mem_nil, or_false] at hx
    rcases hx with rfl | rfl
    · intro y hy
      simp only [List.mem_cons, List.not_mem_nil, or_false] at hy
      rcases hy with rfl | rfl | rfl | rfl | rfl | rfl | rfl | rfl | rfl | rfl | rfl | rfl | rfl | rfl | rfl <;> first | trivial | (show _ < 4; omega)
    · intro y hy
      simp only [List.mem_cons, List.not_mem_nil, or_false] at hy
      rcases hy with rfl | rfl | rfl | rfl | rfl | rfl | rfl | rfl | rfl <;> first | trivial | (show _ < 4; omega)
end Go.Proofs.Ytdcoiccdbgcpaaa
