/- A copy goes on by itself: the steps. -/
import Derived.Test.YtnlhfcipapbfmaaDk32
namespace Go.Abs.B1
open Go.Proofs
set_option maxRecDepth 10000
set_option maxHeartbeats 4000000
set_option linter.all false
section
variable {N : Nat} {k h : Hp} {S p p' : Nat → Prop} {b a : Nat} {u1 u2 y1 y2 : Value} {E D D' : DV}
theorem Pair.frame {h2 : Hp} (P : Pair k h b a S p u1 u2 E D) (hs : h.size ≤ h2.size) (hr : h2.ro = h.ro) (hk : Keeps k h2) (hg : ∀ c, c < h.size → S c ∨ p c ∨ c = a → h2.get c = h.get c) : Pair k h2 b a S p u1 u2 E D :=
  ⟨P.disk.mono hs hr fun c hc => hg c (P.disk.own c hc).2 (.inl hc), P.new, hk, hr.trans P.ro, P.ka, by have := P.lt; omega, P.na, (hg a P.lt (.inr (.inr rfl))).trans P.box, R113.mono P.md (fun _ h => h) id (Fr.of fun c hc => hg c (P.apart c hc).1 (.inr (.inl hc))), fun c hc => ⟨by have := (P.apart c hc).1; omega, (P.apart c hc).2⟩⟩
theorem Pair.swap (P : Pair k h b a S p u1 u2 E D) (r : R113.r false p' h (mdC y1 y2 D') D') (hp : ∀ c, p' c → c < h.size ∧ ¬ S c ∧ c ≠ a) : Pair k (h.setB a (some (.cells (mdC y1 y2 D').toArray true))) b a S p' y1 y2 E D' := by
  have hna := P.na
  have hka := P.ka
  refine ⟨P.disk.mono (by simp) rfl fun c hc => get_set_ne (by intro e; first | (rw [← e] at hna; exact hna hc) | (rw [e] at hna; exact hna hc)), P.new, ⟨by simp only [Hp.size_setB]; exact P.keeps.size, fun c hc => by rw [get_set_ne (by omega)]; exact P.keeps.get c hc⟩, P.ro, P.ka, by simp only [Hp.size_setB]; exact P.lt, P.na, get_set_self, R113.mono r (fun _ h => h) id (Fr.of fun c hc => get_set_ne (hp c hc).2.2), fun c hc => by simp only [Hp.size_setB]; exact hp c hc⟩
theorem does_pair (P : Pair k h b a S p u1 u2 E D) (hN : 120 < N) {cs : List Value} {z : T94} (r : R94.r false (· < k.size) k cs z) :
    Ex (fun v h2 => v = .tuple #[.agg (deedS E z).2.1.toArray, .int .i64 (deedS E z).2.2] ∧ flatOk K98 (deedS E z).2.1 ∧ Pair k h2 b a (grow S h h2) p u1 u2 (deedS E z).1 D ∧ Chg S h h2) (evalV Try.prog I0 N (.fn 38) #[.pointer (some ⟨b, 0, none⟩), .agg cs.toArray] h) := by
  have hs := P.keeps.size
  refine (run_does (N := N) (p := (· < k.size)) jDk jLw hN P.disk (R94.mono r (fun _ h => h) id (P.keeps.fr fun c hc => hc)) (fun c hc => ⟨by omega, fun hS => by have := P.new c hS; omega⟩)).mono ?_
  rintro v h2 ⟨rfl, st, hf⟩
  exact ⟨rfl, hf, P.step (Keeps.refl _) rfl st, st.2⟩
theorem models_pair (P : Pair k h b a S p u1 u2 E D) (wf : WF D) (hro : k.ro ≤ k.size) (hN : 120 < N) {cs : List Value} {z : T94} (r : R94.r false (· < k.size) k cs z) :
    Ex (fun v h2 => ∃ (y1 y2 : Value) (p' : Nat → Prop), v = .tuple #[.agg (mdC y1 y2 (deedS D z).1).toArray, .agg (deedS D z).2.1.toArray, .int .i64 (deedS D z).2.2] ∧ R113.r false p' h2 (mdC y1 y2 (deedS D z).1) (deedS D z).1 ∧ Keeps h h2 ∧ h2.ro = h.ro ∧ (∀ c, p' c → (p c ∨ c < k.size) ∨ h.size ≤ c ∧ c < h2.size)) (evalV Try.prog I0 N (.fn 42) #[.agg (mdC u1 u2 D).toArray, .agg cs.toArray] h) := by
  have hs := P.keeps.size
  have hr := P.ro
  refine (Al.ex (run_models (N := N) (p := fun c => p c ∨ c < k.size) jRf jLw hN (by omega) (R113.mono P.md (fun c hc => .inl hc) id (Fr.refl _)) wf (R94.mono r (fun c hc => .inr hc) id (P.keeps.fr fun c hc => hc)) (fun c hc => by
    rcases hc with hc | hc
    · exact (P.apart c hc).1
    · omega))).mono ?_
  rintro v h2 ⟨hk, hr2, cs', rfl, hR, -⟩
  obtain ⟨y1, y2, rfl, -, -, -⟩ := R113_inv hR
  exact ⟨y1, y2, _, rfl, hR, hk, hr2, fun c hc => hc⟩
theorem is_pair (P : Pair k h b a S p u1 u2 D D) (hN : 120 < N) : Al h (fun _ v => v = .bool true) (evalV Try.prog I0 N (.fn 43) #[.pointer (some ⟨b, 0, none⟩), .agg (mdC u1 u2 D).toArray] h) :=
  run_is (N := N) jDk jLw hN P.disk P.md (fun c hc => (P.apart c hc).1)
theorem crash_nil {D : DV} : (crashS D []).1 = D.1 := by
  unfold crashS
  exact (downL_none D.2.1 D.1 0 (fun j _ => rfl)).1
end
end Go.Abs.B1
