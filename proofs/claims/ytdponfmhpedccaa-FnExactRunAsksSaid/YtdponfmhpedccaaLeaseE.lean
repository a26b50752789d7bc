/- The leases, fifth text: what the program's AnswerAsk returns. No conditions. -/
import Derived.Test.YtdponfmhpedccaaLeaseD
namespace Go.Proofs.Ytdponfmhpedccaa
open Go.RowKit

set_option maxHeartbeats 2000000 in
theorem AnswerAsk_impl (h u m r k s l : Int) (w : World) : Calls Try.prog 31 #[.agg #[.int .i64 h, .int .i64 u], .agg #[.int .i64 m, .int .i64 r, .int .i64 k], .int .i64 s, .int .i64 l] w (RV w (.tuple #[.agg #[.int .i64 (answerF h u m r k s l).1.1, .int .i64 (answerF h u m r k s l).1.2], .bool (answerF h u m r k s l).2.1, .bool (answerF h u m r k s l).2.2])) := by
  go_enter Try.func31, Try.ntmps31
  go_wp2_with (first
    | (go_at_call 47; refine (isLease_any _ _ _).mono ?_; rintro e w1 ⟨rfl, hb⟩; obtain ⟨hc, hf, hz⟩ := bcell hb; (try simp at hz); (try (have k0 : w.heap.size < w1.heap.size := (by omega))); (try (have k1 : w.heap.size + 1 < w1.heap.size := (by omega))); (try (have k2 : w.heap.size + 1 + 1 < w1.heap.size := (by omega))); (try (have k3 : w.heap.size + 1 + 1 + 1 < w1.heap.size := (by omega))); have hB : Below w.heap.size w w1 := (by refine Below.on ?_ ?_ hb <;> go_grown); clear hb)
    | (go_at_call 63; refine (isAsk_any _ _ _ _).mono ?_; rintro e w1 ⟨rfl, hb⟩; obtain ⟨hc, hf, hz⟩ := bcell hb; (try simp at hz); (try (have k0 : w.heap.size < w1.heap.size := (by omega))); (try (have k1 : w.heap.size + 1 < w1.heap.size := (by omega))); (try (have k2 : w.heap.size + 1 + 1 < w1.heap.size := (by omega))); (try (have k3 : w.heap.size + 1 + 1 + 1 < w1.heap.size := (by omega))); have hB : Below w.heap.size w w1 := (by refine Below.on ?_ ?_ hb <;> go_grown); clear hb)
    | (go_at_call 55; refine (inside_any _ _ _ _).mono ?_; rintro e w1 ⟨rfl, hb⟩; obtain ⟨hc, hf, hz⟩ := bcell hb; (try simp at hz); (try (have k0 : w.heap.size < w1.heap.size := (by omega))); (try (have k1 : w.heap.size + 1 < w1.heap.size := (by omega))); (try (have k2 : w.heap.size + 1 + 1 < w1.heap.size := (by omega))); (try (have k3 : w.heap.size + 1 + 1 + 1 < w1.heap.size := (by omega))); have hB : Below w.heap.size w w1 := (by refine Below.on ?_ ?_ hb <;> go_grown); clear hb)
    | (go_at_call 64; refine (answer_any _ _ _ _ _ _ _ _).mono ?_; rintro e w1 ⟨rfl, hb⟩; obtain ⟨hc, hf, hz⟩ := bcell hb; (try simp at hz); (try (have k0 : w.heap.size < w1.heap.size := (by omega))); (try (have k1 : w.heap.size + 1 < w1.heap.size := (by omega))); (try (have k2 : w.heap.size + 1 + 1 < w1.heap.size := (by omega))); (try (have k3 : w.heap.size + 1 + 1 + 1 < w1.heap.size := (by omega))); have hB : Below w.heap.size w w1 := (by refine Below.on ?_ ?_ hb <;> go_grown); clear hb))
  all_goals (refine bodyPost_ret (by simp [results, Try.results31, go_sem, *]; try rfl) rfl ?_)
  all_goals (go_tidy; refine RV.mk ?_ ?_; (· first | (simp [answerF, asksB, lenB]; done) | (simp_all [answerF, asksB, lenB, askB]; done) | (simp_all [answerF, asksB, lenB, askB] <;> omega) | (simp_all [answerF, asksB, lenB, askB] <;> split <;> (try simp_all) <;> omega) | (simp_all [answerF, asksB, lenB, askB] <;> (repeat' split) <;> first | omega | (simp_all; done) | (simp_all; omega))); (· go_grown))
end Go.Proofs.Ytdponfmhpedccaa
