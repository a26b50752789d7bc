/- Histories of two logs, and two histories merged. Conditions: lists and texts of at most 2^20. -/
import Derived.Test.YtmdmcjhodhphgaaGreatSort
import Derived.Test.YtmdmcjhodhphgaaGreatConc
import Derived.Test.YtmdmcjhodhphgaaGreatPlace
namespace Go.Proofs.YtmdmcjhodhphgaaGreat
open Go.RowKit

set_option maxRecDepth 100000 in
set_option maxHeartbeats 1000000 in
theorem historyOf_any (Aa Ab : Option Addr) (ca cb : Nat) (a b : List Ent) (w : World) (hla : a.length ≤ 1048576) (hlb : b.length ≤ 1048576) (hlab : a.length + b.length ≤ 1048576) (hSa : Ents w 0 w.heap.size Aa a) (hSb : Ents w 0 w.heap.size Ab b) (g1 : logB a = true) (g2 : logB b = true) (g3 : ofB a 1 = true) (g4 : ofB b 2 = true) :
    Calls Tryz.prog 38 #[.slice Aa a.length ca, .slice Ab b.length cb] w (RS1 Ent.cells 4 w (mrg a b)) := by
  have HM : Hid (∀ l : List Ent, l.Perm (a ++ b) → srt l → l = mrg a b) := Lib.hid fun l hp hs => sorted_is_mrg g1 g2 g3 g4 hp hs
  have hla' := (hSa.alloc (.cells #[.slice Aa a.length ca, .slice Ab b.length cb] 24)).all
  have hlb' := (hSb.alloc (.cells #[.slice Aa a.length ca, .slice Ab b.length cb] 24)).all
  clear g1 g2 g3 g4 hSa hSb
  go_enter Tryz.func38, Tryz.ntmps38
  go_wp2_with fail
  refine (ConcatE_two _ Aa Ab ca cb a b _ hla hlb hla' hlb' (by rw [World.cell?_alloc_at _ _ _ _ rfl]; rfl) (by rw [World.cell?_alloc_at _ _ _ _ rfl]; rfl)).mono ?_
  rintro e w1 ⟨A1, c1, rfl, hO, hb⟩
  have hB1 : Below w.heap.size w w1 := Below.on' (by go_grown) hb
  have hcap := hO.cap
  have hS1 := (hO.sl Ent.len).mono (lo' := w.heap.size) (by simp) (Nat.le_refl _) (Nat.le_refl _)
  have hlen : (a ++ b).length ≤ 1048576 := by rw [List.length_append]; exact hlab
  clear hb hO hla' hlb'
  generalize a ++ b = L at hcap hS1 hlen HM ⊢
  go_wp2_with fail
  refine (SortE_any A1 c1 w.heap.size w1.heap.size L w1 hlen hS1).mono ?_
  rintro e w2 ⟨rfl, l', hp, hs, hT, hF⟩
  have hB2 : Below w.heap.size w w2 := hB1.trans (hF.below (Nat.le_refl _) hB1.size)
  have hz := hF.size
  have hle : l'.length = L.length := hp.length_eq
  obtain rfl : l' = mrg a b := HM.out l' hp hs
  have HL := Lib.hid hle
  clear hle hp hs hF hS1
  go_wp2
  go_ret
  refine ⟨A1, c1, by rw [HL.out]; rfl, hT.mono (Nat.le_refl _) hz (Nat.le_refl _), by rw [HL.out]; exact hcap, hB2⟩
def hofOk (a b : List Ent) : Bool := twoB a b && ofB a 1 && ofB b 2
def hofR (a b : List Ent) : List Ent := if hofOk a b = true then mrg a b else []
theorem two_len {a b : List Ent} (h : twoB a b = true) : a.length ≤ 20 ∧ b.length ≤ 20 := by
  unfold twoB at h
  rw [Bool.and_eq_true] at h
  exact ⟨logB_len h.1, logB_len h.2⟩
theorem hofR_len (a b : List Ent) : (hofR a b).length ≤ 1048576 := by
  unfold hofR
  split
  · rename_i h
    unfold hofOk at h
    simp only [Bool.and_eq_true] at h
    obtain ⟨h1, h2⟩ := two_len h.1.1
    rw [mrg_len _ _ _ (Nat.le_refl _)]
    omega
  · exact Nat.zero_le _
set_option maxHeartbeats 1000000 in
theorem HistoryOf_spec (Aa : Option Addr) (ca : Nat) (a : List Ent) (Ab : Option Addr) (cb : Nat) (b : List Ent) (w : World) (hla : a.length ≤ 1048576) (hma : ∀ x ∈ a, x.t.size ≤ 1048576) (hSa : Ents w 0 w.heap.size Aa a) (_hca : a.length ≤ ca) (hlb : b.length ≤ 1048576) (hmb : ∀ x ∈ b, x.t.size ≤ 1048576) (hSb : Ents w 0 w.heap.size Ab b) (_hcb : b.length ≤ cb) :
    Calls Tryz.prog 18 #[.slice Aa a.length ca, .slice Ab b.length cb] w (RS2 Ent.cells 4 w (hofR a b) (hofOk a b)) := by
  go_enter Tryz.func18, Tryz.ntmps18
  go_wp2_with fail
  refine (mgTwo_any Aa Ab ca cb a b _ (big hla) (bigs hma) hSa (big hlb) (bigs hmb) hSb).mono ?_
  rintro e w1 ⟨rfl, hb⟩
  have hb1 : Below w.heap.size w w1 := Below.on' (by go_grown) hb
  clear hb
  have hB1 : Below w.heap.size w w1 := hb1
  replace hSa := (hSa.below hb1).all
  replace hSb := (hSb.below hb1).all
  by_cases g1 : twoB a b = true
  rotate_left
  · have g1 : twoB a b = false := by simpa using g1
    have HN : Hid (hofR a b = [] ∧ hofOk a b = false) := Lib.hid (by simp [hofR, hofOk, g1])
    go_wp2
    go_ret2
    exact RS2.nil_ HN.out.1 HN.out.2 hB1
  go_wp2_with fail
  refine (mgOf_any Aa ca a 1 _ hla hSa).mono ?_
  rintro e w2 ⟨rfl, hb⟩
  have hb2 : Below w1.heap.size w1 w2 := Below.on' (by go_grown) hb
  clear hb
  have hB2 : Below w.heap.size w w2 := Below.on' hB1 hb2
  replace hSa := (hSa.below hb2).all
  replace hSb := (hSb.below hb2).all
  by_cases g2 : ofB a 1 = true
  rotate_left
  · have g2 : ofB a 1 = false := by simpa using g2
    have HN : Hid (hofR a b = [] ∧ hofOk a b = false) := Lib.hid (by simp [hofR, hofOk, g2])
    go_wp2
    go_ret2
    exact RS2.nil_ HN.out.1 HN.out.2 hB2
  go_wp2_with fail
  refine (mgOf_any Ab cb b 2 _ hlb hSb).mono ?_
  rintro e w3 ⟨rfl, hb⟩
  have hb3 : Below w2.heap.size w2 w3 := Below.on' (by go_grown) hb
  clear hb
  have hB3 : Below w.heap.size w w3 := Below.on' hB2 hb3
  replace hSa := (hSa.below hb3).all
  replace hSb := (hSb.below hb3).all
  by_cases g3 : ofB b 2 = true
  rotate_left
  · have g3 : ofB b 2 = false := by simpa using g3
    have HN : Hid (hofR a b = [] ∧ hofOk a b = false) := Lib.hid (by simp [hofR, hofOk, g3])
    go_wp2
    go_ret2
    exact RS2.nil_ HN.out.1 HN.out.2 hB3
  have HR : Hid (hofR a b = mrg a b ∧ hofOk a b = true) := Lib.hid (by simp [hofR, hofOk, g1, g2, g3])
  go_wp2_with fail
  refine (mgHistory_any Aa Ab ca cb a b _ hla hlb hSa hSb).mono ?_
  rintro e w4 ⟨A1, c1, rfl, hO, hb⟩
  have hb4 : Below w3.heap.size w3 w4 := Below.on' (by go_grown) hb
  clear hb
  have hB4 : Below w.heap.size w w4 := Below.on' hB3 hb4
  replace hSa := (hSa.below hb4).all
  replace hSb := (hSb.below hb4).all
  go_wp2
  go_ret2
  exact RS2.own HR.out.1 rfl HR.out.2 Ent.len (hO.lift (by have := hB3.size; omega)) hB4
theorem first_of {w : World} {A : Option Addr} {l : List Ent} {r : Int} (hS : Ents w 0 w.heap.size A l) : (l.length = 0 ∧ ofB l r = true) ∨ ∃ x : Ent, 0 < l.length ∧ ofB l r = decide (x.r = r) ∧ ∃ p o, A = some ⟨p, o, none⟩ ∧ w.cell? ⟨p, o, none⟩ = some (.int .i64 x.r) := by
  cases l with
  | nil => exact .inl ⟨rfl, rfl⟩
  | cons x l =>
    obtain ⟨b, off, e, _, _, _, hf⟩ := hS.at_ (i := 0) (x := x) rfl
    refine .inr ⟨x, by simp, rfl, b, off, e, ?_⟩
    have := (hf 0 _ rfl).1
    rw [Nat.zero_mul] at this
    exact this
set_option maxRecDepth 100000 in
set_option maxHeartbeats 4000000 in
theorem HistoryOf_impl (Aa : Option Addr) (ca : Nat) (a : List Ent) (Ab : Option Addr) (cb : Nat) (b : List Ent) (w : World) (hla : a.length ≤ 1048576) (hma : ∀ x ∈ a, x.t.size ≤ 1048576) (hSa : Ents w 0 w.heap.size Aa a) (_hca : a.length ≤ ca) (hlb : b.length ≤ 1048576) (hmb : ∀ x ∈ b, x.t.size ≤ 1048576) (hSb : Ents w 0 w.heap.size Ab b) (_hcb : b.length ≤ cb) :
    Calls Tryz.prog 17 #[.slice Aa a.length ca, .slice Ab b.length cb] w (RS2 Ent.cells 4 w (hofR a b) (hofOk a b)) := by
  go_enter Tryz.func17, Tryz.ntmps17
  go_wp2_with fail
  refine (isLog_any Aa ca a _ (big hla) (bigs hma) hSa).mono ?_
  rintro e w1 ⟨rfl, hb⟩
  have hb1 : Below w.heap.size w w1 := Below.on' (by go_grown) hb
  clear hb
  have hB1 : Below w.heap.size w w1 := hb1
  replace hSa := (hSa.below hb1).all
  replace hSb := (hSb.below hb1).all
  by_cases g1 : logB a = true
  rotate_left
  · have g1 : logB a = false := by simpa using g1
    have HN : Hid (hofR a b = [] ∧ hofOk a b = false) := Lib.hid (by simp [hofR, hofOk, twoB, g1])
    go_wp2
    go_ret2
    exact RS2.nil_ HN.out.1 HN.out.2 hB1
  go_wp2_with fail
  refine (isLog_any Ab cb b _ (big hlb) (bigs hmb) hSb).mono ?_
  rintro e w2 ⟨rfl, hb⟩
  have hb2 : Below w1.heap.size w1 w2 := Below.on' (by go_grown) hb
  clear hb
  have hB2 : Below w.heap.size w w2 := Below.on' hB1 hb2
  replace hSa := (hSa.below hb2).all
  replace hSb := (hSb.below hb2).all
  by_cases g2 : logB b = true
  rotate_left
  · have g2 : logB b = false := by simpa using g2
    have HN : Hid (hofR a b = [] ∧ hofOk a b = false) := Lib.hid (by simp [hofR, hofOk, twoB, g2])
    go_wp2
    go_ret2
    exact RS2.nil_ HN.out.1 HN.out.2 hB2
  have HT : Hid (twoB a b = true ∧ logB a = true ∧ logB b = true) := Lib.hid ⟨by simp [twoB, g1, g2], g1, g2⟩
  have hlab : a.length + b.length ≤ 1048576 := by
    have h1 := logB_len g1
    have h2 := logB_len g2
    omega
  rcases first_of (r := 1) hSa with ⟨hza, hYa⟩ | ⟨xa, hpa, hfa, pa, oa, hAa, hc0a⟩
  · have HYa := Lib.hid hYa
    have ia : ¬ (0 : Int) < (a.length : Int) := by omega
    clear hYa hza
    rcases first_of (r := 2) hSb with ⟨hzb, hYb⟩ | ⟨xb, hpb, hfb, pb, ob, hAb, hc0b⟩
    · have HYb := Lib.hid hYb
      have ib : ¬ (0 : Int) < (b.length : Int) := by omega
      clear hYb hzb
      have HR : Hid (hofR a b = mrg a b ∧ hofOk a b = true) := Lib.hid (by simp [hofR, hofOk, HT.out.1, HYa.out, HYb.out])
      go_wp2_with fail
      refine (historyOf_any _ _ ca cb a b _ hla hlb hlab hSa hSb HT.out.2.1 HT.out.2.2 HYa.out HYb.out).mono ?_
      rintro e w3 ⟨A1, c1, rfl, hU, hc1, hb⟩
      have hB3 : Below w.heap.size w w3 := Below.on' hB2 (Below.on' (by go_grown) hb)
      have hz := hB2.size
      go_wp2
      go_ret2
      exact RS2.of HR.out.1 rfl HR.out.2 (hU.mono (lo' := w.heap.size) (by omega) (Nat.le_refl _) (Nat.le_refl _)) (Nat.le_refl _) hc1 hB3
    · subst hAb
      have ib : (0 : Int) < (b.length : Int) := by omega
      by_cases hrb : xb.r = 2
      · have HYb : Hid (ofB b 2 = true) := Lib.hid (by rw [hfb]; simp [hrb])
        have eb : (xb.r != 2) = false := by simp [hrb]
        clear hfb hrb
        have HR : Hid (hofR a b = mrg a b ∧ hofOk a b = true) := Lib.hid (by simp [hofR, hofOk, HT.out.1, HYa.out, HYb.out])
        go_wp2_with fail
        refine (historyOf_any _ _ ca cb a b _ hla hlb hlab hSa hSb HT.out.2.1 HT.out.2.2 HYa.out HYb.out).mono ?_
        rintro e w3 ⟨A1, c1, rfl, hU, hc1, hb⟩
        have hB3 : Below w.heap.size w w3 := Below.on' hB2 (Below.on' (by go_grown) hb)
        have hz := hB2.size
        go_wp2
        go_ret2
        exact RS2.of HR.out.1 rfl HR.out.2 (hU.mono (lo' := w.heap.size) (by omega) (Nat.le_refl _) (Nat.le_refl _)) (Nat.le_refl _) hc1 hB3
      · have HNb : Hid (ofB b 2 = false) := Lib.hid (by rw [hfb]; simp [hrb])
        have eb : (xb.r != 2) = true := by simp [hrb]
        clear hfb hrb
        have HN : Hid (hofR a b = [] ∧ hofOk a b = false) := Lib.hid (by simp [hofR, hofOk, HNb.out])
        go_wp2
        go_ret2
        exact RS2.nil_ HN.out.1 HN.out.2 hB2
  · subst hAa
    have ia : (0 : Int) < (a.length : Int) := by omega
    by_cases hra : xa.r = 1
    · have HYa : Hid (ofB a 1 = true) := Lib.hid (by rw [hfa]; simp [hra])
      have ea : (xa.r != 1) = false := by simp [hra]
      clear hfa hra
      rcases first_of (r := 2) hSb with ⟨hzb, hYb⟩ | ⟨xb, hpb, hfb, pb, ob, hAb, hc0b⟩
      · have HYb := Lib.hid hYb
        have ib : ¬ (0 : Int) < (b.length : Int) := by omega
        clear hYb hzb
        have HR : Hid (hofR a b = mrg a b ∧ hofOk a b = true) := Lib.hid (by simp [hofR, hofOk, HT.out.1, HYa.out, HYb.out])
        go_wp2_with fail
        refine (historyOf_any _ _ ca cb a b _ hla hlb hlab hSa hSb HT.out.2.1 HT.out.2.2 HYa.out HYb.out).mono ?_
        rintro e w3 ⟨A1, c1, rfl, hU, hc1, hb⟩
        have hB3 : Below w.heap.size w w3 := Below.on' hB2 (Below.on' (by go_grown) hb)
        have hz := hB2.size
        go_wp2
        go_ret2
        exact RS2.of HR.out.1 rfl HR.out.2 (hU.mono (lo' := w.heap.size) (by omega) (Nat.le_refl _) (Nat.le_refl _)) (Nat.le_refl _) hc1 hB3
      · subst hAb
        have ib : (0 : Int) < (b.length : Int) := by omega
        by_cases hrb : xb.r = 2
        · have HYb : Hid (ofB b 2 = true) := Lib.hid (by rw [hfb]; simp [hrb])
          have eb : (xb.r != 2) = false := by simp [hrb]
          clear hfb hrb
          have HR : Hid (hofR a b = mrg a b ∧ hofOk a b = true) := Lib.hid (by simp [hofR, hofOk, HT.out.1, HYa.out, HYb.out])
          go_wp2_with fail
          refine (historyOf_any _ _ ca cb a b _ hla hlb hlab hSa hSb HT.out.2.1 HT.out.2.2 HYa.out HYb.out).mono ?_
          rintro e w3 ⟨A1, c1, rfl, hU, hc1, hb⟩
          have hB3 : Below w.heap.size w w3 := Below.on' hB2 (Below.on' (by go_grown) hb)
          have hz := hB2.size
          go_wp2
          go_ret2
          exact RS2.of HR.out.1 rfl HR.out.2 (hU.mono (lo' := w.heap.size) (by omega) (Nat.le_refl _) (Nat.le_refl _)) (Nat.le_refl _) hc1 hB3
        · have HNb : Hid (ofB b 2 = false) := Lib.hid (by rw [hfb]; simp [hrb])
          have eb : (xb.r != 2) = true := by simp [hrb]
          clear hfb hrb
          have HN : Hid (hofR a b = [] ∧ hofOk a b = false) := Lib.hid (by simp [hofR, hofOk, HNb.out])
          go_wp2
          go_ret2
          exact RS2.nil_ HN.out.1 HN.out.2 hB2
    · have HNa : Hid (ofB a 1 = false) := Lib.hid (by rw [hfa]; simp [hra])
      have ea : (xa.r != 1) = true := by simp [hra]
      clear hfa hra
      have HN : Hid (hofR a b = [] ∧ hofOk a b = false) := Lib.hid (by simp [hofR, hofOk, HNa.out])
      go_wp2
      go_ret2
      exact RS2.nil_ HN.out.1 HN.out.2 hB2
def mgeOk (a b : List Ent) : Bool := histB a && histB b && mjOk (of1 a) (of1 b) && mjOk (not1 a) (not1 b)
def mgeR (a b : List Ent) : List Ent := if mgeOk a b = true then mrg (mjR (of1 a) (of1 b)) (mjR (not1 a) (not1 b)) else []
theorem mjR_len {a b : List Ent} {n : Nat} (ha : a.length ≤ n) (hb : b.length ≤ n) : (mjR a b).length ≤ n := by
  rcases mjR_or a b with h | h | h <;> rw [h]
  · exact ha
  · exact hb
  · exact Nat.zero_le _
theorem mjR_P {a b : List Ent} {P : List Ent → Prop} (ha : P a) (hb : P b) (h0 : P []) : P (mjR a b) := by
  rcases mjR_or a b with h | h | h <;> rw [h]
  · exact ha
  · exact hb
  · exact h0
theorem hist_parts {h : List Ent} (hh : histB h = true) : logB (of1 h) = true ∧ logB (not1 h) = true ∧ ofB (of1 h) 1 = true ∧ ofB (not1 h) 2 = true ∧ (of1 h).length ≤ 20 ∧ (not1 h).length ≤ 20 := by
  unfold histB twoB at hh
  simp only [Bool.and_eq_true] at hh
  refine ⟨hh.1.1.1, hh.1.1.2, ?_, hh.1.2, logB_len hh.1.1.1, logB_len hh.1.1.2⟩
  cases ho : of1 h with
  | nil => rfl
  | cons x l =>
    have hx : x ∈ of1 h := by rw [ho]; exact List.mem_cons_self ..
    have := (List.mem_filter.1 hx).2
    simpa [ofB] using this
theorem mgeR_len (a b : List Ent) : (mgeR a b).length ≤ 1048576 := by
  unfold mgeR
  split
  · rename_i h
    unfold mgeOk at h
    simp only [Bool.and_eq_true] at h
    obtain ⟨_, _, _, _, h1, h2⟩ := hist_parts h.1.1.1
    obtain ⟨_, _, _, _, h3, h4⟩ := hist_parts h.1.1.2
    have h5 := mjR_len h1 h3
    have h6 := mjR_len h2 h4
    rw [mrg_len _ _ _ (Nat.le_refl _)]
    omega
  · exact Nat.zero_le _
end Go.Proofs.YtmdmcjhodhphgaaGreat
