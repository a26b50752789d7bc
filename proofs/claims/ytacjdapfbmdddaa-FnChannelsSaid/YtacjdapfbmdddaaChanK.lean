/- RunDeliveries, on both sides. Condition: at most 2^20 messages in each list, texts of at most 2^20. -/
import Derived.Test.YtacjdapfbmdddaaChanL
import Derived.Laws.IdiomStrings
namespace Go.Proofs.Ytacjdapfbmdddaa
open Go.RowKit

def rdStep (s r h : List Msg) (c : Nat) : Option (List Msg × List Msg) :=
  if 97 ≤ c ∧ c ≤ 122 then some (match s[c - 97]? with | some m => (addM r m, h) | none => (r, h))
  else if 65 ≤ c ∧ c ≤ 90 then some (match r[c - 65]? with | some m => (r, addM h m) | none => (r, h))
  else none
def rdN (s : List Msg) (p : ByteArray) : Nat → Nat → List Msg → List Msg → Option (List Msg × List Msg)
  | 0, _, r, h => some (r, h)
  | n + 1, k, r, h => if hk : k < p.size then (match rdStep s r h p[k].toNat with | some q => rdN s p n (k + 1) q.1 q.2 | none => none) else some (r, h)
def runOk (s r h : List Msg) (p : ByteArray) : Bool := chanB s r h && decide (p.size ≤ 60)
def runT (s r h : List Msg) (p : ByteArray) : (List Msg × List Msg × List Msg) × Bool := if runOk s r h p = true then (match rdN s p p.size 0 r h with | some q => ((s, q.1, q.2), true) | none => chNo) else chNo
theorem runT_no {s r h : List Msg} {p : ByteArray} (hg : runOk s r h p = false) : chNo = runT s r h p := by rw [runT, hg]; rfl
theorem rdN_step {s : List Msg} {p : ByteArray} {k : Nat} {r h : List Msg} (hk : k < p.size) : rdN s p (p.size - k) k r h = (match rdStep s r h p[k].toNat with | some q => rdN s p (p.size - (k + 1)) (k + 1) q.1 q.2 | none => none) := by
  obtain ⟨n, hn⟩ : ∃ n, p.size - k = n + 1 := ⟨p.size - k - 1, by omega⟩
  rw [hn, rdN, dif_pos hk, show p.size - (k + 1) = n by omega]
theorem rdStep_len {s r h : List Msg} {c : Nat} {q : List Msg × List Msg} (e : rdStep s r h c = some q) : q.1.length ≤ r.length + 1 ∧ q.2.length ≤ h.length + 1 := by
  unfold rdStep at e
  split at e
  · injection e with e
    subst e
    split
    · rename_i m _; exact ⟨addM_len r m, Nat.le_succ _⟩
    · exact ⟨Nat.le_succ _, Nat.le_succ _⟩
  · split at e
    · injection e with e
      subst e
      split
      · rename_i m _; exact ⟨Nat.le_succ _, addM_len h m⟩
      · exact ⟨Nat.le_succ _, Nat.le_succ _⟩
    · cases e
theorem rdN_len {s : List Msg} {p : ByteArray} : ∀ {n k : Nat} {r h : List Msg} {q : List Msg × List Msg}, rdN s p n k r h = some q → q.1.length ≤ r.length + n ∧ q.2.length ≤ h.length + n
  | 0, _, r, h, q, e => by
    rw [rdN] at e
    injection e with e
    subst e
    exact ⟨Nat.le_refl _, Nat.le_refl _⟩
  | n + 1, k, r, h, q, e => by
    rw [rdN] at e
    split at e
    · split at e
      · rename_i q' hq
        have h1 := rdStep_len hq
        have h2 := rdN_len e
        omega
      · cases e
    · injection e with e
      subst e
      exact ⟨Nat.le_add_right _ _, Nat.le_add_right _ _⟩
theorem runT_len {s r h : List Msg} {p : ByteArray} (_hs : s.length ≤ 1048576) (_hr : r.length ≤ 1048576) (_hh : h.length ≤ 1048576) : (runT s r h p).1.1.length ≤ 1048576 ∧ (runT s r h p).1.2.1.length ≤ 1048576 ∧ (runT s r h p).1.2.2.length ≤ 1048576 := by
  unfold runT
  split
  · rename_i g
    simp only [runOk, Bool.and_eq_true, decide_eq_true_eq] at g
    obtain ⟨h1, h2, h3⟩ := chan_len g.1
    split
    · rename_i q hq
      have := rdN_len hq
      dsimp only
      omega
    · simp [chNo]
  · simp [chNo]
theorem rd_a {s r h : List Msg} {c j : Nat} {m : Msg} (h1 : 97 ≤ c ∧ c ≤ 122) (hj : c = 97 + j) (hm : s[j]? = some m) : rdStep s r h c = some (addM r m, h) := by rw [rdStep, if_pos h1, show c - 97 = j by omega, hm]
theorem rd_a0 {s r h : List Msg} {c j : Nat} (h1 : 97 ≤ c ∧ c ≤ 122) (hj : c = 97 + j) (hm : s.length ≤ j) : rdStep s r h c = some (r, h) := by rw [rdStep, if_pos h1, show c - 97 = j by omega, List.getElem?_eq_none hm]
theorem rd_A {s r h : List Msg} {c j : Nat} {m : Msg} (h1 : 65 ≤ c ∧ c ≤ 90) (hj : c = 65 + j) (hm : r[j]? = some m) : rdStep s r h c = some (r, addM h m) := by rw [rdStep, if_neg (by omega), if_pos h1, show c - 65 = j by omega, hm]
theorem rd_A0 {s r h : List Msg} {c j : Nat} (h1 : 65 ≤ c ∧ c ≤ 90) (hj : c = 65 + j) (hm : r.length ≤ j) : rdStep s r h c = some (r, h) := by rw [rdStep, if_neg (by omega), if_pos h1, show c - 65 = j by omega, List.getElem?_eq_none hm]
theorem rd_no {s r h : List Msg} {c : Nat} (h1 : ¬ (97 ≤ c ∧ c ≤ 122)) (h2 : ¬ (65 ≤ c ∧ c ≤ 90)) : rdStep s r h c = none := by rw [rdStep, if_neg h1, if_neg h2]
theorem conv_bytes (W : World) (p : ByteArray) : ∃ cap W', (convert 9 22 (.string p)).run Try.prog W = .ok (.slice (some ⟨W.heap.size, 0, none⟩) p.size cap) W' ∧ (∀ k (h : k < p.size), W'.cell? ⟨W.heap.size, k, none⟩ = some (.int .u8 (p[k].toNat : Int))) ∧ Below W.heap.size W W' ∧ W.heap.size < W'.heap.size := by
  refine ⟨_, _, run_bytes_of_string W 9 22 5 p Try.underlying9 Try.underlying22 Try.underlying5, fun k h => ?_, ?_, ?_⟩
  · have := bytesRow_at p (grownCap W p.size 0 5) k h
    exact (World.cell?_alloc_mark W.drew _ _ _ k).trans this
  · exact ((Below.refl _ _).drew).alloc (Nat.le_refl _) _
  · show W.drew.heap.size < _; simp
set_option maxRecDepth 100000 in
set_option maxHeartbeats 16000000 in
theorem RunDeliveries_spec (As : Option Addr) (cs : Nat) (s : List Msg) (Ar : Option Addr) (cr : Nat) (r : List Msg) (Ah : Option Addr) (ch : Nat) (h : List Msg) (p : ByteArray) (w : World) (hls : s.length ≤ 1048576) (hms : ∀ y ∈ s, y.f.size ≤ 1048576 ∧ y.b.size ≤ 1048576) (hSs : Msgs w 0 w.heap.size As s) (hcs : s.length ≤ cs) (hlr : r.length ≤ 1048576) (hmr : ∀ y ∈ r, y.f.size ≤ 1048576 ∧ y.b.size ≤ 1048576) (hSr : Msgs w 0 w.heap.size Ar r) (hcr : r.length ≤ cr) (hlh : h.length ≤ 1048576) (hmh : ∀ y ∈ h, y.f.size ≤ 1048576 ∧ y.b.size ≤ 1048576) (hSh : Msgs w 0 w.heap.size Ah h) (hch : h.length ≤ ch) (hsp : p.size ≤ 1048576) :
    Calls Try.prog 19 #[.agg #[.slice As s.length cs, .slice Ar r.length cr, .slice Ah h.length ch], .string p] w (RCT w (runT s r h p)) := by
  generalize hT : runT s r h p = t
  replace hT := Lib.hid hT
  have e1 : (w.alloc (.cells #[.slice As s.length cs, .slice Ar r.length cr, .slice Ah h.length ch] 26)).heap.size = w.heap.size + 1 := by simp
  have hX := (B3.new w (.slice As s.length cs) (.slice Ar r.length cr) (.slice Ah h.length ch) 26 _ rfl).alloc (.cells #[.slice none 0 0, .slice none 0 0, .slice none 0 0] 26)
  have hR := B3.new (w.alloc (.cells #[.slice As s.length cs, .slice Ar r.length cr, .slice Ah h.length ch] 26)) (.slice none 0 0) (.slice none 0 0) (.slice none 0 0) 26 (w.heap.size + 1) e1.symm
  obtain ⟨b0, b1, b2, _, _, _⟩ := id hX
  go_enter Try.func19, Try.ntmps19
  go_wp2_with fail
  refine (raGood_any As cs s Ar cr r Ah ch h _ hls hms ((hSs.alloc _).alloc _).all hcs hlr hmr ((hSr.alloc _).alloc _).all hcr hlh hmh ((hSh.alloc _).alloc _).all hch).mono ?_
  rintro e v1 ⟨rfl, hb⟩
  have hB : Below w.heap.size w v1 := Below.on' (by go_grown) hb
  replace hX := hX.below hb
  replace hR := hR.below hb
  clear b0 b1 b2 e1 hb
  obtain ⟨b0, b1, b2, _, _, _⟩ := id hX
  by_cases g : chanB s r h = true
  rotate_left
  · have g : chanB s r h = false := by simpa using g
    obtain rfl : chNo = t := (runT_no (by rw [runOk, g]; rfl)).trans hT.out
    rw [g]
    obtain ⟨k0, k1, k2, f0, f1, f2⟩ := id hR
    have hR' := ((hR.set0 (.slice none 0 0)).set1 (.slice none 0 0)).set2 (.slice none 0 0)
    have hF : Fr (w.heap.size + 1) ((w.heap.size + 1) + 1) v1 (((v1.setCell ⟨(w.heap.size + 1), 0, none⟩ (.slice none 0 0)).setCell ⟨(w.heap.size + 1), 1, none⟩ (.slice none 0 0)).setCell ⟨(w.heap.size + 1), 2, none⟩ (.slice none 0 0)) := (((Fr.refl _ _ _).setCell ⟨by simp, by simp⟩ _).setCell ⟨by simp, by simp⟩ _).setCell ⟨by simp, by simp⟩ _
    have hB' := hB.trans (hF.below (B := w.heap.size) (by omega) (by have := hB.size; omega))
    have hI := IntC.nil_ _ (base := w.heap.size) hB'.size
    obtain ⟨x0, x1, x2, _, _, _⟩ := id hR'
    go_wp2
    refine bodyPost_ret (by simp [results, Try.results19, go_sem, x0, x1, x2]; try rfl) rfl ?_
    exact ⟨none, 0, none, 0, none, 0, rfl, hI, hB'⟩
  rw [g]
  by_cases g2 : p.size ≤ 60
  rotate_left
  · have g2' : (60 : Int) < p.size := by omega
    obtain rfl : chNo = t := (runT_no (by rw [runOk, g]; simpa using g2)).trans hT.out
    obtain ⟨k0, k1, k2, f0, f1, f2⟩ := id hR
    have hR' := ((hR.set0 (.slice none 0 0)).set1 (.slice none 0 0)).set2 (.slice none 0 0)
    have hF : Fr (w.heap.size + 1) ((w.heap.size + 1) + 1) v1 (((v1.setCell ⟨(w.heap.size + 1), 0, none⟩ (.slice none 0 0)).setCell ⟨(w.heap.size + 1), 1, none⟩ (.slice none 0 0)).setCell ⟨(w.heap.size + 1), 2, none⟩ (.slice none 0 0)) := (((Fr.refl _ _ _).setCell ⟨by simp, by simp⟩ _).setCell ⟨by simp, by simp⟩ _).setCell ⟨by simp, by simp⟩ _
    have hB' := hB.trans (hF.below (B := w.heap.size) (by omega) (by have := hB.size; omega))
    have hI := IntC.nil_ _ (base := w.heap.size) hB'.size
    obtain ⟨x0, x1, x2, _, _, _⟩ := id hR'
    go_wp2
    refine bodyPost_ret (by simp [results, Try.results19, go_sem, x0, x1, x2]; try rfl) rfl ?_
    exact ⟨none, 0, none, 0, none, 0, rfl, hI, hB'⟩
  have g2' : ¬ (60 : Int) < p.size := by omega
  have hg : runOk s r h p = true := by rw [runOk, g]; simpa using g2
  have G0 := ChanG.of g
  obtain ⟨n1, n2, n3⟩ := chan_len g
  go_wp2_with fail
  refine (raOwn_any As cs s Ar cr r Ah ch h _ hls (hSs.below hB).all hlr (hSr.below hB).all hlh (hSh.below hB).all).mono ?_
  rintro e v2 ⟨A1, c1, A2, c2, A3, c3, rfl, hO, hb⟩
  have hz := hR.lt
  have hz2 := hb.size
  replace hB := Below.on' hB hb
  replace hR := (hR.below hb).alloc (.cells #[.slice A1 s.length c1, .slice A2 r.length c2, .slice A3 h.length c3] 26)
  clear b0 b1 b2 hb hX g
  have hY := B3.new v2 (.slice A1 s.length c1) (.slice A2 r.length c2) (.slice A3 h.length c3) 26 _ rfl
  have hE1 := dis_lt hO.o1.blk
  have hE2 := dis_lt hO.o2.blk
  have hE3 := dis_lt hO.o3.blk
  replace hB := hB.alloc hB.size (.cells #[.slice A1 s.length c1, .slice A2 r.length c2, .slice A3 h.length c3] 26)
  replace hO := hO.alloc (.cells #[.slice A1 s.length c1, .slice A2 r.length c2, .slice A3 h.length c3] 26)
  have HX : Hid (rdN s p (p.size - 0) 0 r h = rdN s p p.size 0 r h) := Lib.hid rfl
  go_wp2_with fail
  go_loopw [7] (fun i wr => ∃ (k : Nat) (r' h' : List Msg) (A1 : Option Addr) (c1 : Nat) (A2 : Option Addr) (c2 : Nat) (A3 : Option Addr) (c3 : Nat), k ≤ p.size ∧ i = .int .i64 k ∧ Hid (rdN s p (p.size - k) k r' h' = rdN s p p.size 0 r h) ∧ ChanG s r' h' ∧ r'.length ≤ 30 + k ∧ h'.length ≤ 30 + k ∧ B3 v2.heap.size (.slice A1 s.length c1) (.slice A2 r'.length c2) (.slice A3 h'.length c3) wr ∧ OwnC wr v1.heap.size A1 c1 s A2 c2 r' A3 c3 h' ∧ Dis A1 (some ⟨v2.heap.size, 0, none⟩) ∧ Dis A2 (some ⟨v2.heap.size, 0, none⟩) ∧ Dis A3 (some ⟨v2.heap.size, 0, none⟩) ∧ B3 (w.heap.size + 1) (.slice none 0 0) (.slice none 0 0) (.slice none 0 0) wr ∧ Below w.heap.size w wr) (fun i _ => p.size - (intOf i).toNat)
  case atStart => exact ⟨0, r, h, A1, c1, A2, c2, A3, c3, Nat.zero_le _, rfl, HX, G0, by omega, by omega, hY, hO, hE1, hE2, hE3, hR, hB⟩
  case round =>
    clear hY hO hE1 hE2 hE3 hR hB HX G0
    obtain ⟨k, r', h', A1, c1, A2, c2, A3, c3, hk, rfl, HX, G, hlr', hlh', hY, hO, hE1, hE2, hE3, hR, hB⟩ := hrel
    obtain ⟨b0, b1, b2, _, _, _⟩ := id hY
    have hbase : v1.heap.size ≤ wr.heap.size := by have := hY.lt; omega
    by_cases hlt : k < p.size
    · skip
      rcases (by omega : (97 ≤ p[k].toNat ∧ p[k].toNat ≤ 122) ∨ (65 ≤ p[k].toNat ∧ p[k].toNat ≤ 90) ∨ p[k].toNat < 65 ∨ (90 < p[k].toNat ∧ p[k].toNat < 97) ∨ 122 < p[k].toNat) with hc | hc | hc | hc | hc
      · obtain ⟨j, ej⟩ : ∃ j : Nat, p[k].toNat = 97 + j := ⟨p[k].toNat - 97, by omega⟩
        have l0 : 97 ≤ (p[k].toNat : Int) := by omega
        have l1 : (p[k].toNat : Int) ≤ 122 := by omega
        have ej' : (p[k].toNat : Int) - 97 = (j : Nat) := by omega
        have hw8 : IntKind.u8.wrap (j : Int) = j := IntWalk.u8_in _ (by omega)
        have hw6 : IntKind.i64.wrap (j : Int) = j := IntWalk.i64_in _ (by omega)
        by_cases hj : j < s.length
        · have hj' : (j : Int) < s.length := by omega
          obtain ⟨m, hm, _⟩ := get_lt hj
          have hq := rd_a (s := s) (r := r') (h := h') (c := p[k].toNat) (by omega) ej hm
          have HX' : Hid (rdN s p (p.size - (k + 1)) (k + 1) ((addM r' m)) (h') = rdN s p p.size 0 r h) := Lib.hid (by rw [← HX.out, rdN_step hlt, hq])
          have G' := G.deliver (List.mem_of_getElem? hm)
          have hal := addM_len r' m
          clear hq HX hT ej hc
          go_wp2_with fail
          refine (raDeliver_any A1 c1 s A2 c2 r' A3 c3 h' _ hls (hO.o1.sl Msg.len).all (by omega) (hO.o2.sl Msg.len).all (by omega) (hO.o3.sl Msg.len).all j m hm).mono ?_
          rw [addW_eq G.key G.rs (List.mem_of_getElem? hm)]
          rintro e v3 ⟨B1, d1, B2, d2, B3, d3, rfl, hO3, hb⟩
          have hgw := hY.lt
          have hz3 := hb.size
          replace hB := Below.on' hB hb
          replace hR := hR.below hb
          replace hY := hY.below hb
          have hF : Fr v2.heap.size (v2.heap.size + 1) v3 (((v3.setCell ⟨v2.heap.size, 0, none⟩ (.slice B1 s.length d1)).setCell ⟨v2.heap.size, 1, none⟩ (.slice B2 (addM r' m).length d2)).setCell ⟨v2.heap.size, 2, none⟩ (.slice B3 h'.length d3)) := (((Fr.refl _ _ _).setCell ⟨by simp, by simp⟩ _).setCell ⟨by simp, by simp⟩ _).setCell ⟨by simp, by simp⟩ _
          have hO4 := (hO3.far hF (by omega)).lift (b0 := v1.heap.size) (by omega)
          have hf1 : Dis B1 (some ⟨v2.heap.size, 0, none⟩) := fun a a2 e1 e2 q => by injection e2 with e2; subst e2; have := hO3.o1.blk a e1; simp only at q; omega
          have hf2 : Dis B2 (some ⟨v2.heap.size, 0, none⟩) := fun a a2 e1 e2 q => by injection e2 with e2; subst e2; have := hO3.o2.blk a e1; simp only at q; omega
          have hf3 : Dis B3 (some ⟨v2.heap.size, 0, none⟩) := fun a a2 e1 e2 q => by injection e2 with e2; subst e2; have := hO3.o3.blk a e1; simp only at q; omega
          obtain ⟨y0, y1, y2, y3, y4, y5⟩ := id hY
          have hY4 := ((hY.set0 (.slice B1 s.length d1)).set1 (.slice B2 (addM r' m).length d2)).set2 (.slice B3 h'.length d3)
          have hne : (⟨v2.heap.size, 0, none⟩ : Addr).block ≠ w.heap.size + 1 := by simp; omega
          have hR4 := ((hR.off (p := ⟨v2.heap.size, 0, none⟩) hne (.slice B1 s.length d1)).off (p := ⟨v2.heap.size, 1, none⟩) hne (.slice B2 (addM r' m).length d2)).off (p := ⟨v2.heap.size, 2, none⟩) hne (.slice B3 h'.length d3)
          have hB4 := hB.trans (hF.below (B := w.heap.size) (by omega) (by have := hB.size; omega))
          clear hO3 hO hY hR hB b0 b1 b2 hF
          go_wp2
          go_roundw
          case rel => exact ⟨k + 1, (addM r' m), h', B1, d1, B2, d2, B3, d3, by omega, by go_num, HX', G', by omega, by omega, hY4, hO4, hf1, hf2, hf3, hR4, hB4⟩
          case measure => simp [intOf]; omega
        · have hj' : ¬ (j : Int) < s.length := by omega
          have hq := rd_a0 (s := s) (r := r') (h := h') (c := p[k].toNat) (by omega) ej (by omega)
          have HX' : Hid (rdN s p (p.size - (k + 1)) (k + 1) r' h' = rdN s p p.size 0 r h) := Lib.hid (by rw [← HX.out, rdN_step hlt, hq])
          clear hq HX hT ej hc
          go_wp2
          go_roundw
          case rel => exact ⟨k + 1, r', h', A1, c1, A2, c2, A3, c3, by omega, by go_num, HX', G, by omega, by omega, hY, hO, hE1, hE2, hE3, hR, hB⟩
          case measure => simp [intOf]; omega
      · obtain ⟨j, ej⟩ : ∃ j : Nat, p[k].toNat = 65 + j := ⟨p[k].toNat - 65, by omega⟩
        have l0 : ¬ 97 ≤ (p[k].toNat : Int) := by omega
        have l2 : 65 ≤ (p[k].toNat : Int) := by omega
        have l3 : (p[k].toNat : Int) ≤ 90 := by omega
        have ej' : (p[k].toNat : Int) - 65 = (j : Nat) := by omega
        have hw8 : IntKind.u8.wrap (j : Int) = j := IntWalk.u8_in _ (by omega)
        have hw6 : IntKind.i64.wrap (j : Int) = j := IntWalk.i64_in _ (by omega)
        by_cases hj : j < r'.length
        · have hj' : (j : Int) < r'.length := by omega
          obtain ⟨m, hm, _⟩ := get_lt hj
          have hq := rd_A (s := s) (r := r') (h := h') (c := p[k].toNat) (by omega) ej hm
          have HX' : Hid (rdN s p (p.size - (k + 1)) (k + 1) (r') ((addM h' m)) = rdN s p p.size 0 r h) := Lib.hid (by rw [← HX.out, rdN_step hlt, hq])
          have G' := G.confirm (List.mem_of_getElem? hm)
          have hal := addM_len h' m
          clear hq HX hT ej hc
          go_wp2_with fail
          refine (raConfirm_any A1 c1 s A2 c2 r' A3 c3 h' _ hls (hO.o1.sl Msg.len).all (by omega) (hO.o2.sl Msg.len).all (by omega) (hO.o3.sl Msg.len).all j m hm).mono ?_
          rw [addW_eq G.key G.hs (G.rs _ (List.mem_of_getElem? hm))]
          rintro e v3 ⟨B1, d1, B2, d2, B3, d3, rfl, hO3, hb⟩
          have hgw := hY.lt
          have hz3 := hb.size
          replace hB := Below.on' hB hb
          replace hR := hR.below hb
          replace hY := hY.below hb
          have hF : Fr v2.heap.size (v2.heap.size + 1) v3 (((v3.setCell ⟨v2.heap.size, 0, none⟩ (.slice B1 s.length d1)).setCell ⟨v2.heap.size, 1, none⟩ (.slice B2 r'.length d2)).setCell ⟨v2.heap.size, 2, none⟩ (.slice B3 (addM h' m).length d3)) := (((Fr.refl _ _ _).setCell ⟨by simp, by simp⟩ _).setCell ⟨by simp, by simp⟩ _).setCell ⟨by simp, by simp⟩ _
          have hO4 := (hO3.far hF (by omega)).lift (b0 := v1.heap.size) (by omega)
          have hf1 : Dis B1 (some ⟨v2.heap.size, 0, none⟩) := fun a a2 e1 e2 q => by injection e2 with e2; subst e2; have := hO3.o1.blk a e1; simp only at q; omega
          have hf2 : Dis B2 (some ⟨v2.heap.size, 0, none⟩) := fun a a2 e1 e2 q => by injection e2 with e2; subst e2; have := hO3.o2.blk a e1; simp only at q; omega
          have hf3 : Dis B3 (some ⟨v2.heap.size, 0, none⟩) := fun a a2 e1 e2 q => by injection e2 with e2; subst e2; have := hO3.o3.blk a e1; simp only at q; omega
          obtain ⟨y0, y1, y2, y3, y4, y5⟩ := id hY
          have hY4 := ((hY.set0 (.slice B1 s.length d1)).set1 (.slice B2 r'.length d2)).set2 (.slice B3 (addM h' m).length d3)
          have hne : (⟨v2.heap.size, 0, none⟩ : Addr).block ≠ w.heap.size + 1 := by simp; omega
          have hR4 := ((hR.off (p := ⟨v2.heap.size, 0, none⟩) hne (.slice B1 s.length d1)).off (p := ⟨v2.heap.size, 1, none⟩) hne (.slice B2 r'.length d2)).off (p := ⟨v2.heap.size, 2, none⟩) hne (.slice B3 (addM h' m).length d3)
          have hB4 := hB.trans (hF.below (B := w.heap.size) (by omega) (by have := hB.size; omega))
          clear hO3 hO hY hR hB b0 b1 b2 hF
          go_wp2
          go_roundw
          case rel => exact ⟨k + 1, r', (addM h' m), B1, d1, B2, d2, B3, d3, by omega, by go_num, HX', G', by omega, by omega, hY4, hO4, hf1, hf2, hf3, hR4, hB4⟩
          case measure => simp [intOf]; omega
        · have hj' : ¬ (j : Int) < r'.length := by omega
          have hq := rd_A0 (s := s) (r := r') (h := h') (c := p[k].toNat) (by omega) ej (by omega)
          have HX' : Hid (rdN s p (p.size - (k + 1)) (k + 1) r' h' = rdN s p p.size 0 r h) := Lib.hid (by rw [← HX.out, rdN_step hlt, hq])
          clear hq HX hT ej hc
          go_wp2
          go_roundw
          case rel => exact ⟨k + 1, r', h', A1, c1, A2, c2, A3, c3, by omega, by go_num, HX', G, by omega, by omega, hY, hO, hE1, hE2, hE3, hR, hB⟩
          case measure => simp [intOf]; omega
      · have hq := rd_no (s := s) (r := r') (h := h') (c := p[k].toNat) (by omega) (by omega)
        obtain rfl : chNo = t := by rw [← hT.out, runT, if_pos hg, ← HX.out, rdN_step hlt, hq]
        have l0 : ¬ 97 ≤ (p[k].toNat : Int) := by omega
        have l2 : ¬ 65 ≤ (p[k].toNat : Int) := by omega
        clear hT HX hq hg
        obtain ⟨k0, k1, k2, f0, f1, f2⟩ := id hR
        have hR' := ((hR.set0 (.slice none 0 0)).set1 (.slice none 0 0)).set2 (.slice none 0 0)
        have hF : Fr (w.heap.size + 1) ((w.heap.size + 1) + 1) wr (((wr.setCell ⟨(w.heap.size + 1), 0, none⟩ (.slice none 0 0)).setCell ⟨(w.heap.size + 1), 1, none⟩ (.slice none 0 0)).setCell ⟨(w.heap.size + 1), 2, none⟩ (.slice none 0 0)) := (((Fr.refl _ _ _).setCell ⟨by simp, by simp⟩ _).setCell ⟨by simp, by simp⟩ _).setCell ⟨by simp, by simp⟩ _
        have hB' := hB.trans (hF.below (B := w.heap.size) (by omega) (by have := hB.size; omega))
        have hI := IntC.nil_ _ (base := w.heap.size) hB'.size
        obtain ⟨x0, x1, x2, _, _, _⟩ := id hR'
        go_wp2
        refine bodyPost_ret (by simp [results, Try.results19, go_sem, x0, x1, x2]; try rfl) rfl ?_
        exact ⟨none, 0, none, 0, none, 0, rfl, hI, hB'⟩
      · have hq := rd_no (s := s) (r := r') (h := h') (c := p[k].toNat) (by omega) (by omega)
        obtain rfl : chNo = t := by rw [← hT.out, runT, if_pos hg, ← HX.out, rdN_step hlt, hq]
        have l0 : ¬ 97 ≤ (p[k].toNat : Int) := by omega
        have l2 : 65 ≤ (p[k].toNat : Int) := by omega
        have l3 : ¬ (p[k].toNat : Int) ≤ 90 := by omega
        clear hT HX hq hg
        obtain ⟨k0, k1, k2, f0, f1, f2⟩ := id hR
        have hR' := ((hR.set0 (.slice none 0 0)).set1 (.slice none 0 0)).set2 (.slice none 0 0)
        have hF : Fr (w.heap.size + 1) ((w.heap.size + 1) + 1) wr (((wr.setCell ⟨(w.heap.size + 1), 0, none⟩ (.slice none 0 0)).setCell ⟨(w.heap.size + 1), 1, none⟩ (.slice none 0 0)).setCell ⟨(w.heap.size + 1), 2, none⟩ (.slice none 0 0)) := (((Fr.refl _ _ _).setCell ⟨by simp, by simp⟩ _).setCell ⟨by simp, by simp⟩ _).setCell ⟨by simp, by simp⟩ _
        have hB' := hB.trans (hF.below (B := w.heap.size) (by omega) (by have := hB.size; omega))
        have hI := IntC.nil_ _ (base := w.heap.size) hB'.size
        obtain ⟨x0, x1, x2, _, _, _⟩ := id hR'
        go_wp2
        refine bodyPost_ret (by simp [results, Try.results19, go_sem, x0, x1, x2]; try rfl) rfl ?_
        exact ⟨none, 0, none, 0, none, 0, rfl, hI, hB'⟩
      · have hq := rd_no (s := s) (r := r') (h := h') (c := p[k].toNat) (by omega) (by omega)
        obtain rfl : chNo = t := by rw [← hT.out, runT, if_pos hg, ← HX.out, rdN_step hlt, hq]
        have l0 : 97 ≤ (p[k].toNat : Int) := by omega
        have l1 : ¬ (p[k].toNat : Int) ≤ 122 := by omega
        have l2 : 65 ≤ (p[k].toNat : Int) := by omega
        have l3 : ¬ (p[k].toNat : Int) ≤ 90 := by omega
        clear hT HX hq hg
        obtain ⟨k0, k1, k2, f0, f1, f2⟩ := id hR
        have hR' := ((hR.set0 (.slice none 0 0)).set1 (.slice none 0 0)).set2 (.slice none 0 0)
        have hF : Fr (w.heap.size + 1) ((w.heap.size + 1) + 1) wr (((wr.setCell ⟨(w.heap.size + 1), 0, none⟩ (.slice none 0 0)).setCell ⟨(w.heap.size + 1), 1, none⟩ (.slice none 0 0)).setCell ⟨(w.heap.size + 1), 2, none⟩ (.slice none 0 0)) := (((Fr.refl _ _ _).setCell ⟨by simp, by simp⟩ _).setCell ⟨by simp, by simp⟩ _).setCell ⟨by simp, by simp⟩ _
        have hB' := hB.trans (hF.below (B := w.heap.size) (by omega) (by have := hB.size; omega))
        have hI := IntC.nil_ _ (base := w.heap.size) hB'.size
        obtain ⟨x0, x1, x2, _, _, _⟩ := id hR'
        go_wp2
        refine bodyPost_ret (by simp [results, Try.results19, go_sem, x0, x1, x2]; try rfl) rfl ?_
        exact ⟨none, 0, none, 0, none, 0, rfl, hI, hB'⟩
    · obtain rfl : k = p.size := by omega
      obtain rfl : ((s, r', h'), true) = t := by rw [← hT.out, runT, if_pos hg, ← HX.out, Nat.sub_self]; rfl
      clear hT HX
      obtain ⟨k0, k1, k2, f0, f1, f2⟩ := id hR
      have hR' := ((hR.set0 (.slice A1 s.length c1)).set1 (.slice A2 r'.length c2)).set2 (.slice A3 h'.length c3)
      have hF : Fr (w.heap.size + 1) ((w.heap.size + 1) + 1) wr (((wr.setCell ⟨(w.heap.size + 1), 0, none⟩ (.slice A1 s.length c1)).setCell ⟨(w.heap.size + 1), 1, none⟩ (.slice A2 r'.length c2)).setCell ⟨(w.heap.size + 1), 2, none⟩ (.slice A3 h'.length c3)) := (((Fr.refl _ _ _).setCell ⟨by simp, by simp⟩ _).setCell ⟨by simp, by simp⟩ _).setCell ⟨by simp, by simp⟩ _
      have hB' := hB.trans (hF.below (B := w.heap.size) (by omega) (by have := hB.size; omega))
      have hO' := (hO.far hF (by omega)).lift (b0 := w.heap.size) (by omega); have hI := hO'.ints hB'.size
      obtain ⟨x0, x1, x2, _, _, _⟩ := id hR'
      go_wp2
      refine bodyPost_ret (by simp [results, Try.results19, go_sem, x0, x1, x2]; try rfl) rfl ?_
      exact ⟨A1, c1, A2, c2, A3, c3, rfl, hI, hB'⟩
set_option maxRecDepth 100000 in
set_option maxHeartbeats 16000000 in
theorem RunDeliveries_impl (As : Option Addr) (cs : Nat) (s : List Msg) (Ar : Option Addr) (cr : Nat) (r : List Msg) (Ah : Option Addr) (ch : Nat) (h : List Msg) (p : ByteArray) (w : World) (hls : s.length ≤ 1048576) (hms : ∀ y ∈ s, y.f.size ≤ 1048576 ∧ y.b.size ≤ 1048576) (hSs : Msgs w 0 w.heap.size As s) (hcs : s.length ≤ cs) (hlr : r.length ≤ 1048576) (hmr : ∀ y ∈ r, y.f.size ≤ 1048576 ∧ y.b.size ≤ 1048576) (hSr : Msgs w 0 w.heap.size Ar r) (hcr : r.length ≤ cr) (hlh : h.length ≤ 1048576) (hmh : ∀ y ∈ h, y.f.size ≤ 1048576 ∧ y.b.size ≤ 1048576) (hSh : Msgs w 0 w.heap.size Ah h) (hch : h.length ≤ ch) (hsp : p.size ≤ 1048576) :
    Calls Try.prog 18 #[.agg #[.slice As s.length cs, .slice Ar r.length cr, .slice Ah h.length ch], .string p] w (RCT w (runT s r h p)) := by
  generalize hT : runT s r h p = t
  replace hT := Lib.hid hT
  have e1 : (w.alloc (.cells #[.slice As s.length cs, .slice Ar r.length cr, .slice Ah h.length ch] 26)).heap.size = w.heap.size + 1 := by simp
  have hX := (B3.new w (.slice As s.length cs) (.slice Ar r.length cr) (.slice Ah h.length ch) 26 _ rfl).alloc (.cells #[.slice none 0 0, .slice none 0 0, .slice none 0 0] 26)
  have hR := B3.new (w.alloc (.cells #[.slice As s.length cs, .slice Ar r.length cr, .slice Ah h.length ch] 26)) (.slice none 0 0) (.slice none 0 0) (.slice none 0 0) 26 (w.heap.size + 1) e1.symm
  obtain ⟨b0, b1, b2, _, _, _⟩ := id hX
  go_enter Try.func18, Try.ntmps18
  go_wp2_with fail
  refine (isChannel_any w.heap.size 0 As cs s Ar cr r Ah ch h _ hX.c3 hls hms ((hSs.alloc _).alloc _).all hcs hlr hmr ((hSr.alloc _).alloc _).all hcr hlh hmh ((hSh.alloc _).alloc _).all hch).mono ?_
  rintro e v1 ⟨rfl, hb⟩
  have hB : Below w.heap.size w v1 := Below.on' (by go_grown) hb
  replace hX := hX.below hb
  replace hR := hR.below hb
  clear b0 b1 b2 e1 hb
  obtain ⟨b0, b1, b2, _, _, _⟩ := id hX
  by_cases g : chanB s r h = true
  rotate_left
  · have g : chanB s r h = false := by simpa using g
    obtain rfl : chNo = t := (runT_no (by rw [runOk, g]; rfl)).trans hT.out
    rw [g]
    obtain ⟨k0, k1, k2, f0, f1, f2⟩ := id hR
    have hR' := ((hR.set0 (.slice none 0 0)).set1 (.slice none 0 0)).set2 (.slice none 0 0)
    have hF : Fr (w.heap.size + 1) ((w.heap.size + 1) + 1) v1 (((v1.setCell ⟨(w.heap.size + 1), 0, none⟩ (.slice none 0 0)).setCell ⟨(w.heap.size + 1), 1, none⟩ (.slice none 0 0)).setCell ⟨(w.heap.size + 1), 2, none⟩ (.slice none 0 0)) := (((Fr.refl _ _ _).setCell ⟨by simp, by simp⟩ _).setCell ⟨by simp, by simp⟩ _).setCell ⟨by simp, by simp⟩ _
    have hB' := hB.trans (hF.below (B := w.heap.size) (by omega) (by have := hB.size; omega))
    have hI := IntC.nil_ _ (base := w.heap.size) hB'.size
    obtain ⟨x0, x1, x2, _, _, _⟩ := id hR'
    go_wp2
    refine bodyPost_ret (by simp [results, Try.results18, go_sem, x0, x1, x2]; try rfl) rfl ?_
    exact ⟨none, 0, none, 0, none, 0, rfl, hI, hB'⟩
  rw [g]
  by_cases g2 : p.size ≤ 60
  rotate_left
  · have g2' : (60 : Int) < p.size := by omega
    obtain rfl : chNo = t := (runT_no (by rw [runOk, g]; simpa using g2)).trans hT.out
    obtain ⟨k0, k1, k2, f0, f1, f2⟩ := id hR
    have hR' := ((hR.set0 (.slice none 0 0)).set1 (.slice none 0 0)).set2 (.slice none 0 0)
    have hF : Fr (w.heap.size + 1) ((w.heap.size + 1) + 1) v1 (((v1.setCell ⟨(w.heap.size + 1), 0, none⟩ (.slice none 0 0)).setCell ⟨(w.heap.size + 1), 1, none⟩ (.slice none 0 0)).setCell ⟨(w.heap.size + 1), 2, none⟩ (.slice none 0 0)) := (((Fr.refl _ _ _).setCell ⟨by simp, by simp⟩ _).setCell ⟨by simp, by simp⟩ _).setCell ⟨by simp, by simp⟩ _
    have hB' := hB.trans (hF.below (B := w.heap.size) (by omega) (by have := hB.size; omega))
    have hI := IntC.nil_ _ (base := w.heap.size) hB'.size
    obtain ⟨x0, x1, x2, _, _, _⟩ := id hR'
    go_wp2
    refine bodyPost_ret (by simp [results, Try.results18, go_sem, x0, x1, x2]; try rfl) rfl ?_
    exact ⟨none, 0, none, 0, none, 0, rfl, hI, hB'⟩
  have g2' : ¬ (60 : Int) < p.size := by omega
  have hg : runOk s r h p = true := by rw [runOk, g]; simpa using g2
  have G0 := ChanG.of g
  obtain ⟨n1, n2, n3⟩ := chan_len g
  go_wp2_with fail
  refine (copyChannel_any w.heap.size 0 As cs s Ar cr r Ah ch h _ hX.c3 hls (hSs.below hB).all hlr (hSr.below hB).all hlh (hSh.below hB).all).mono ?_
  rintro e v2 ⟨A1, c1, A2, c2, A3, c3, rfl, hO, hb⟩
  have hz := hR.lt
  have hz2 := hb.size
  replace hB := Below.on' hB hb
  replace hR := (hR.below hb).alloc (.cells #[.slice A1 s.length c1, .slice A2 r.length c2, .slice A3 h.length c3] 26)
  clear b0 b1 b2 hb hX g
  have hY := B3.new v2 (.slice A1 s.length c1) (.slice A2 r.length c2) (.slice A3 h.length c3) 26 _ rfl
  have hE1 := dis_lt hO.o1.blk
  have hE2 := dis_lt hO.o2.blk
  have hE3 := dis_lt hO.o3.blk
  have hP2 : Dis A2 (some ⟨v2.heap.size + 1, 0, none⟩) := fun a a2 e1 e2 q => by injection e2 with e2; subst e2; have := hO.o2.blk a e1; simp only at q; omega
  have hP3 : Dis A3 (some ⟨v2.heap.size + 1, 0, none⟩) := fun a a2 e1 e2 q => by injection e2 with e2; subst e2; have := hO.o3.blk a e1; simp only at q; omega
  replace hB := hB.alloc hB.size (.cells #[.slice A1 s.length c1, .slice A2 r.length c2, .slice A3 h.length c3] 26)
  replace hO := hO.alloc (.cells #[.slice A1 s.length c1, .slice A2 r.length c2, .slice A3 h.length c3] 26)
  have HX : Hid (rdN s p (p.size - 0) 0 r h = rdN s p p.size 0 r h) := Lib.hid rfl
  obtain ⟨cap, V, hconv, hP, hbV, hPlt⟩ := conv_bytes (v2.alloc (.cells #[.slice A1 s.length c1, .slice A2 r.length c2, .slice A3 h.length c3] 26)) p
  have e2 : (v2.alloc (.cells #[.slice A1 s.length c1, .slice A2 r.length c2, .slice A3 h.length c3] 26)).heap.size = v2.heap.size + 1 := by simp
  rw [e2] at hconv hP hPlt
  replace hB := Below.on' hB hbV
  replace hR := hR.below hbV
  replace hY := hY.below hbV
  replace hO := hO.below hbV
  go_wp2_with fail
  go_loopw [23] (fun i wr => ∃ (k : Nat) (r' h' : List Msg) (A1 : Option Addr) (c1 : Nat) (A2 : Option Addr) (c2 : Nat) (A3 : Option Addr) (c3 : Nat), k ≤ p.size ∧ i = .int .i64 k ∧ Hid (rdN s p (p.size - k) k r' h' = rdN s p p.size 0 r h) ∧ ChanG s r' h' ∧ r'.length ≤ 30 + k ∧ h'.length ≤ 30 + k ∧ B3 v2.heap.size (.slice A1 s.length c1) (.slice A2 r'.length c2) (.slice A3 h'.length c3) wr ∧ OwnC wr v1.heap.size A1 c1 s A2 c2 r' A3 c3 h' ∧ Dis A1 (some ⟨v2.heap.size, 0, none⟩) ∧ Dis A2 (some ⟨v2.heap.size, 0, none⟩) ∧ Dis A3 (some ⟨v2.heap.size, 0, none⟩) ∧ B3 (w.heap.size + 1) (.slice none 0 0) (.slice none 0 0) (.slice none 0 0) wr ∧ Below w.heap.size w wr ∧ Dis A2 (some ⟨v2.heap.size + 1, 0, none⟩) ∧ Dis A3 (some ⟨v2.heap.size + 1, 0, none⟩) ∧ v2.heap.size + 1 < wr.heap.size ∧ (∀ q (h : q < p.size), wr.cell? ⟨v2.heap.size + 1, q, none⟩ = some (.int .u8 (p[q].toNat : Int)))) (fun i _ => p.size - (intOf i).toNat)
  case atStart => exact ⟨0, r, h, A1, c1, A2, c2, A3, c3, Nat.zero_le _, rfl, HX, G0, by omega, by omega, hY, hO, hE1, hE2, hE3, hR, hB, hP2, hP3, hPlt, hP⟩
  case round =>
    clear hY hO hE1 hE2 hE3 hR hB HX G0 hP hconv hbV e2 hP2 hP3 hPlt
    obtain ⟨k, r', h', A1, c1, A2, c2, A3, c3, hk, rfl, HX, G, hlr', hlh', hY, hO, hE1, hE2, hE3, hR, hB, hP2, hP3, hPlt, hP⟩ := hrel
    obtain ⟨b0, b1, b2, _, _, _⟩ := id hY
    have hbase : v1.heap.size ≤ wr.heap.size := by have := hY.lt; omega
    by_cases hlt : k < p.size
    · have c0 := hP k hlt
      rcases (by omega : (97 ≤ p[k].toNat ∧ p[k].toNat ≤ 122) ∨ (65 ≤ p[k].toNat ∧ p[k].toNat ≤ 90) ∨ p[k].toNat < 65 ∨ (90 < p[k].toNat ∧ p[k].toNat < 97) ∨ 122 < p[k].toNat) with hc | hc | hc | hc | hc
      · obtain ⟨j, ej⟩ : ∃ j : Nat, p[k].toNat = 97 + j := ⟨p[k].toNat - 97, by omega⟩
        have l0 : 97 ≤ (p[k].toNat : Int) := by omega
        have l1 : (p[k].toNat : Int) ≤ 122 := by omega
        have ej' : (p[k].toNat : Int) - 97 = (j : Nat) := by omega
        have hw8 : IntKind.u8.wrap (j : Int) = j := IntWalk.u8_in _ (by omega)
        have hw6 : IntKind.i64.wrap (j : Int) = j := IntWalk.i64_in _ (by omega)
        by_cases hj : j < s.length
        · have hj' : (j : Int) < s.length := by omega
          obtain ⟨m, hm, _⟩ := get_lt hj
          have hq := rd_a (s := s) (r := r') (h := h') (c := p[k].toNat) (by omega) ej hm
          have HX' : Hid (rdN s p (p.size - (k + 1)) (k + 1) ((addM r' m)) (h') = rdN s p p.size 0 r h) := Lib.hid (by rw [← HX.out, rdN_step hlt, hq])
          have G' := G.deliver (List.mem_of_getElem? hm)
          have hal := addM_len r' m
          clear hq HX hT ej hc
          go_wp2_with fail
          have hgl := hY.lt
          refine (deliver_any v2.heap.size 0 v1.heap.size A1 c1 s A2 c2 r' A3 c3 h' _ hY.c3 hO (by omega) (by omega) hE1 hE2 hE3 hls (by omega) j m hm).mono ?_
          rintro e v3 ⟨A', c', rfl, hC, hO4, hdN, hb, hbp, hdd, _⟩
          have hY4 := hC.b3
          have hR4 := hR.upto (by omega) hb
          have hB4 := hB.trans (hb.mono (by omega))
          have hP4 := fun (q : Nat) (hq : q < p.size) => (World.cell?_of_block (a := ⟨v2.heap.size + 1, q, none⟩) (hbp (v2.heap.size + 1) (by have := World.block_lt_of_cell? _ _ (hP q hq); exact this) (by omega) (fun a ha => hP2 a _ ha rfl))).trans (hP q hq)
          have hPl : v2.heap.size + 1 < wr.heap.size := hPlt
          have hPN := hdd _ hP2 (fun a ha => by injection ha with ha; subst ha; exact hPl)
          clear hO hY hR hB b0 b1 b2 hbp
          go_wp2
          go_roundw
          case rel => exact ⟨k + 1, (addM r' m), h', A1, c1, A', c', A3, c3, by omega, by go_num, HX', G', by omega, by omega, hY4, hO4, hE1, hdN, hE3, hR4, hB4, hPN, hP3, Nat.lt_of_lt_of_le hPl hb.size, hP4⟩
          case measure => simp [intOf]; omega
        · have hj' : ¬ (j : Int) < s.length := by omega
          have hq := rd_a0 (s := s) (r := r') (h := h') (c := p[k].toNat) (by omega) ej (by omega)
          have HX' : Hid (rdN s p (p.size - (k + 1)) (k + 1) r' h' = rdN s p p.size 0 r h) := Lib.hid (by rw [← HX.out, rdN_step hlt, hq])
          clear hq HX hT ej hc
          go_wp2
          go_roundw
          case rel => exact ⟨k + 1, r', h', A1, c1, A2, c2, A3, c3, by omega, by go_num, HX', G, by omega, by omega, hY, hO, hE1, hE2, hE3, hR, hB, hP2, hP3, hPlt, hP⟩
          case measure => simp [intOf]; omega
      · obtain ⟨j, ej⟩ : ∃ j : Nat, p[k].toNat = 65 + j := ⟨p[k].toNat - 65, by omega⟩
        have l0 : ¬ 97 ≤ (p[k].toNat : Int) := by omega
        have l2 : 65 ≤ (p[k].toNat : Int) := by omega
        have l3 : (p[k].toNat : Int) ≤ 90 := by omega
        have ej' : (p[k].toNat : Int) - 65 = (j : Nat) := by omega
        have hw8 : IntKind.u8.wrap (j : Int) = j := IntWalk.u8_in _ (by omega)
        have hw6 : IntKind.i64.wrap (j : Int) = j := IntWalk.i64_in _ (by omega)
        by_cases hj : j < r'.length
        · have hj' : (j : Int) < r'.length := by omega
          obtain ⟨m, hm, _⟩ := get_lt hj
          have hq := rd_A (s := s) (r := r') (h := h') (c := p[k].toNat) (by omega) ej hm
          have HX' : Hid (rdN s p (p.size - (k + 1)) (k + 1) (r') ((addM h' m)) = rdN s p p.size 0 r h) := Lib.hid (by rw [← HX.out, rdN_step hlt, hq])
          have G' := G.confirm (List.mem_of_getElem? hm)
          have hal := addM_len h' m
          clear hq HX hT ej hc
          go_wp2_with fail
          have hgl := hY.lt
          refine (confirm_any v2.heap.size 0 v1.heap.size A1 c1 s A2 c2 r' A3 c3 h' _ hY.c3 hO (by omega) (by omega) hE1 hE2 hE3 (by omega) (by omega) j m hm).mono ?_
          rintro e v3 ⟨A', c', rfl, hC, hO4, hdN, hb, hbp, hdd, _⟩
          have hY4 := hC.b3
          have hR4 := hR.upto (by omega) hb
          have hB4 := hB.trans (hb.mono (by omega))
          have hP4 := fun (q : Nat) (hq : q < p.size) => (World.cell?_of_block (a := ⟨v2.heap.size + 1, q, none⟩) (hbp (v2.heap.size + 1) (by have := World.block_lt_of_cell? _ _ (hP q hq); exact this) (by omega) (fun a ha => hP3 a _ ha rfl))).trans (hP q hq)
          have hPl : v2.heap.size + 1 < wr.heap.size := hPlt
          have hPN := hdd _ hP3 (fun a ha => by injection ha with ha; subst ha; exact hPl)
          clear hO hY hR hB b0 b1 b2 hbp
          go_wp2
          go_roundw
          case rel => exact ⟨k + 1, r', (addM h' m), A1, c1, A2, c2, A', c', by omega, by go_num, HX', G', by omega, by omega, hY4, hO4, hE1, hE2, hdN, hR4, hB4, hP2, hPN, Nat.lt_of_lt_of_le hPl hb.size, hP4⟩
          case measure => simp [intOf]; omega
        · have hj' : ¬ (j : Int) < r'.length := by omega
          have hq := rd_A0 (s := s) (r := r') (h := h') (c := p[k].toNat) (by omega) ej (by omega)
          have HX' : Hid (rdN s p (p.size - (k + 1)) (k + 1) r' h' = rdN s p p.size 0 r h) := Lib.hid (by rw [← HX.out, rdN_step hlt, hq])
          clear hq HX hT ej hc
          go_wp2
          go_roundw
          case rel => exact ⟨k + 1, r', h', A1, c1, A2, c2, A3, c3, by omega, by go_num, HX', G, by omega, by omega, hY, hO, hE1, hE2, hE3, hR, hB, hP2, hP3, hPlt, hP⟩
          case measure => simp [intOf]; omega
      · have hq := rd_no (s := s) (r := r') (h := h') (c := p[k].toNat) (by omega) (by omega)
        obtain rfl : chNo = t := by rw [← hT.out, runT, if_pos hg, ← HX.out, rdN_step hlt, hq]
        have l0 : ¬ 97 ≤ (p[k].toNat : Int) := by omega
        have l2 : ¬ 65 ≤ (p[k].toNat : Int) := by omega
        clear hT HX hq hg
        obtain ⟨k0, k1, k2, f0, f1, f2⟩ := id hR
        have hR' := ((hR.set0 (.slice none 0 0)).set1 (.slice none 0 0)).set2 (.slice none 0 0)
        have hF : Fr (w.heap.size + 1) ((w.heap.size + 1) + 1) wr (((wr.setCell ⟨(w.heap.size + 1), 0, none⟩ (.slice none 0 0)).setCell ⟨(w.heap.size + 1), 1, none⟩ (.slice none 0 0)).setCell ⟨(w.heap.size + 1), 2, none⟩ (.slice none 0 0)) := (((Fr.refl _ _ _).setCell ⟨by simp, by simp⟩ _).setCell ⟨by simp, by simp⟩ _).setCell ⟨by simp, by simp⟩ _
        have hB' := hB.trans (hF.below (B := w.heap.size) (by omega) (by have := hB.size; omega))
        have hI := IntC.nil_ _ (base := w.heap.size) hB'.size
        obtain ⟨x0, x1, x2, _, _, _⟩ := id hR'
        go_wp2
        refine bodyPost_ret (by simp [results, Try.results18, go_sem, x0, x1, x2]; try rfl) rfl ?_
        exact ⟨none, 0, none, 0, none, 0, rfl, hI, hB'⟩
      · have hq := rd_no (s := s) (r := r') (h := h') (c := p[k].toNat) (by omega) (by omega)
        obtain rfl : chNo = t := by rw [← hT.out, runT, if_pos hg, ← HX.out, rdN_step hlt, hq]
        have l0 : ¬ 97 ≤ (p[k].toNat : Int) := by omega
        have l2 : 65 ≤ (p[k].toNat : Int) := by omega
        have l3 : ¬ (p[k].toNat : Int) ≤ 90 := by omega
        clear hT HX hq hg
        obtain ⟨k0, k1, k2, f0, f1, f2⟩ := id hR
        have hR' := ((hR.set0 (.slice none 0 0)).set1 (.slice none 0 0)).set2 (.slice none 0 0)
        have hF : Fr (w.heap.size + 1) ((w.heap.size + 1) + 1) wr (((wr.setCell ⟨(w.heap.size + 1), 0, none⟩ (.slice none 0 0)).setCell ⟨(w.heap.size + 1), 1, none⟩ (.slice none 0 0)).setCell ⟨(w.heap.size + 1), 2, none⟩ (.slice none 0 0)) := (((Fr.refl _ _ _).setCell ⟨by simp, by simp⟩ _).setCell ⟨by simp, by simp⟩ _).setCell ⟨by simp, by simp⟩ _
        have hB' := hB.trans (hF.below (B := w.heap.size) (by omega) (by have := hB.size; omega))
        have hI := IntC.nil_ _ (base := w.heap.size) hB'.size
        obtain ⟨x0, x1, x2, _, _, _⟩ := id hR'
        go_wp2
        refine bodyPost_ret (by simp [results, Try.results18, go_sem, x0, x1, x2]; try rfl) rfl ?_
        exact ⟨none, 0, none, 0, none, 0, rfl, hI, hB'⟩
      · have hq := rd_no (s := s) (r := r') (h := h') (c := p[k].toNat) (by omega) (by omega)
        obtain rfl : chNo = t := by rw [← hT.out, runT, if_pos hg, ← HX.out, rdN_step hlt, hq]
        have l0 : 97 ≤ (p[k].toNat : Int) := by omega
        have l1 : ¬ (p[k].toNat : Int) ≤ 122 := by omega
        have l2 : 65 ≤ (p[k].toNat : Int) := by omega
        have l3 : ¬ (p[k].toNat : Int) ≤ 90 := by omega
        clear hT HX hq hg
        obtain ⟨k0, k1, k2, f0, f1, f2⟩ := id hR
        have hR' := ((hR.set0 (.slice none 0 0)).set1 (.slice none 0 0)).set2 (.slice none 0 0)
        have hF : Fr (w.heap.size + 1) ((w.heap.size + 1) + 1) wr (((wr.setCell ⟨(w.heap.size + 1), 0, none⟩ (.slice none 0 0)).setCell ⟨(w.heap.size + 1), 1, none⟩ (.slice none 0 0)).setCell ⟨(w.heap.size + 1), 2, none⟩ (.slice none 0 0)) := (((Fr.refl _ _ _).setCell ⟨by simp, by simp⟩ _).setCell ⟨by simp, by simp⟩ _).setCell ⟨by simp, by simp⟩ _
        have hB' := hB.trans (hF.below (B := w.heap.size) (by omega) (by have := hB.size; omega))
        have hI := IntC.nil_ _ (base := w.heap.size) hB'.size
        obtain ⟨x0, x1, x2, _, _, _⟩ := id hR'
        go_wp2
        refine bodyPost_ret (by simp [results, Try.results18, go_sem, x0, x1, x2]; try rfl) rfl ?_
        exact ⟨none, 0, none, 0, none, 0, rfl, hI, hB'⟩
    · obtain rfl : k = p.size := by omega
      obtain rfl : ((s, r', h'), true) = t := by rw [← hT.out, runT, if_pos hg, ← HX.out, Nat.sub_self]; rfl
      clear hT HX
      obtain ⟨k0, k1, k2, f0, f1, f2⟩ := id hR
      have hR' := ((hR.set0 (.slice A1 s.length c1)).set1 (.slice A2 r'.length c2)).set2 (.slice A3 h'.length c3)
      have hF : Fr (w.heap.size + 1) ((w.heap.size + 1) + 1) wr (((wr.setCell ⟨(w.heap.size + 1), 0, none⟩ (.slice A1 s.length c1)).setCell ⟨(w.heap.size + 1), 1, none⟩ (.slice A2 r'.length c2)).setCell ⟨(w.heap.size + 1), 2, none⟩ (.slice A3 h'.length c3)) := (((Fr.refl _ _ _).setCell ⟨by simp, by simp⟩ _).setCell ⟨by simp, by simp⟩ _).setCell ⟨by simp, by simp⟩ _
      have hB' := hB.trans (hF.below (B := w.heap.size) (by omega) (by have := hB.size; omega))
      have hO' := (hO.far hF (by omega)).lift (b0 := w.heap.size) (by omega); have hI := hO'.ints hB'.size
      obtain ⟨x0, x1, x2, _, _, _⟩ := id hR'
      go_wp2
      refine bodyPost_ret (by simp [results, Try.results18, go_sem, x0, x1, x2]; try rfl) rfl ?_
      exact ⟨A1, c1, A2, c2, A3, c3, rfl, hI, hB'⟩
end Go.Proofs.Ytacjdapfbmdddaa
