/- FnChannels: for all drawn channels the law returns true. No conditions. -/
import Derived.Test.YtacjdapfbmdddaaDrwO
import Derived.Test.YtacjdapfbmdddaaChM
import Derived.Test.YtacjdapfbmdddaaSameChan
import Derived.Test.YtacjdapfbmdddaaSameStrs
import Derived.Test.YtacjdapfbmdddaaRow
import Derived.Deep.Cut
namespace Go.Proofs.Ytacjdapfbmdddaa.lawChannels
open Go.ChangeShapes Go.WideShapes Go.ChangeAt Go.RowKit Go.Joins Go.Proofs.Ytacjdapfbmdddaa

theorem chan_small {s q h : List Msg} (g : chanB s q h = true) (hm : ∀ y ∈ s, y.f.size ≤ 1048576 ∧ y.b.size ≤ 1048576) : (s.length ≤ 30 ∧ q.length ≤ 30 ∧ h.length ≤ 30) ∧ (∀ y ∈ q, y.f.size ≤ 1048576 ∧ y.b.size ≤ 1048576) ∧ (∀ y ∈ h, y.f.size ≤ 1048576 ∧ y.b.size ≤ 1048576) := by
  obtain ⟨_, k2, k3, k4⟩ := chan_parts g
  have := someB_len k3
  have := someB_len k4
  exact ⟨⟨k2, by omega, by omega⟩, fun y hy => hm y (someB_sub k3 y hy), fun y hy => hm y (someB_sub k3 y (someB_sub k4 y hy))⟩
def ALPH : ByteArray := ⟨#[97, 98, 99, 100, 101, 102, 103, 104, 105, 106, 107, 108, 109, 110, 111, 112, 113, 114, 115, 116, 117, 118, 119, 120, 121, 122]⟩
theorem letter (k : Nat) (h : k < 26) : ∃ c : UInt8, (ALPH.extract k (k + 1)).data.toList = [c] ∧ 97 ≤ c.toNat ∧ c.toNat ≤ 122 := by
  have : ∀ k : Fin 26, (ALPH.extract k (k + 1)).data.toList = [UInt8.ofNat (97 + k)] ∧ 97 ≤ (UInt8.ofNat (97 + k)).toNat ∧ (UInt8.ofNat (97 + k)).toNat ≤ 122 := by decide
  exact ⟨_, this ⟨k, h⟩⟩
set_option maxRecDepth 100000 in
set_option maxHeartbeats 40000000 in
theorem walk (Aco : Option Addr) (cco : Nat) (co : List Int) (hl1 : co.length ≤ maxLen) (hmco : ∀ x ∈ co, 0 ≤ x ∧ x ≤ 255) (Amo : Option Addr) (cmo : Nat) (mo : List Int) (hl2 : mo.length ≤ maxLen) (hmmo : ∀ x ∈ mo, 0 ≤ x ∧ x ≤ 255) (w : World) (hSco : Sl byE 1 w 0 w.heap.size Aco co) (hSmo : Sl byE 1 w 0 w.heap.size Amo mo) :
    Calls Try.prog 3 #[.slice Aco co.length cco, .slice Amo mo.length cmo] w fun e w' => e = .returned (.bool true) ∧ Below w.heap.size w w' := by
  go_enter Try.func3, Try.ntmps3
  go_wp2_with fail
  refine (big_any Aco Amo cco cmo co mo _ hl1 hl2).mono ?_
  rintro e w1 ⟨v, rfl, hb⟩
  have hB := hb
  clear hb
  cases v with
  | true =>
    go_wp2
    go_ret
    exact ⟨rfl, hB⟩
  | false =>
    go_wp2_with fail
    refine (DrawSendMessage_any Aco cco co _ hl1 hmco (hSco.below hB).all).mono ?_
    rintro e w2 ⟨A1, c1, s, A2, c2, r, A3, c3, h, f, b, rfl, hf, hfb, ⟨hl, hm, hO⟩, hb⟩
    replace hB := Below.on' hB hb
    clear hb
    have hq : CM w2 A1 c1 s A2 c2 r A3 c3 h := CM.own hO (by omega) hm.1.big (by omega) hm.2.1.big (by omega) hm.2.2.big
    clear hO
    replace hq := hq.below ((Below.refl _ _).alloc (Nat.le_refl _) (.cells #[.slice A1 s.length c1, .slice A2 r.length c2, .slice A3 h.length c3] 26))
    replace hB := hB.alloc hB.size (.cells #[.slice A1 s.length c1, .slice A2 r.length c2, .slice A3 h.length c3] 26)
    have hX5 : B3 w2.heap.size (.slice A1 s.length c1) (.slice A2 r.length c2) (.slice A3 h.length c3) (w2.alloc (.cells #[.slice A1 s.length c1, .slice A2 r.length c2, .slice A3 h.length c3] 26)) := B3.new w2 (.slice A1 s.length c1) (.slice A2 r.length c2) (.slice A3 h.length c3) 26 _ rfl
    obtain ⟨s2, r2, h2, ok, hT⟩ : ∃ s2 r2 h2 ok, Hid (sndT s r h f b = ((s2, r2, h2), ok)) := ⟨_, _, _, _, Lib.hid rfl⟩
    have cSi : ∀ W, CM W A1 c1 s A2 c2 r A3 c3 h → Calls Try.prog 6 #[.agg #[.slice A1 s.length c1, .slice A2 r.length c2, .slice A3 h.length c3], .string f, .string b] W (RCX W s2 r2 h2 ok) := fun W q => by
      have := SendMessage_implO A1 c1 s A2 c2 r A3 c3 h f b W q.l1 q.m1 q.p1 q.k1 q.l2 q.m2 q.p2 q.k2 q.l3 q.m3 q.p3 q.k3 (by omega) (by omega)
      rw [hT.out] at this
      exact this
    have cSs : ∀ W, CM W A1 c1 s A2 c2 r A3 c3 h → Calls Try.prog 7 #[.agg #[.slice A1 s.length c1, .slice A2 r.length c2, .slice A3 h.length c3], .string f, .string b] W (RCB W s2 r2 h2 ok) := fun W q => by
      have := SendMessage_spec A1 c1 s A2 c2 r A3 c3 h f b W q.l1 q.m1 q.p1 q.k1 q.l2 q.m2 q.p2 q.k2 q.l3 q.m3 q.p3 q.k3 (by omega) (by omega)
      rw [hT.out] at this
      exact this
    have n2 : s2.length ≤ 1048576 ∧ r2.length ≤ 1048576 ∧ h2.length ≤ 1048576 := by
      have := sndT_len (f := f) (b := b) hq.l1 hq.l2 hq.l3
      rw [hT.out] at this
      exact this
    have f1 : ok = true → chanB s2 r2 h2 = true ∧ s2 = s ++ [⟨f, (cntM s f : Int) + 1, b⟩] ∧ r2 = r ∧ h2 = h := fun g => by
      have g' : (sndT s r h f b).2 = true := by rw [hT.out]; exact g
      have gk : sndOk s r h f b = true := by
        unfold sndT at g'
        split at g'
        · assumption
        · cases g'
      have e := snd_ok g'
      rw [hT.out] at e
      injection e with e1 _
      injection e1 with e1 e2
      injection e2 with e2 e3
      rw [e1, e2, e3]
      exact ⟨chan_send gk, rfl, rfl, rfl⟩
    have f2 : ok = true → (∀ y ∈ s2, y.f.size ≤ 1048576 ∧ y.b.size ≤ 1048576) ∧ (∀ y ∈ r2, y.f.size ≤ 1048576 ∧ y.b.size ≤ 1048576) ∧ (∀ y ∈ h2, y.f.size ≤ 1048576 ∧ y.b.size ≤ 1048576) := fun g => by
      obtain ⟨_, e1, e2, e3⟩ := f1 g
      rw [e1, e2, e3]
      refine ⟨fun y hy => ?_, hm.2.1.big, hm.2.2.big⟩
      rcases List.mem_append.1 hy with hy | hy
      · exact hm.1.big y hy
      · rw [List.mem_singleton.1 hy]; exact ⟨by simp only; omega, by simp only; omega⟩
    clear hT
    replace f1 := Lib.hid f1
    replace f2 := Lib.hid f2
    obtain ⟨x0, x1, x2, _, _, _⟩ := id hX5
    go_wp2_with fail
    refine (cSi _ hq).mono ?_
    rintro e w3 ⟨D1, d1, D2, d2, D3, d3, rfl, hO2, hb⟩
    replace hq := hq.below hb
    replace hX5 := hX5.below hb
    replace hB := Below.on' hB hb
    clear hb
    clear x0 x1 x2
    replace hO2 := hO2.lift (Nat.zero_le _)
    replace hq := hq.below ((Below.refl _ _).alloc (Nat.le_refl _) (.cells #[.slice D1 s2.length d1, .slice D2 r2.length d2, .slice D3 h2.length d3] 26))
    replace hX5 := hX5.below ((Below.refl _ _).alloc (Nat.le_refl _) (.cells #[.slice D1 s2.length d1, .slice D2 r2.length d2, .slice D3 h2.length d3] 26))
    replace hO2 := hO2.below ((Below.refl _ _).alloc (Nat.le_refl _) (.cells #[.slice D1 s2.length d1, .slice D2 r2.length d2, .slice D3 h2.length d3] 26))
    replace hB := hB.alloc hB.size (.cells #[.slice D1 s2.length d1, .slice D2 r2.length d2, .slice D3 h2.length d3] 26)
    have hX8 : B3 w3.heap.size (.slice D1 s2.length d1) (.slice D2 r2.length d2) (.slice D3 h2.length d3) (w3.alloc (.cells #[.slice D1 s2.length d1, .slice D2 r2.length d2, .slice D3 h2.length d3] 26)) := B3.new w3 (.slice D1 s2.length d1) (.slice D2 r2.length d2) (.slice D3 h2.length d3) 26 _ rfl
    obtain ⟨x0, x1, x2, _, _, _⟩ := id hX5
    go_wp2_with fail
    refine (cSs _ hq).mono ?_
    rintro e w4 ⟨E1, e1, E2, e2, E3, e3, rfl, hI, hb⟩
    replace hq := hq.below hb
    replace hX5 := hX5.below hb
    replace hO2 := hO2.below hb
    replace hX8 := hX8.below hb
    replace hB := Below.on' hB hb
    clear hb
    clear x0 x1 x2
    have hMR := hI.mr
    clear hI cSi cSs
    replace hq := hq.below ((Below.refl _ _).alloc (Nat.le_refl _) (.cells #[.slice E1 s2.length e1, .slice E2 r2.length e2, .slice E3 h2.length e3] 26))
    replace hX5 := hX5.below ((Below.refl _ _).alloc (Nat.le_refl _) (.cells #[.slice E1 s2.length e1, .slice E2 r2.length e2, .slice E3 h2.length e3] 26))
    replace hO2 := hO2.below ((Below.refl _ _).alloc (Nat.le_refl _) (.cells #[.slice E1 s2.length e1, .slice E2 r2.length e2, .slice E3 h2.length e3] 26))
    replace hX8 := hX8.below ((Below.refl _ _).alloc (Nat.le_refl _) (.cells #[.slice E1 s2.length e1, .slice E2 r2.length e2, .slice E3 h2.length e3] 26))
    replace hMR := hMR.below ((Below.refl _ _).alloc (Nat.le_refl _) (.cells #[.slice E1 s2.length e1, .slice E2 r2.length e2, .slice E3 h2.length e3] 26))
    replace hB := hB.alloc hB.size (.cells #[.slice E1 s2.length e1, .slice E2 r2.length e2, .slice E3 h2.length e3] 26)
    have hX10 : B3 w4.heap.size (.slice E1 s2.length e1) (.slice E2 r2.length e2) (.slice E3 h2.length e3) (w4.alloc (.cells #[.slice E1 s2.length e1, .slice E2 r2.length e2, .slice E3 h2.length e3] 26)) := B3.new w4 (.slice E1 s2.length e1) (.slice E2 r2.length e2) (.slice E3 h2.length e3) 26 _ rfl
    have hI : Below w.heap.size w (w4.alloc (.cells #[.slice E1 s2.length e1, .slice E2 r2.length e2, .slice E3 h2.length e3] 26)) ∧ CM (w4.alloc (.cells #[.slice E1 s2.length e1, .slice E2 r2.length e2, .slice E3 h2.length e3] 26)) A1 c1 s A2 c2 r A3 c3 h ∧ B3 w2.heap.size (.slice A1 s.length c1) (.slice A2 r.length c2) (.slice A3 h.length c3) (w4.alloc (.cells #[.slice E1 s2.length e1, .slice E2 r2.length e2, .slice E3 h2.length e3] 26)) ∧ B3 w3.heap.size (.slice D1 s2.length d1) (.slice D2 r2.length d2) (.slice D3 h2.length d3) (w4.alloc (.cells #[.slice E1 s2.length e1, .slice E2 r2.length e2, .slice E3 h2.length e3] 26)) ∧ B3 w4.heap.size (.slice E1 s2.length e1) (.slice E2 r2.length e2) (.slice E3 h2.length e3) (w4.alloc (.cells #[.slice E1 s2.length e1, .slice E2 r2.length e2, .slice E3 h2.length e3] 26)) ∧ OwnC (w4.alloc (.cells #[.slice E1 s2.length e1, .slice E2 r2.length e2, .slice E3 h2.length e3] 26)) 0 D1 d1 s2 D2 d2 r2 D3 d3 h2 ∧ MR (w4.alloc (.cells #[.slice E1 s2.length e1, .slice E2 r2.length e2, .slice E3 h2.length e3] 26)) E1 s2 E2 r2 E3 h2 := ⟨hB, hq, hX5, hX8, hX10, hO2, hMR⟩
    clear hB hq hX5 hX8 hX10 hO2 hMR hm hl
    go_upto_region 6 with fail
    go_cut [83] from 52 (fun v wx => v = .bool false ∧ Below w.heap.size w wx ∧ CM wx A1 c1 s A2 c2 r A3 c3 h ∧ B3 w2.heap.size (.slice A1 s.length c1) (.slice A2 r.length c2) (.slice A3 h.length c3) wx ∧ B3 w3.heap.size (.slice D1 s2.length d1) (.slice D2 r2.length d2) (.slice D3 h2.length d3) wx ∧ B3 w4.heap.size (.slice E1 s2.length e1) (.slice E2 r2.length e2) (.slice E3 h2.length e3) wx ∧ OwnC wx 0 D1 d1 s2 D2 d2 r2 D3 d3 h2 ∧ MR wx E1 s2 E2 r2 E3 h2)
    case first =>
      as_aux_lemma =>
        obtain ⟨hB, hq, hX5, hX8, hX10, hO2, hMR⟩ := hI
        clear f1 f2
        cases ok with
        | false =>
          obtain ⟨x0, x1, x2, _, _, _⟩ := id hX8
          obtain ⟨y0, y1, y2, _, _, _⟩ := id hX10
          go_wp2_with fail
          refine (pSameChannel_any D1 d1 D2 d2 D3 d3 E1 e1 E2 e2 E3 e3 s2 r2 h2 _ n2.1 n2.2.1 n2.2.2 hO2.mr.p1 hO2.mr.p2 hO2.mr.p3 hMR.p1 hMR.p2 hMR.p3).mono ?_
          rintro e v1 ⟨rfl, hb⟩
          replace hq := hq.below hb
          replace hX5 := hX5.below hb
          replace hX8 := hX8.below hb
          replace hX10 := hX10.below hb
          replace hO2 := hO2.below hb
          replace hMR := hMR.below hb
          replace hB := Below.on' hB hb
          clear hb
          clear x0 x1 x2 y0 y1 y2
          go_wp2_with fail
          go_meet
          exact ⟨rfl, hB, hq, hX5, hX8, hX10, hO2, hMR⟩
        | true =>
          obtain ⟨x0, x1, x2, _, _, _⟩ := id hX8
          obtain ⟨y0, y1, y2, _, _, _⟩ := id hX10
          go_wp2_with fail
          refine (pSameChannel_any D1 d1 D2 d2 D3 d3 E1 e1 E2 e2 E3 e3 s2 r2 h2 _ n2.1 n2.2.1 n2.2.2 hO2.mr.p1 hO2.mr.p2 hO2.mr.p3 hMR.p1 hMR.p2 hMR.p3).mono ?_
          rintro e v1 ⟨rfl, hb⟩
          replace hq := hq.below hb
          replace hX5 := hX5.below hb
          replace hX8 := hX8.below hb
          replace hX10 := hX10.below hb
          replace hO2 := hO2.below hb
          replace hMR := hMR.below hb
          replace hB := Below.on' hB hb
          clear hb
          clear x0 x1 x2 y0 y1 y2
          go_wp2_with fail
          go_meet
          exact ⟨rfl, hB, hq, hX5, hX8, hX10, hO2, hMR⟩
    case rest =>
      as_aux_lemma =>
        obtain ⟨rfl, hI⟩ := hcut
        go_upto_if 84 with fail
        go_cut [4] from 383 (fun v wx => v = .bool false ∧ Below w.heap.size w wx)
        case first =>
          as_aux_lemma =>
            obtain ⟨hB, hq, hX5, hX8, hX10, hO2, hMR⟩ := hI
            cases ok with
            | false =>
              clear f1 f2
              go_wp2_with fail
              go_meet
              exact ⟨rfl, hB⟩
            | true =>
              obtain ⟨g1, g2, g3, g4⟩ := f1.out rfl
              obtain ⟨z1, z2, z3⟩ := f2.out rfl
              have hQ2 := CM.own hO2 n2.1 z1 n2.2.1 z2 n2.2.2 z3
              clear f1 f2 z1 z2 z3 hO2
              have hln : s2.length = s.length + 1 := by rw [g2]; simp
              have hgt : s2[s.length]? = some ⟨f, (cntM s f : Int) + 1, b⟩ := by rw [g2]; simp
              replace g1 := Lib.hid g1
              replace hln := Lib.hid hln
              replace hgt := Lib.hid hgt
              clear g2 g3 g4
              obtain ⟨x0, x1, x2, _, _, _⟩ := id hX5
              go_wp2_with fail
              clear x0 x1 x2
              go_loopw [12, 88] (fun nv i wr => ∃ k : Nat, k ≤ s.length ∧ i = .int .i64 k ∧ nv = .int .i64 (cntM (s.take k) f) ∧ Below w.heap.size w wr ∧ CM wr A1 c1 s A2 c2 r A3 c3 h ∧ B3 w3.heap.size (.slice D1 s2.length d1) (.slice D2 r2.length d2) (.slice D3 h2.length d3) wr ∧ B3 w4.heap.size (.slice E1 s2.length e1) (.slice E2 r2.length e2) (.slice E3 h2.length e3) wr ∧ CM wr D1 d1 s2 D2 d2 r2 D3 d3 h2 ∧ MR wr E1 s2 E2 r2 E3 h2) (fun _ i _ => s.length - (intOf i).toNat)
              case atStart => exact ⟨0, Nat.zero_le _, rfl, rfl, hB, hq, hX8, hX10, hQ2, hMR⟩
              case round =>
                clear hB hq hX5 hX8 hX10 hQ2 hMR
                obtain ⟨k, hk, rfl, rfl, hB, hq, hX8, hX10, hQ2, hMR⟩ := hrel
                have hsl := hq.l1
                have hcn : cntM (s.take k) f ≤ 1048576 := by have := cntM_le (s.take k) f; have := List.length_take_le k s; omega
                by_cases hlt : k < s.length
                · obtain ⟨x, hx1, hx2⟩ := get_lt hlt
                  obtain ⟨bb, off, rfl, _, _, _, hf_⟩ := hq.p1.at_ hx1
                  have c0 : wr.cell? ⟨bb, off + k * 3, none⟩ = some (.string x.f) := (hf_ 0 _ rfl).1
                  have c1 : wr.cell? ⟨bb, off + k * 3 + 1, none⟩ = some (.int .i64 x.n) := (hf_ 1 _ rfl).1
                  have c2 : wr.cell? ⟨bb, off + k * 3 + 2, none⟩ = some (.string x.b) := (hf_ 2 _ rfl).1
                  have hcs := cntM_step hx1 f
                  clear hf_ hx1 hx2
                  have hbA := (Below.refl wr.heap.size wr).alloc (Nat.le_refl _) (.cells #[.string x.f, .int .i64 x.n, .string x.b] 33)
                  by_cases e : x.f.toList = f.toList
                  · rw [if_pos e] at hcs
                    go_wp2
                    go_roundw
                    case rel => exact ⟨k + 1, by omega, by go_num, by rw [hcs], hB.alloc hB.size _, hq.below hbA, hX8.below hbA, hX10.below hbA, hQ2.below hbA, hMR.below hbA⟩
                    case measure => simp [intOf]; omega
                  · rw [if_neg e] at hcs
                    have e' : (x.f.toList == f.toList) = false := by simpa using e
                    clear e
                    go_wp2
                    go_roundw
                    case rel => exact ⟨k + 1, by omega, by go_num, by rw [hcs]; simp, hB.alloc hB.size _, hq.below hbA, hX8.below hbA, hX10.below hbA, hQ2.below hbA, hMR.below hbA⟩
                    case measure => simp [intOf]; omega
                · have hk' : s.take k = s := List.take_of_length_le (by omega)
                  obtain rfl : k = s.length := by omega
                  rw [hk'] at hcn ⊢
                  clear hk' hk hlt
                  obtain ⟨bb, off, rfl, _, _, _, hf_⟩ := hMR.p1.at_ hgt.out
                  have c0 : wr.cell? ⟨bb, off + s.length * 3, none⟩ = some (.string f) := (hf_ 0 _ rfl).1
                  have c1 : wr.cell? ⟨bb, off + s.length * 3 + 1, none⟩ = some (.int .i64 ((cntM s f : Int) + 1)) := (hf_ 1 _ rfl).1
                  have c2 : wr.cell? ⟨bb, off + s.length * 3 + 2, none⟩ = some (.string b) := (hf_ 2 _ rfl).1
                  clear hf_ hgt
                  rw [hln.out] at hX10
                  have hbM := (Below.refl wr.heap.size wr).alloc (Nat.le_refl _) (.cells #[.string f, .int .i64 ((cntM s f : Int) + 1), .string b] 33)
                  obtain ⟨y0, y1, y2, _, _, _⟩ := id hX10
                  obtain ⟨x0, x1, x2, _, _, _⟩ := hX8.below hbM
                  have hQ3 := hQ2.below hbM
                  have hB3 := hB.alloc hB.size (.cells #[.string f, .int .i64 ((cntM s f : Int) + 1), .string b] 33)
                  have hneq := neqMsg f ((cntM s f : Int) + 1) b
                  clear hB hq hX8 hX10 hQ2 hMR
                  go_wp2_with fail
                  refine (IsChannel_impl D1 d1 s2 D2 d2 r2 D3 d3 h2 _ hQ3.l1 hQ3.m1 hQ3.p1 hQ3.k1 hQ3.l2 hQ3.m2 hQ3.p2 hQ3.k2 hQ3.l3 hQ3.m3 hQ3.p3 hQ3.k3).mono ?_
                  rintro e v1 ⟨rfl, hb⟩
                  rw [g1.out]
                  replace hB3 := Below.on' hB3 hb
                  clear hb x0 x1 x2 y0 y1 y2 c0 c1 c2 hneq hQ3
                  go_wp2_with fail
                  go_meet
                  exact ⟨rfl, hB3⟩

        case rest =>
          as_aux_lemma =>
            obtain ⟨rfl, hI⟩ := hcut
            clear f1 f2 n2 hf hfb
            have hB := hI
            clear hI
            go_wp2_with fail
            refine (DrawInOrder_any Amo cmo mo _ hl2 hmmo (hSmo.below hB).all).mono ?_
            rintro e w21 ⟨A1, c1, s, A2, c2, r, A3, c3, h, f, rfl, hf, ⟨hl, hm, hO⟩, hb⟩
            replace hB := Below.on' hB hb
            clear hb
            have hq : CM w21 A1 c1 s A2 c2 r A3 c3 h := CM.own hO (by omega) hm.1.big (by omega) hm.2.1.big (by omega) hm.2.2.big
            clear hO hm hl
            replace hq := hq.below ((Below.refl _ _).alloc (Nat.le_refl _) (.cells #[.slice A1 s.length c1, .slice A2 r.length c2, .slice A3 h.length c3] 26))
            replace hB := hB.alloc hB.size (.cells #[.slice A1 s.length c1, .slice A2 r.length c2, .slice A3 h.length c3] 26)
            have hX16 : B3 w21.heap.size (.slice A1 s.length c1) (.slice A2 r.length c2) (.slice A3 h.length c3) (w21.alloc (.cells #[.slice A1 s.length c1, .slice A2 r.length c2, .slice A3 h.length c3] 26)) := B3.new w21 (.slice A1 s.length c1) (.slice A2 r.length c2) (.slice A3 h.length c3) 26 _ rfl
            obtain ⟨O, ok, hO⟩ : ∃ O ok, Hid (ordT s r h f = (O, ok)) := ⟨_, _, Lib.hid rfl⟩
            obtain ⟨nx, ok2, hN⟩ : ∃ nx ok2, Hid (nxtT s r h f = (nx, ok2)) := ⟨_, _, Lib.hid rfl⟩
            obtain ⟨lm, ok3, hL⟩ : ∃ lm ok3, Hid (lasT s r h f = (lm, ok3)) := ⟨_, _, Lib.hid rfl⟩
            have cOi : ∀ W, CM W A1 c1 s A2 c2 r A3 c3 h → Calls Try.prog 11 #[.agg #[.slice A1 s.length c1, .slice A2 r.length c2, .slice A3 h.length c3], .string f] W (RS2 Strs.cells 1 W O ok) := fun W q => by
              have := InOrder_impl A1 c1 s A2 c2 r A3 c3 h f W q.l1 q.m1 q.p1 q.k1 q.l2 q.m2 q.p2 q.k2 q.l3 q.m3 q.p3 q.k3 (by omega)
              rw [hO.out] at this
              exact this
            have cOs : ∀ W, CM W A1 c1 s A2 c2 r A3 c3 h → Calls Try.prog 12 #[.agg #[.slice A1 s.length c1, .slice A2 r.length c2, .slice A3 h.length c3], .string f] W (RS2 Strs.cells 1 W O ok) := fun W q => by
              have := InOrder_spec A1 c1 s A2 c2 r A3 c3 h f W q.l1 q.m1 q.p1 q.k1 q.l2 q.m2 q.p2 q.k2 q.l3 q.m3 q.p3 q.k3 (by omega)
              rw [hO.out] at this
              exact this
            have cNi : ∀ W, CM W A1 c1 s A2 c2 r A3 c3 h → Calls Try.prog 13 #[.agg #[.slice A1 s.length c1, .slice A2 r.length c2, .slice A3 h.length c3], .string f] W (RV W (.tuple #[.int .i64 nx, .bool ok2])) := fun W q => by
              have := NextInOrder_impl A1 c1 s A2 c2 r A3 c3 h f W q.l1 q.m1 q.p1 q.k1 q.l2 q.m2 q.p2 q.k2 q.l3 q.m3 q.p3 q.k3 (by omega)
              rw [hN.out] at this
              exact this
            have cNs : ∀ W, CM W A1 c1 s A2 c2 r A3 c3 h → Calls Try.prog 14 #[.agg #[.slice A1 s.length c1, .slice A2 r.length c2, .slice A3 h.length c3], .string f] W (RV W (.tuple #[.int .i64 nx, .bool ok2])) := fun W q => by
              have := NextInOrder_spec A1 c1 s A2 c2 r A3 c3 h f W q.l1 q.m1 q.p1 q.k1 q.l2 q.m2 q.p2 q.k2 q.l3 q.m3 q.p3 q.k3 (by omega)
              rw [hN.out] at this
              exact this
            have cLi : ∀ W, CM W A1 c1 s A2 c2 r A3 c3 h → Calls Try.prog 15 #[.agg #[.slice A1 s.length c1, .slice A2 r.length c2, .slice A3 h.length c3], .string f] W (RV W (.tuple #[.agg #[.string lm.f, .int .i64 lm.n, .string lm.b], .bool ok3])) := fun W q => by
              have := LastOf_impl A1 c1 s A2 c2 r A3 c3 h f W q.l1 q.m1 q.p1 q.k1 q.l2 q.m2 q.p2 q.k2 q.l3 q.m3 q.p3 q.k3 (by omega)
              rw [hL.out] at this
              exact this
            have cLs : ∀ W, CM W A1 c1 s A2 c2 r A3 c3 h → Calls Try.prog 16 #[.agg #[.slice A1 s.length c1, .slice A2 r.length c2, .slice A3 h.length c3], .string f] W (RV W (.tuple #[.agg #[.string lm.f, .int .i64 lm.n, .string lm.b], .bool ok3])) := fun W q => by
              have := LastOf_spec A1 c1 s A2 c2 r A3 c3 h f W q.l1 q.m1 q.p1 q.k1 q.l2 q.m2 q.p2 q.k2 q.l3 q.m3 q.p3 q.k3 (by omega)
              rw [hL.out] at this
              exact this
            have hOl : O.length ≤ 1048576 := by
              have := ordT_len (s := s) (r := r) (h := h) (f := f)
              rw [hO.out] at this
              exact this
            have f1 : ok2 = ok ∧ (ok3 = true → ok = true) ∧ (ok = true → (chanB s r h && nameB f) = true ∧ nx = (O.length : Int) + 1 ∧ (0 < O.length → ok3 = true ∧ (O.length : Int) ≤ lm.n) ∧ (ok3 = true → lm.f = f)) := by
              have eO := hO.out
              have eN := hN.out
              have eL := hL.out
              by_cases g : (chanB s r h && nameB f) = true
              · rw [← ordT_yes g] at eO
                rw [nxtT_yes g] at eN
                rw [lasT_yes g] at eL
                injection eO with o1 o2
                injection eN with k1 k2
                injection eL with m1 m2
                subst o1 o2 k1 k2 m1 m2
                refine ⟨rfl, fun _ => rfl, fun _ => ⟨g, rfl, fun h0 => ?_, fun h0 => last_name (of_decide_eq_true h0)⟩⟩
                have := ord_last h0
                exact ⟨decide_eq_true this.1, this.2⟩
              · have g : (chanB s r h && nameB f) = false := by simpa using g
                rw [← ordT_no g] at eO
                rw [nxtT_no g] at eN
                rw [lasT_no g] at eL
                injection eO with o1 o2
                injection eN with k1 k2
                injection eL with m1 m2
                subst o1 o2 k1 k2 m1 m2
                exact ⟨rfl, fun h => h, fun h => (by cases h)⟩
            obtain ⟨rfl, f1, f2⟩ := f1
            clear hO hN hL
            replace f1 := Lib.hid f1
            replace f2 := Lib.hid f2
            obtain ⟨x0, x1, x2, _, _, _⟩ := id hX16
            go_wp2_with fail
            refine (cOi _ hq).mono ?_
            rintro e w22 ⟨P1, p1, rfl, hS1, _, hb⟩
            replace hq := hq.below hb
            replace hX16 := hX16.below hb
            replace hB := Below.on' hB hb
            clear hb
            clear x0 x1 x2
            obtain ⟨x0, x1, x2, _, _, _⟩ := id hX16
            go_wp2_with fail
            refine (cOs _ hq).mono ?_
            rintro e w23 ⟨P2, p2, rfl, hS2, _, hb⟩
            replace hq := hq.below hb
            replace hX16 := hX16.below hb
            replace hS1 := hS1.below hb
            replace hB := Below.on' hB hb
            clear hb
            clear x0 x1 x2
            obtain ⟨x0, x1, x2, _, _, _⟩ := id hX16
            go_wp2_with fail
            refine (cNi _ hq).mono ?_
            rintro e w24 ⟨rfl, hb⟩
            replace hq := hq.below hb
            replace hX16 := hX16.below hb
            replace hS1 := hS1.below hb
            replace hS2 := hS2.below hb
            replace hB := Below.on' hB hb
            clear hb
            clear x0 x1 x2
            obtain ⟨x0, x1, x2, _, _, _⟩ := id hX16
            go_wp2_with fail
            refine (cNs _ hq).mono ?_
            rintro e w25 ⟨rfl, hb⟩
            replace hq := hq.below hb
            replace hX16 := hX16.below hb
            replace hS1 := hS1.below hb
            replace hS2 := hS2.below hb
            replace hB := Below.on' hB hb
            clear hb
            clear x0 x1 x2
            obtain ⟨x0, x1, x2, _, _, _⟩ := id hX16
            go_wp2_with fail
            refine (cLi _ hq).mono ?_
            rintro e w26 ⟨rfl, hb⟩
            replace hq := hq.below hb
            replace hX16 := hX16.below hb
            replace hS1 := hS1.below hb
            replace hS2 := hS2.below hb
            replace hB := Below.on' hB hb
            clear hb
            clear x0 x1 x2
            replace hq := hq.below ((Below.refl _ _).alloc (Nat.le_refl _) (.cells #[.string lm.f, .int .i64 lm.n, .string lm.b] 33))
            replace hX16 := hX16.below ((Below.refl _ _).alloc (Nat.le_refl _) (.cells #[.string lm.f, .int .i64 lm.n, .string lm.b] 33))
            replace hS1 := hS1.below ((Below.refl _ _).alloc (Nat.le_refl _) (.cells #[.string lm.f, .int .i64 lm.n, .string lm.b] 33))
            replace hS2 := hS2.below ((Below.refl _ _).alloc (Nat.le_refl _) (.cells #[.string lm.f, .int .i64 lm.n, .string lm.b] 33))
            replace hB := hB.alloc hB.size (.cells #[.string lm.f, .int .i64 lm.n, .string lm.b] 33)
            have hX26 : B3 w26.heap.size (.string lm.f) (.int .i64 lm.n) (.string lm.b) (w26.alloc (.cells #[.string lm.f, .int .i64 lm.n, .string lm.b] 33)) := B3.new w26 (.string lm.f) (.int .i64 lm.n) (.string lm.b) 33 _ rfl
            obtain ⟨x0, x1, x2, _, _, _⟩ := id hX16
            go_wp2_with fail
            refine (cLs _ hq).mono ?_
            rintro e w27 ⟨rfl, hb⟩
            replace hq := hq.below hb
            replace hX16 := hX16.below hb
            replace hS1 := hS1.below hb
            replace hS2 := hS2.below hb
            replace hX26 := hX26.below hb
            replace hB := Below.on' hB hb
            clear hb
            clear x0 x1 x2
            replace hq := hq.below ((Below.refl _ _).alloc (Nat.le_refl _) (.cells #[.string lm.f, .int .i64 lm.n, .string lm.b] 33))
            replace hX16 := hX16.below ((Below.refl _ _).alloc (Nat.le_refl _) (.cells #[.string lm.f, .int .i64 lm.n, .string lm.b] 33))
            replace hS1 := hS1.below ((Below.refl _ _).alloc (Nat.le_refl _) (.cells #[.string lm.f, .int .i64 lm.n, .string lm.b] 33))
            replace hS2 := hS2.below ((Below.refl _ _).alloc (Nat.le_refl _) (.cells #[.string lm.f, .int .i64 lm.n, .string lm.b] 33))
            replace hX26 := hX26.below ((Below.refl _ _).alloc (Nat.le_refl _) (.cells #[.string lm.f, .int .i64 lm.n, .string lm.b] 33))
            replace hB := hB.alloc hB.size (.cells #[.string lm.f, .int .i64 lm.n, .string lm.b] 33)
            have hX28 : B3 w27.heap.size (.string lm.f) (.int .i64 lm.n) (.string lm.b) (w27.alloc (.cells #[.string lm.f, .int .i64 lm.n, .string lm.b] 33)) := B3.new w27 (.string lm.f) (.int .i64 lm.n) (.string lm.b) 33 _ rfl
            clear cOi cOs cNi cNs cLi cLs
            go_upto_region 26 with fail
            go_cut [200] from 383 (fun v wx => v = .bool false ∧ Below w.heap.size w wx ∧ CM wx A1 c1 s A2 c2 r A3 c3 h ∧ B3 w21.heap.size (.slice A1 s.length c1) (.slice A2 r.length c2) (.slice A3 h.length c3) wx ∧ B3 w27.heap.size (.string lm.f) (.int .i64 lm.n) (.string lm.b) wx)
            case first =>
              as_aux_lemma =>
                clear f2
                cases ok2 with
                | false =>
                  obtain rfl : ok3 = false := by cases ok3 with | false => rfl | true => exact absurd (f1.out rfl) (by decide)
                  clear f1
                  have hneq := neqMsg lm.f lm.n lm.b
                  go_wp2_with fail
                  refine (pSameTexts_any P1 P2 p1 p2 _ _ _ _ O _ hOl hS1 hS2).mono ?_
                  rintro e v1_ ⟨rfl, hb⟩
                  replace hq := hq.below hb
                  replace hX16 := hX16.below hb
                  replace hS1 := hS1.below hb
                  replace hS2 := hS2.below hb
                  replace hX26 := hX26.below hb
                  replace hX28 := hX28.below hb
                  replace hB := Below.on' hB hb
                  clear hb
                  obtain ⟨u0, u1, u2, _, _, _⟩ := id hX26
                  obtain ⟨v0, v1, v2, _, _, _⟩ := id hX28
                  go_wp2_with fail
                  go_meet
                  exact ⟨rfl, hB, hq, hX16, hX28⟩
                | true =>
                  clear f1
                  cases ok3 with
                  | false =>
                    have hneq := neqMsg lm.f lm.n lm.b
                    go_wp2_with fail
                    refine (pSameTexts_any P1 P2 p1 p2 _ _ _ _ O _ hOl hS1 hS2).mono ?_
                    rintro e v1_ ⟨rfl, hb⟩
                    replace hq := hq.below hb
                    replace hX16 := hX16.below hb
                    replace hS1 := hS1.below hb
                    replace hS2 := hS2.below hb
                    replace hX26 := hX26.below hb
                    replace hX28 := hX28.below hb
                    replace hB := Below.on' hB hb
                    clear hb
                    obtain ⟨u0, u1, u2, _, _, _⟩ := id hX26
                    obtain ⟨v0, v1, v2, _, _, _⟩ := id hX28
                    go_wp2_with fail
                    go_meet
                    exact ⟨rfl, hB, hq, hX16, hX28⟩
                  | true =>
                    have hneq := neqMsg lm.f lm.n lm.b
                    go_wp2_with fail
                    refine (pSameTexts_any P1 P2 p1 p2 _ _ _ _ O _ hOl hS1 hS2).mono ?_
                    rintro e v1_ ⟨rfl, hb⟩
                    replace hq := hq.below hb
                    replace hX16 := hX16.below hb
                    replace hS1 := hS1.below hb
                    replace hS2 := hS2.below hb
                    replace hX26 := hX26.below hb
                    replace hX28 := hX28.below hb
                    replace hB := Below.on' hB hb
                    clear hb
                    obtain ⟨u0, u1, u2, _, _, _⟩ := id hX26
                    obtain ⟨v0, v1, v2, _, _, _⟩ := id hX28
                    go_wp2_with fail
                    go_meet
                    exact ⟨rfl, hB, hq, hX16, hX28⟩
            case rest =>
              as_aux_lemma =>
                obtain ⟨rfl, hI⟩ := hcut
                clear hB hq hX16 hX26 hX28 hS1 hS2 f1
                go_upto_if 201 with fail
                go_cut [4] from 383 (fun v wx => v = .bool false ∧ Below w.heap.size w wx)
                case first =>
                  as_aux_lemma =>
                    obtain ⟨hB, hq, hX16, hX28⟩ := hI
                    cases ok2 with
                    | false =>
                      clear f2
                      go_wp2_with fail
                      go_meet
                      exact ⟨rfl, hB⟩
                    | true =>
                      obtain ⟨g, hnx, f3, f4⟩ := f2.out rfl
                      clear f2
                      subst hnx
                      replace g := Lib.hid g
                      go_upto_region 29 with fail
                      go_cut [230] from 383 (fun v wx => v = .bool false ∧ Below w.heap.size w wx ∧ CM wx A1 c1 s A2 c2 r A3 c3 h ∧ B3 w21.heap.size (.slice A1 s.length c1) (.slice A2 r.length c2) (.slice A3 h.length c3) wx)
                      case first =>
                        as_aux_lemma =>
                          by_cases h0 : 0 < O.length
                          · skip
                            obtain ⟨e3, hle⟩ := f3 h0
                            subst e3
                            have e4 := f4 rfl
                            clear f3 f4
                            rw [e4] at hX28
                            have h1 : (1 : Int) < (O.length : Int) + 1 := by omega
                            have h2 : ¬ lm.n < (O.length : Int) := by omega
                            clear h0 hle e4
                            obtain ⟨v0, v1, v2, _, _, _⟩ := id hX28
                            go_wp2_with fail
                            go_meet
                            exact ⟨rfl, hB, hq, hX16⟩
                          · skip
                            have h1 : ¬ (1 : Int) < (O.length : Int) + 1 := by omega
                            clear f3 h0
                            cases ok3 with
                            | false =>
                              clear f4
                              go_wp2_with fail
                              go_meet
                              exact ⟨rfl, hB, hq, hX16⟩
                            | true =>
                              have e4 := f4 rfl
                              clear f4
                              rw [e4] at hX28
                              clear e4
                              obtain ⟨v0, v1, v2, _, _, _⟩ := id hX28
                              go_wp2_with fail
                              go_meet
                              exact ⟨rfl, hB, hq, hX16⟩
                      case rest =>
                        clear hB hq hX16 hX28 f3 f4
                        obtain ⟨rfl, hB, hq, hX16⟩ := hcut
                        have hsm := hq.m1
                        have hgs := g.out
                        simp only [Bool.and_eq_true] at hgs
                        have h30 := (chan_small hgs.1 hsm).1
                        clear hgs
                        obtain ⟨x0, x1, x2, _, _, _⟩ := id hX16
                        go_wp2_with fail
                        clear x0 x1 x2
                        go_loopw [30, 31, 234] (fun uv dv i wr => ∃ (k : Nat) (ub db : ByteArray), k ≤ s.length ∧ i = .int .i64 k ∧ uv = .string ub ∧ dv = .string db ∧ (∃ j, j ≤ 26 ∧ j ≤ k ∧ UD j ub db) ∧ Below w.heap.size w wr ∧ CM wr A1 c1 s A2 c2 r A3 c3 h ∧ B3 w21.heap.size (.slice A1 s.length c1) (.slice A2 r.length c2) (.slice A3 h.length c3) wr) (fun _ _ i _ => s.length - (intOf i).toNat)
                        case atStart => exact ⟨0, ⟨#[]⟩, ⟨#[]⟩, Nat.zero_le _, rfl, rfl, rfl, ⟨0, by omega, by omega, UD.nil⟩, hB, hq, hX16⟩
                        case round =>
                          clear hB hq hX16
                          obtain ⟨k, ub, db, hk, rfl, rfl, rfl, ⟨j, hj, hjk, hud⟩, hB, hq, hX16⟩ := hrel
                          have hz := hud.size
                          by_cases hlt : k < s.length
                          · by_cases h26 : k < 26
                            · obtain ⟨L, hL⟩ : ∃ L, Hid (L = ALPH.extract k (k + 1)) := ⟨_, Lib.hid rfl⟩
                              obtain ⟨cc, hc1, hc2⟩ := letter k h26
                              rw [← hL.out] at hc1
                              have hu2 := hud.add hc1 hc2
                              have hLz : L.size = 1 := by rw [Lib.size_eq, hc1]; rfl
                              have hL3 := hL.out.symm
                              unfold ALPH at hL3
                              have h26' : (k : Int) < 26 := by omega
                              have hz1 : ¬ 9223372036854775807 < ub.size + L.size := by omega
                              have hz2 : ¬ 9223372036854775807 < L.size + db.size := by omega
                              replace hu2 := Lib.hid hu2
                              clear hL hc1 hc2 hud
                              go_wp2
                              go_roundw
                              case rel => exact ⟨k + 1, ub ++ L, L ++ db, by omega, by go_num, by first | rfl | rw [hL3], by first | rfl | rw [hL3], ⟨j + 1, by omega, by omega, hu2.out⟩, hB, hq, hX16⟩
                              case measure => simp [intOf]; omega
                            · have h26' : ¬ (k : Int) < 26 := by omega
                              replace hud := Lib.hid hud
                              go_wp2
                              go_roundw
                              case rel => exact ⟨k + 1, ub, db, by omega, by go_num, rfl, rfl, ⟨j, hj, by omega, hud.out⟩, hB, hq, hX16⟩
                              case measure => simp [intOf]; omega
                          · obtain ⟨q, q', t1, t2, hqq, g1, g2, hor⟩ := run_law g.out (by omega) hud
                            clear hud
                            obtain ⟨b1_, b2_, b3_⟩ := chan_small (by simp only [Bool.and_eq_true] at g1; exact g1.1) hsm
                            obtain ⟨b4_, b5_, b6_⟩ := chan_small (by simp only [Bool.and_eq_true] at g2; exact g2.1) hsm
                            have cRi : ∀ W, CM W A1 c1 s A2 c2 r A3 c3 h → Calls Try.prog 18 #[.agg #[.slice A1 s.length c1, .slice A2 r.length c2, .slice A3 h.length c3], .string ub] W (RCX W s q h true) := fun W z => by
                              have := RunDeliveries_implO A1 c1 s A2 c2 r A3 c3 h ub W z.l1 z.m1 z.p1 z.k1 z.l2 z.m2 z.p2 z.k2 z.l3 z.m3 z.p3 z.k3 (by omega)
                              rw [t1] at this
                              exact this
                            have cRs : ∀ W, CM W A1 c1 s A2 c2 r A3 c3 h → Calls Try.prog 19 #[.agg #[.slice A1 s.length c1, .slice A2 r.length c2, .slice A3 h.length c3], .string ub] W (RCB W s q h true) := fun W z => by
                              have := RunDeliveries_spec A1 c1 s A2 c2 r A3 c3 h ub W z.l1 z.m1 z.p1 z.k1 z.l2 z.m2 z.p2 z.k2 z.l3 z.m3 z.p3 z.k3 (by omega)
                              rw [t1] at this
                              exact this
                            have cSi : ∀ W, CM W A1 c1 s A2 c2 r A3 c3 h → Calls Try.prog 18 #[.agg #[.slice A1 s.length c1, .slice A2 r.length c2, .slice A3 h.length c3], .string db] W (RCX W s q' h true) := fun W z => by
                              have := RunDeliveries_implO A1 c1 s A2 c2 r A3 c3 h db W z.l1 z.m1 z.p1 z.k1 z.l2 z.m2 z.p2 z.k2 z.l3 z.m3 z.p3 z.k3 (by omega)
                              rw [t2] at this
                              exact this
                            have cSs : ∀ W, CM W A1 c1 s A2 c2 r A3 c3 h → Calls Try.prog 19 #[.agg #[.slice A1 s.length c1, .slice A2 r.length c2, .slice A3 h.length c3], .string db] W (RCB W s q' h true) := fun W z => by
                              have := RunDeliveries_spec A1 c1 s A2 c2 r A3 c3 h db W z.l1 z.m1 z.p1 z.k1 z.l2 z.m2 z.p2 z.k2 z.l3 z.m3 z.p3 z.k3 (by omega)
                              rw [t2] at this
                              exact this
                            replace hqq := Lib.hid hqq
                            have o1 : ordT s q h f = (ordF q f, true) := (ordT_yes g1).symm
                            have o2 : ordT s q' h f = (ordF q f, true) := by rw [hor]; exact (ordT_yes g2).symm
                            have hol := ordF_len q f
                            clear t1 t2 hor g1 g2
                            obtain ⟨x0, x1, x2, _, _, _⟩ := id hX16
                            go_wp2_with fail
                            refine (cRi _ hq).mono ?_
                            rintro e w41 ⟨F1, i1_1, F2, i1_2, F3, i1_3, rfl, hI_, hb⟩
                            replace hq := hq.below hb
                            replace hX16 := hX16.below hb
                            replace hB := Below.on' hB hb
                            clear hb
                            clear x0 x1 x2
                            replace hI_ := hI_.lift (Nat.zero_le _)
                            have hO34 := hI_
                            clear hI_
                            replace hq := hq.below ((Below.refl _ _).alloc (Nat.le_refl _) (.cells #[.slice F1 s.length i1_1, .slice F2 q.length i1_2, .slice F3 h.length i1_3] 26))
                            replace hX16 := hX16.below ((Below.refl _ _).alloc (Nat.le_refl _) (.cells #[.slice F1 s.length i1_1, .slice F2 q.length i1_2, .slice F3 h.length i1_3] 26))
                            replace hO34 := hO34.below ((Below.refl _ _).alloc (Nat.le_refl _) (.cells #[.slice F1 s.length i1_1, .slice F2 q.length i1_2, .slice F3 h.length i1_3] 26))
                            replace hB := hB.alloc hB.size (.cells #[.slice F1 s.length i1_1, .slice F2 q.length i1_2, .slice F3 h.length i1_3] 26)
                            have hX34 : B3 w41.heap.size (.slice F1 s.length i1_1) (.slice F2 q.length i1_2) (.slice F3 h.length i1_3) (w41.alloc (.cells #[.slice F1 s.length i1_1, .slice F2 q.length i1_2, .slice F3 h.length i1_3] 26)) := B3.new w41 (.slice F1 s.length i1_1) (.slice F2 q.length i1_2) (.slice F3 h.length i1_3) 26 _ rfl
                            obtain ⟨x0, x1, x2, _, _, _⟩ := id hX16
                            go_wp2_with fail
                            refine (cSi _ hq).mono ?_
                            rintro e w42 ⟨G1, i2_1, G2, i2_2, G3, i2_3, rfl, hI_, hb⟩
                            replace hq := hq.below hb
                            replace hX16 := hX16.below hb
                            replace hO34 := hO34.below hb
                            replace hX34 := hX34.below hb
                            replace hB := Below.on' hB hb
                            clear hb
                            clear x0 x1 x2
                            replace hI_ := hI_.lift (Nat.zero_le _)
                            have hO36 := hI_
                            clear hI_
                            replace hq := hq.below ((Below.refl _ _).alloc (Nat.le_refl _) (.cells #[.slice G1 s.length i2_1, .slice G2 q'.length i2_2, .slice G3 h.length i2_3] 26))
                            replace hX16 := hX16.below ((Below.refl _ _).alloc (Nat.le_refl _) (.cells #[.slice G1 s.length i2_1, .slice G2 q'.length i2_2, .slice G3 h.length i2_3] 26))
                            replace hO34 := hO34.below ((Below.refl _ _).alloc (Nat.le_refl _) (.cells #[.slice G1 s.length i2_1, .slice G2 q'.length i2_2, .slice G3 h.length i2_3] 26))
                            replace hX34 := hX34.below ((Below.refl _ _).alloc (Nat.le_refl _) (.cells #[.slice G1 s.length i2_1, .slice G2 q'.length i2_2, .slice G3 h.length i2_3] 26))
                            replace hO36 := hO36.below ((Below.refl _ _).alloc (Nat.le_refl _) (.cells #[.slice G1 s.length i2_1, .slice G2 q'.length i2_2, .slice G3 h.length i2_3] 26))
                            replace hB := hB.alloc hB.size (.cells #[.slice G1 s.length i2_1, .slice G2 q'.length i2_2, .slice G3 h.length i2_3] 26)
                            have hX36 : B3 w42.heap.size (.slice G1 s.length i2_1) (.slice G2 q'.length i2_2) (.slice G3 h.length i2_3) (w42.alloc (.cells #[.slice G1 s.length i2_1, .slice G2 q'.length i2_2, .slice G3 h.length i2_3] 26)) := B3.new w42 (.slice G1 s.length i2_1) (.slice G2 q'.length i2_2) (.slice G3 h.length i2_3) 26 _ rfl
                            obtain ⟨x0, x1, x2, _, _, _⟩ := id hX16
                            go_wp2_with fail
                            refine (cRs _ hq).mono ?_
                            rintro e w43 ⟨H1, i3_1, H2, i3_2, H3, i3_3, rfl, hI_, hb⟩
                            replace hq := hq.below hb
                            replace hX16 := hX16.below hb
                            replace hO34 := hO34.below hb
                            replace hX34 := hX34.below hb
                            replace hO36 := hO36.below hb
                            replace hX36 := hX36.below hb
                            replace hB := Below.on' hB hb
                            clear hb
                            clear x0 x1 x2
                            have hM38 := hI_.mr
                            clear hI_
                            replace hq := hq.below ((Below.refl _ _).alloc (Nat.le_refl _) (.cells #[.slice H1 s.length i3_1, .slice H2 q.length i3_2, .slice H3 h.length i3_3] 26))
                            replace hX16 := hX16.below ((Below.refl _ _).alloc (Nat.le_refl _) (.cells #[.slice H1 s.length i3_1, .slice H2 q.length i3_2, .slice H3 h.length i3_3] 26))
                            replace hO34 := hO34.below ((Below.refl _ _).alloc (Nat.le_refl _) (.cells #[.slice H1 s.length i3_1, .slice H2 q.length i3_2, .slice H3 h.length i3_3] 26))
                            replace hX34 := hX34.below ((Below.refl _ _).alloc (Nat.le_refl _) (.cells #[.slice H1 s.length i3_1, .slice H2 q.length i3_2, .slice H3 h.length i3_3] 26))
                            replace hO36 := hO36.below ((Below.refl _ _).alloc (Nat.le_refl _) (.cells #[.slice H1 s.length i3_1, .slice H2 q.length i3_2, .slice H3 h.length i3_3] 26))
                            replace hX36 := hX36.below ((Below.refl _ _).alloc (Nat.le_refl _) (.cells #[.slice H1 s.length i3_1, .slice H2 q.length i3_2, .slice H3 h.length i3_3] 26))
                            replace hM38 := hM38.below ((Below.refl _ _).alloc (Nat.le_refl _) (.cells #[.slice H1 s.length i3_1, .slice H2 q.length i3_2, .slice H3 h.length i3_3] 26))
                            replace hB := hB.alloc hB.size (.cells #[.slice H1 s.length i3_1, .slice H2 q.length i3_2, .slice H3 h.length i3_3] 26)
                            have hX38 : B3 w43.heap.size (.slice H1 s.length i3_1) (.slice H2 q.length i3_2) (.slice H3 h.length i3_3) (w43.alloc (.cells #[.slice H1 s.length i3_1, .slice H2 q.length i3_2, .slice H3 h.length i3_3] 26)) := B3.new w43 (.slice H1 s.length i3_1) (.slice H2 q.length i3_2) (.slice H3 h.length i3_3) 26 _ rfl
                            obtain ⟨x0, x1, x2, _, _, _⟩ := id hX16
                            go_wp2_with fail
                            refine (cSs _ hq).mono ?_
                            rintro e w44 ⟨K1, i4_1, K2, i4_2, K3, i4_3, rfl, hI_, hb⟩
                            replace hq := hq.below hb
                            replace hX16 := hX16.below hb
                            replace hO34 := hO34.below hb
                            replace hX34 := hX34.below hb
                            replace hO36 := hO36.below hb
                            replace hX36 := hX36.below hb
                            replace hM38 := hM38.below hb
                            replace hX38 := hX38.below hb
                            replace hB := Below.on' hB hb
                            clear hb
                            clear x0 x1 x2
                            have hM40 := hI_.mr
                            clear hI_
                            replace hq := hq.below ((Below.refl _ _).alloc (Nat.le_refl _) (.cells #[.slice K1 s.length i4_1, .slice K2 q'.length i4_2, .slice K3 h.length i4_3] 26))
                            replace hX16 := hX16.below ((Below.refl _ _).alloc (Nat.le_refl _) (.cells #[.slice K1 s.length i4_1, .slice K2 q'.length i4_2, .slice K3 h.length i4_3] 26))
                            replace hO34 := hO34.below ((Below.refl _ _).alloc (Nat.le_refl _) (.cells #[.slice K1 s.length i4_1, .slice K2 q'.length i4_2, .slice K3 h.length i4_3] 26))
                            replace hX34 := hX34.below ((Below.refl _ _).alloc (Nat.le_refl _) (.cells #[.slice K1 s.length i4_1, .slice K2 q'.length i4_2, .slice K3 h.length i4_3] 26))
                            replace hO36 := hO36.below ((Below.refl _ _).alloc (Nat.le_refl _) (.cells #[.slice K1 s.length i4_1, .slice K2 q'.length i4_2, .slice K3 h.length i4_3] 26))
                            replace hX36 := hX36.below ((Below.refl _ _).alloc (Nat.le_refl _) (.cells #[.slice K1 s.length i4_1, .slice K2 q'.length i4_2, .slice K3 h.length i4_3] 26))
                            replace hM38 := hM38.below ((Below.refl _ _).alloc (Nat.le_refl _) (.cells #[.slice K1 s.length i4_1, .slice K2 q'.length i4_2, .slice K3 h.length i4_3] 26))
                            replace hX38 := hX38.below ((Below.refl _ _).alloc (Nat.le_refl _) (.cells #[.slice K1 s.length i4_1, .slice K2 q'.length i4_2, .slice K3 h.length i4_3] 26))
                            replace hM40 := hM40.below ((Below.refl _ _).alloc (Nat.le_refl _) (.cells #[.slice K1 s.length i4_1, .slice K2 q'.length i4_2, .slice K3 h.length i4_3] 26))
                            replace hB := hB.alloc hB.size (.cells #[.slice K1 s.length i4_1, .slice K2 q'.length i4_2, .slice K3 h.length i4_3] 26)
                            have hX40 : B3 w44.heap.size (.slice K1 s.length i4_1) (.slice K2 q'.length i4_2) (.slice K3 h.length i4_3) (w44.alloc (.cells #[.slice K1 s.length i4_1, .slice K2 q'.length i4_2, .slice K3 h.length i4_3] 26)) := B3.new w44 (.slice K1 s.length i4_1) (.slice K2 q'.length i4_2) (.slice K3 h.length i4_3) 26 _ rfl
                            clear cRi cRs cSi cSs
                            obtain ⟨x34_0, x34_1, x34_2, _, _, _⟩ := id hX34
                            obtain ⟨x38_0, x38_1, x38_2, _, _, _⟩ := id hX38
                            obtain ⟨x36_0, x36_1, x36_2, _, _, _⟩ := id hX36
                            obtain ⟨x40_0, x40_1, x40_2, _, _, _⟩ := id hX40
                            go_wp2_with fail
                            refine (pSameChannel_any F1 i1_1 F2 i1_2 F3 i1_3 H1 i3_1 H2 i3_2 H3 i3_3 s q h _ (by omega) (by omega) (by omega) hO34.mr.p1 hO34.mr.p2 hO34.mr.p3 hM38.p1 hM38.p2 hM38.p3).mono ?_
                            rintro e v1_ ⟨rfl, hb⟩
                            replace hq := hq.below hb
                            replace hX16 := hX16.below hb
                            replace hO34 := hO34.below hb
                            replace hX34 := hX34.below hb
                            replace hO36 := hO36.below hb
                            replace hX36 := hX36.below hb
                            replace hM38 := hM38.below hb
                            replace hX38 := hX38.below hb
                            replace hM40 := hM40.below hb
                            replace hX40 := hX40.below hb
                            replace hB := Below.on' hB hb
                            clear hb
                            clear x34_0 x34_1 x34_2 x38_0 x38_1 x38_2 x36_0 x36_1 x36_2 x40_0 x40_1 x40_2
                            obtain ⟨x34_0, x34_1, x34_2, _, _, _⟩ := id hX34
                            obtain ⟨x38_0, x38_1, x38_2, _, _, _⟩ := id hX38
                            obtain ⟨x36_0, x36_1, x36_2, _, _, _⟩ := id hX36
                            obtain ⟨x40_0, x40_1, x40_2, _, _, _⟩ := id hX40
                            have hqi : ((q.length : Nat) : Int) = (q'.length : Int) := by have := hqq.out; omega
                            go_wp2_with fail
                            refine (pSameChannel_any G1 i2_1 G2 i2_2 G3 i2_3 K1 i4_1 K2 i4_2 K3 i4_3 s q' h _ (by omega) (by omega) (by omega) hO36.mr.p1 hO36.mr.p2 hO36.mr.p3 hM40.p1 hM40.p2 hM40.p3).mono ?_
                            rintro e v2_ ⟨rfl, hb⟩
                            replace hq := hq.below hb
                            replace hX16 := hX16.below hb
                            replace hO34 := hO34.below hb
                            replace hX34 := hX34.below hb
                            replace hO36 := hO36.below hb
                            replace hX36 := hX36.below hb
                            replace hM38 := hM38.below hb
                            replace hX38 := hX38.below hb
                            replace hM40 := hM40.below hb
                            replace hX40 := hX40.below hb
                            replace hB := Below.on' hB hb
                            clear hb
                            clear x34_0 x34_1 x34_2 x38_0 x38_1 x38_2 x36_0 x36_1 x36_2 x40_0 x40_1 x40_2
                            obtain ⟨x34_0, x34_1, x34_2, _, _, _⟩ := id hX34
                            obtain ⟨x38_0, x38_1, x38_2, _, _, _⟩ := id hX38
                            obtain ⟨x36_0, x36_1, x36_2, _, _, _⟩ := id hX36
                            obtain ⟨x40_0, x40_1, x40_2, _, _, _⟩ := id hX40
                            go_upto_region 46 with fail
                            clear hqi
                            go_wp2_with fail
                            have cF := InOrder_impl F1 i1_1 s F2 i1_2 q F3 i1_3 h f _ (by omega) hsm hO34.mr.p1 hO34.o1.cap (by omega) b2_ hO34.mr.p2 hO34.o2.cap (by omega) b3_ hO34.mr.p3 hO34.o3.cap (by omega)
                            rw [o1] at cF
                            refine cF.mono ?_
                            rintro e v3_ ⟨P1, p1, rfl, hS1, _, hb⟩
                            clear cF
                            replace hq := hq.below hb
                            replace hX16 := hX16.below hb
                            replace hO34 := hO34.below hb
                            replace hX34 := hX34.below hb
                            replace hO36 := hO36.below hb
                            replace hX36 := hX36.below hb
                            replace hM38 := hM38.below hb
                            replace hX38 := hX38.below hb
                            replace hM40 := hM40.below hb
                            replace hX40 := hX40.below hb
                            replace hB := Below.on' hB hb
                            clear hb
                            clear x34_0 x34_1 x34_2 x38_0 x38_1 x38_2 x36_0 x36_1 x36_2 x40_0 x40_1 x40_2
                            obtain ⟨x0, x1, x2, _, _, _⟩ := id hX36
                            go_wp2_with fail
                            have cF := InOrder_impl G1 i2_1 s G2 i2_2 q' G3 i2_3 h f _ (by omega) hsm hO36.mr.p1 hO36.o1.cap (by omega) b5_ hO36.mr.p2 hO36.o2.cap (by omega) b6_ hO36.mr.p3 hO36.o3.cap (by omega)
                            rw [o2] at cF
                            refine cF.mono ?_
                            rintro e v4_ ⟨P2, p2, rfl, hS2, _, hb⟩
                            clear cF
                            replace hS1 := hS1.below hb
                            replace hB := Below.on' hB hb
                            clear hb x0 x1 x2
                            go_wp2_with fail
                            refine (pSameTexts_any P1 P2 p1 p2 _ _ _ _ (ordF q f) _ (by omega) hS1 hS2).mono ?_
                            rintro e v5_ ⟨rfl, hb⟩
                            replace hB := Below.on' hB hb
                            clear hb
                            go_wp2_with fail
                            go_meet
                            exact ⟨rfl, hB⟩
                case rest =>
                  as_aux_lemma =>
                    obtain ⟨rfl, hI⟩ := hcut
                    clear f2 hOl hf
                    have hB := hI
                    clear hI
                    go_wp2_with fail
                    refine (DrawRunDeliveries_any Amo cmo mo _ hl2 hmmo (hSmo.below hB).all).mono ?_
                    rintro e w61 ⟨A1, c1, s, A2, c2, r, A3, c3, h, p, rfl, hp, ⟨hl, hm, hO⟩, hb⟩
                    replace hB := Below.on' hB hb
                    clear hb
                    have hq : CM w61 A1 c1 s A2 c2 r A3 c3 h := CM.own hO (by omega) hm.1.big (by omega) hm.2.1.big (by omega) hm.2.2.big
                    clear hO
                    replace hq := hq.below ((Below.refl _ _).alloc (Nat.le_refl _) (.cells #[.slice A1 s.length c1, .slice A2 r.length c2, .slice A3 h.length c3] 26))
                    replace hB := hB.alloc hB.size (.cells #[.slice A1 s.length c1, .slice A2 r.length c2, .slice A3 h.length c3] 26)
                    have hX46 : B3 w61.heap.size (.slice A1 s.length c1) (.slice A2 r.length c2) (.slice A3 h.length c3) (w61.alloc (.cells #[.slice A1 s.length c1, .slice A2 r.length c2, .slice A3 h.length c3] 26)) := B3.new w61 (.slice A1 s.length c1) (.slice A2 r.length c2) (.slice A3 h.length c3) 26 _ rfl
                    obtain ⟨s2, r2, h2, ok, hT⟩ : ∃ s2 r2 h2 ok, Hid (runT s r h p = ((s2, r2, h2), ok)) := ⟨_, _, _, _, Lib.hid rfl⟩
                    have cRi : ∀ W, CM W A1 c1 s A2 c2 r A3 c3 h → Calls Try.prog 18 #[.agg #[.slice A1 s.length c1, .slice A2 r.length c2, .slice A3 h.length c3], .string p] W (RCX W s2 r2 h2 ok) := fun W z => by
                      have := RunDeliveries_implO A1 c1 s A2 c2 r A3 c3 h p W z.l1 z.m1 z.p1 z.k1 z.l2 z.m2 z.p2 z.k2 z.l3 z.m3 z.p3 z.k3 (by omega)
                      rw [hT.out] at this
                      exact this
                    have cRs : ∀ W, CM W A1 c1 s A2 c2 r A3 c3 h → Calls Try.prog 19 #[.agg #[.slice A1 s.length c1, .slice A2 r.length c2, .slice A3 h.length c3], .string p] W (RCB W s2 r2 h2 ok) := fun W z => by
                      have := RunDeliveries_spec A1 c1 s A2 c2 r A3 c3 h p W z.l1 z.m1 z.p1 z.k1 z.l2 z.m2 z.p2 z.k2 z.l3 z.m3 z.p3 z.k3 (by omega)
                      rw [hT.out] at this
                      exact this
                    have n2 : s2.length ≤ 1048576 ∧ r2.length ≤ 1048576 ∧ h2.length ≤ 1048576 := by
                      have := runT_len (p := p) hq.l1 hq.l2 hq.l3
                      rw [hT.out] at this
                      exact this
                    have f1 : ok = true → s2 = s ∧ chanB s r2 h2 = true ∧ r.length ≤ r2.length ∧ h.length ≤ h2.length := fun g => by
                      obtain ⟨q, q', e, k1, k2, k3⟩ := runT_law (s := s) (r := r) (h := h) (p := p) (by rw [hT.out]; exact g)
                      rw [hT.out] at e
                      injection e with e1 _
                      injection e1 with e1 e2
                      injection e2 with e2 e3
                      rw [e1, e2, e3]
                      exact ⟨rfl, k1, k2, k3⟩
                    have hsm := hm.1.big
                    clear hT hm hl
                    replace f1 := Lib.hid f1
                    obtain ⟨x0, x1, x2, _, _, _⟩ := id hX46
                    go_wp2_with fail
                    refine (cRi _ hq).mono ?_
                    rintro e w62 ⟨D1, d1, D2, d2, D3, d3, rfl, hO2, hb⟩
                    replace hq := hq.below hb
                    replace hX46 := hX46.below hb
                    replace hB := Below.on' hB hb
                    clear hb
                    clear x0 x1 x2
                    replace hO2 := hO2.lift (Nat.zero_le _)
                    replace hq := hq.below ((Below.refl _ _).alloc (Nat.le_refl _) (.cells #[.slice D1 s2.length d1, .slice D2 r2.length d2, .slice D3 h2.length d3] 26))
                    replace hX46 := hX46.below ((Below.refl _ _).alloc (Nat.le_refl _) (.cells #[.slice D1 s2.length d1, .slice D2 r2.length d2, .slice D3 h2.length d3] 26))
                    replace hO2 := hO2.below ((Below.refl _ _).alloc (Nat.le_refl _) (.cells #[.slice D1 s2.length d1, .slice D2 r2.length d2, .slice D3 h2.length d3] 26))
                    replace hB := hB.alloc hB.size (.cells #[.slice D1 s2.length d1, .slice D2 r2.length d2, .slice D3 h2.length d3] 26)
                    have hX48 : B3 w62.heap.size (.slice D1 s2.length d1) (.slice D2 r2.length d2) (.slice D3 h2.length d3) (w62.alloc (.cells #[.slice D1 s2.length d1, .slice D2 r2.length d2, .slice D3 h2.length d3] 26)) := B3.new w62 (.slice D1 s2.length d1) (.slice D2 r2.length d2) (.slice D3 h2.length d3) 26 _ rfl
                    obtain ⟨x0, x1, x2, _, _, _⟩ := id hX46
                    go_wp2_with fail
                    refine (cRs _ hq).mono ?_
                    rintro e w63 ⟨E1, e1, E2, e2, E3, e3, rfl, hI, hb⟩
                    replace hq := hq.below hb
                    replace hX46 := hX46.below hb
                    replace hO2 := hO2.below hb
                    replace hX48 := hX48.below hb
                    replace hB := Below.on' hB hb
                    clear hb
                    clear x0 x1 x2
                    have hMR := hI.mr
                    clear hI cRi cRs
                    replace hq := hq.below ((Below.refl _ _).alloc (Nat.le_refl _) (.cells #[.slice E1 s2.length e1, .slice E2 r2.length e2, .slice E3 h2.length e3] 26))
                    replace hX46 := hX46.below ((Below.refl _ _).alloc (Nat.le_refl _) (.cells #[.slice E1 s2.length e1, .slice E2 r2.length e2, .slice E3 h2.length e3] 26))
                    replace hO2 := hO2.below ((Below.refl _ _).alloc (Nat.le_refl _) (.cells #[.slice E1 s2.length e1, .slice E2 r2.length e2, .slice E3 h2.length e3] 26))
                    replace hX48 := hX48.below ((Below.refl _ _).alloc (Nat.le_refl _) (.cells #[.slice E1 s2.length e1, .slice E2 r2.length e2, .slice E3 h2.length e3] 26))
                    replace hMR := hMR.below ((Below.refl _ _).alloc (Nat.le_refl _) (.cells #[.slice E1 s2.length e1, .slice E2 r2.length e2, .slice E3 h2.length e3] 26))
                    replace hB := hB.alloc hB.size (.cells #[.slice E1 s2.length e1, .slice E2 r2.length e2, .slice E3 h2.length e3] 26)
                    have hX50 : B3 w63.heap.size (.slice E1 s2.length e1) (.slice E2 r2.length e2) (.slice E3 h2.length e3) (w63.alloc (.cells #[.slice E1 s2.length e1, .slice E2 r2.length e2, .slice E3 h2.length e3] 26)) := B3.new w63 (.slice E1 s2.length e1) (.slice E2 r2.length e2) (.slice E3 h2.length e3) 26 _ rfl
                    go_upto_region 53 with fail
                    go_cut [358] from 383 (fun v wx => v = .bool false ∧ Below w.heap.size w wx ∧ B3 w61.heap.size (.slice A1 s.length c1) (.slice A2 r.length c2) (.slice A3 h.length c3) wx ∧ B3 w62.heap.size (.slice D1 s2.length d1) (.slice D2 r2.length d2) (.slice D3 h2.length d3) wx ∧ B3 w63.heap.size (.slice E1 s2.length e1) (.slice E2 r2.length e2) (.slice E3 h2.length e3) wx ∧ OwnC wx 0 D1 d1 s2 D2 d2 r2 D3 d3 h2)
                    case first =>
                      as_aux_lemma =>
                        clear f1
                        cases ok with
                        | false =>
                          obtain ⟨x0, x1, x2, _, _, _⟩ := id hX48
                          obtain ⟨y0, y1, y2, _, _, _⟩ := id hX50
                          go_wp2_with fail
                          refine (pSameChannel_any D1 d1 D2 d2 D3 d3 E1 e1 E2 e2 E3 e3 s2 r2 h2 _ n2.1 n2.2.1 n2.2.2 hO2.mr.p1 hO2.mr.p2 hO2.mr.p3 hMR.p1 hMR.p2 hMR.p3).mono ?_
                          rintro e v1 ⟨rfl, hb⟩
                          replace hX46 := hX46.below hb
                          replace hX48 := hX48.below hb
                          replace hX50 := hX50.below hb
                          replace hO2 := hO2.below hb
                          replace hMR := hMR.below hb
                          replace hB := Below.on' hB hb
                          clear hb
                          clear x0 x1 x2 y0 y1 y2
                          go_wp2_with fail
                          go_meet
                          exact ⟨rfl, hB, hX46, hX48, hX50, hO2⟩
                        | true =>
                          obtain ⟨x0, x1, x2, _, _, _⟩ := id hX48
                          obtain ⟨y0, y1, y2, _, _, _⟩ := id hX50
                          go_wp2_with fail
                          refine (pSameChannel_any D1 d1 D2 d2 D3 d3 E1 e1 E2 e2 E3 e3 s2 r2 h2 _ n2.1 n2.2.1 n2.2.2 hO2.mr.p1 hO2.mr.p2 hO2.mr.p3 hMR.p1 hMR.p2 hMR.p3).mono ?_
                          rintro e v1 ⟨rfl, hb⟩
                          replace hX46 := hX46.below hb
                          replace hX48 := hX48.below hb
                          replace hX50 := hX50.below hb
                          replace hO2 := hO2.below hb
                          replace hMR := hMR.below hb
                          replace hB := Below.on' hB hb
                          clear hb
                          clear x0 x1 x2 y0 y1 y2
                          go_wp2_with fail
                          go_meet
                          exact ⟨rfl, hB, hX46, hX48, hX50, hO2⟩
                    case rest =>
                      as_aux_lemma =>
                        obtain ⟨rfl, hI⟩ := hcut
                        clear hB hq hX46 hX48 hX50 hO2 hMR
                        obtain ⟨hB, hX46, hX48, hX50, hO2⟩ := hI
                        cases ok with
                        | false =>
                          clear f1
                          go_wp2
                          go_ret
                          exact ⟨rfl, hB⟩
                        | true =>
                          obtain ⟨e, g1, g2, g3⟩ := f1.out rfl
                          clear f1
                          subst e
                          obtain ⟨b1_, b2_, b3_⟩ := chan_small g1 hsm
                          have hQ2 := CM.own hO2 n2.1 hsm n2.2.1 b2_ n2.2.2 b3_
                          replace g1 := Lib.hid g1
                          obtain ⟨x0, x1, x2, _, _, _⟩ := id hX48
                          go_wp2_with fail
                          refine (IsChannel_impl D1 d1 _ D2 d2 r2 D3 d3 h2 _ hQ2.l1 hQ2.m1 hQ2.p1 hQ2.k1 hQ2.l2 hQ2.m2 hQ2.p2 hQ2.k2 hQ2.l3 hQ2.m3 hQ2.p3 hQ2.k3).mono ?_
                          rintro e v1 ⟨rfl, hb⟩
                          rw [g1.out]
                          replace hB := Below.on' hB hb
                          clear x0 x1 x2
                          obtain ⟨x0, x1, x2, _, _, _⟩ := hX46.below hb
                          obtain ⟨y0, y1, y2, _, _, _⟩ := hX50.below hb
                          have j1 : ((r.length : Nat) : Int) ≤ (r2.length : Int) := by omega
                          have j2 : ((h.length : Nat) : Int) ≤ (h2.length : Int) := by omega
                          clear hb
                          go_wp2
                          go_ret
                          exact ⟨rfl, hB⟩

set_option maxRecDepth 100000 in
theorem lifted (os : Os) (started : os.Started) (H : Type) (enc : TypeId × Value → H) :
    ReturnsInHanded {} Try.checked os 3 .any (Rows.fnChannelsSpec.pre6 enc Try.prog Try.f3 Rows.fnChannelsRow.domain false) (Rows.fnChannelsSpec.post enc Try.prog Try.f3 false true false false) := by
  refine law_lifted (C := Try.checked) own started (by kernel_rfl) Try.func3
    (ChangeSpec.witness6 (enc := enc) (C := Try.checked) false ⟨#[], #[.slice none 0 0, .slice none 0 0], []⟩ 8 (by kernel_rfl) (by kernel_rfl) (by kernel_rfl) (by kernel_rfl))
    laidOut 4 (by kernel_rfl) Try.underlying4 (by kernel_rfl) rfl ?_ ?_
  · intro ds hds
    have hn : Try.f3.params.size = 2 := by kernel_rfl
    rw [hn] at hds
    match ds, hds with
    | [d0, d1], _ => rfl
  intro W base args ds p hval0 hA0 hlt hnf hsh
  have hval : ∀ (j : Nat) t v, Try.f3.params[j]? = some t → args[j]? = some v → Value.okWide Try.prog W .any base t v := hval0
  have hA : DataW.TrodAll enc Try.prog W 0 (fun _ => true) true Try.f3.params.toList args.toList ds p := hA0
  clear hval0 hA0
  rw [Try.params3] at hA hval
  obtain ⟨v0, vs0, d0, ds0, p0, q0, hargs, rfl, rfl, h0, r0⟩ := trodAll_cons hA
  obtain ⟨v1, vs1, d1, ds1, p1, q1, rfl, rfl, rfl, h1, r1⟩ := trodAll_cons r0
  obtain ⟨rfl, rfl, rfl⟩ := trodAll_nil r1
  obtain rfl : args = #[v0, v1] := by cases args; simp_all
  obtain ⟨Aco, cco, co, rfl, hlco, hmco, hSco⟩ := Byt.openedS (hval 0 22 v0 rfl rfl) h0 (fun x hx => hlt x (by simp [hx])) (fun b o h => hnf b o (by simp [h]))
  obtain ⟨Amo, cmo, mo, rfl, hlmo, hmmo, hSmo⟩ := Byt.openedS (hval 1 22 v1 rfl rfl) h1 (fun x hx => hlt x (by simp [hx])) (fun b o h => hnf b o (by simp [h]))
  exact walk Aco cco co hlco hmco Amo cmo mo hlmo hmmo W hSco hSmo

theorem over : Rows.fnChannelsRow.holds Try.pinned (OpenSpec.ofChange Rows.fnChannelsSpec) :=
  OpenClaim.holds_of_wide 3 Try.f3 rfl rfl rfl rfl rfl rfl rfl ⟨rfl, rfl, rfl, rfl, rfl⟩ rfl rfl rfl rfl rfl (by kernel_rfl) Try.func3 (by kernel_rfl)
    (of_decide_eq_true (by kernel_rfl)) (by unfold Func.isWrapper; first | (rw [if_pos (by decide +kernel)]; kernel_rfl) | (rw [if_neg (by decide +kernel)]; exact ⟨rfl, rfl⟩))
    (fun os started H enc _ => lifted os started H enc)

theorem proved : Rows.FnChannelsSaid :=
  over
#print axioms proved
end Go.Proofs.Ytacjdapfbmdddaa.lawChannels
