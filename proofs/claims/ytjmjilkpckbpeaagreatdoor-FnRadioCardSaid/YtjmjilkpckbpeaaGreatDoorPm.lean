/- Reading a message's text, by the program and by the reference. Conditions: texts of at most 2^20; the listed variables as Said and MaxL have them. -/
import Derived.Test.YtjmjilkpckbpeaaGreatDoorMsgT
import Derived.Test.YtjmjilkpckbpeaaGreatDoorRd
import Derived.Test.YtjmjilkpckbpeaaGreatDoorLR
import Derived.Test.YtjmjilkpckbpeaaGreatDoorBox
import Derived.Test.YtjmjilkpckbpeaaGreatDoorLA
import Derived.Test.YtjmjilkpckbpeaaGreatDoorCutA
namespace Go.Proofs.YtjmjilkpckbpeaaGreatDoor
open Go.RowKit

/-- What reading a message returns. -/
def PmR (w : World) (s : ByteArray) (e : Ending) (w' : World) : Prop := ∃ (m : Msg) (b : Bool), e = .returned (.tuple #[.agg #[.string m.f, .int .i64 m.n, .string m.b], .bool b]) ∧
  Hid ((b = true → msgB m = true ∧ (msgT m).data.toList = s.data.toList) ∧ (b = false → m = ⟨⟨#[]⟩, 0, ⟨#[]⟩⟩) ∧ ∀ m', msgB m' = true → (msgT m').data.toList = s.data.toList → b = true ∧ m = m') ∧ Below w.heap.size w w'
theorem PmR.no {w w' : World} {s : ByteArray} (h : ∀ m, msgB m = true → (msgT m).data.toList ≠ s.data.toList) (hb : Below w.heap.size w w') : PmR w s (.returned (.tuple #[.agg #[.string ⟨#[]⟩, .int .i64 0, .string ⟨#[]⟩], .bool false])) w' :=
  ⟨⟨⟨#[]⟩, 0, ⟨#[]⟩⟩, false, rfl, Lib.hid ⟨fun h => (by cases h), fun _ => rfl, fun m h1 h2 => absurd h2 (h m h1)⟩, hb⟩
theorem PmR.yes {w w' : World} {s : ByteArray} {m : Msg} (h : msgB m = true) (ht : (msgT m).data.toList = s.data.toList) (hu : ∀ m', msgB m' = true → (msgT m').data.toList = s.data.toList → m' = m) (hb : Below w.heap.size w w') : PmR w s (.returned (.tuple #[.agg #[.string m.f, .int .i64 m.n, .string m.b], .bool true])) w' :=
  ⟨m, true, rfl, Lib.hid ⟨fun _ => ⟨h, ht⟩, fun h => (by cases h), fun m' h1 h2 => ⟨rfl, (hu m' h1 h2).symm⟩⟩, hb⟩
theorem len_two {α : Type} {l : List α} (h : l.length = 2) : ∃ a b, l = [a, b] := by
  match l, h with
  | [a, b], _ => exact ⟨a, b, rfl⟩
theorem str_data {a b : ByteArray} (h : a.toList = b.toList) : a.data.toList = b.data.toList := by rwa [Go.ByteArray.toList_eq, Go.ByteArray.toList_eq] at h
theorem data_inj {a b : ByteArray} (h : a.data.toList = b.data.toList) : a = b := by
  apply ByteArray.ext
  apply Array.ext'
  exact h
theorem size_of_data {a b : ByteArray} (h : a.data.toList = b.data.toList) : a.size = b.size := by rw [Lib.size_eq, Lib.size_eq, h]
/-- What the parts of a valid text are. -/
theorem msg_split {m : Msg} (h : msgB m = true) {s : ByteArray} (hs : (msgT m).data.toList = s.data.toList) : splitS 58 [] s.data.toList = [m.f.data.toList ++ 35 :: Lib.decDigits m.n.toNat, m.b.data.toList] ∧ splitS 35 [] (m.f.data.toList ++ 35 :: Lib.decDigits m.n.toNat) = [m.f.data.toList, Lib.decDigits m.n.toNat] ∧ s.size ≤ 23 := by
  obtain ⟨p1, p2, p3, p4, p5⟩ := msg_parts h
  refine ⟨?_, ?_, by rw [← size_of_data hs]; exact p5⟩
  · rw [← hs, msgT_data, splitS_cut [] _ p1, splitS_none [] p2, List.append_nil]
  · rw [splitS_cut [] _ p3, splitS_none [] p4, List.append_nil]
def SplR (w : World) (s : ByteArray) (b : UInt8) (e : Ending) (w' : World) : Prop := ∃ A c L, e = .returned (.slice A L.length c) ∧ Own Strs.cells 1 9 w' w.heap.size A c L ∧ (L.length ≤ s.size + 1 ∧ ∀ x ∈ L, x.size ≤ s.size) ∧ Hid (L.map (fun x => x.data.toList) = splitS b [] s.data.toList) ∧ Below w.heap.size w w'
set_option maxRecDepth 100000 in
set_option maxHeartbeats 8000000 in
theorem ParseMessage_spec (s : ByteArray) (hs : s.size ≤ 1048576) (w : World) : Calls Tryz.prog 27 #[.string s] w (PmR w s) := by
  have hc1 : ∀ W, Calls Tryz.prog 93 #[.string s, .int .u8 58] W (SplR W s 58) := fun W => l1Split_any s 58 hs W
  have hR := R3.new w (.string ⟨#[]⟩) (.int .i64 0) (.string ⟨#[]⟩) 33 _ rfl
  go_enter Tryz.func27, Tryz.ntmps27
  go_wp2_with fail
  refine (hc1 _).mono ?_
  rintro e w1 ⟨A, c, L, rfl, hO, ⟨hL1, hL2⟩, HL, hb⟩
  replace hR := hR.below hb
  have hB : Below w.heap.size w w1 := Below.on' (by go_grown) hb
  have hwl := hR.lt
  clear hb hc1
  by_cases h30 : s.size ≤ 30
  rotate_left
  · have h30' : (30 : Int) < s.size := by omega
    obtain ⟨k0, k1, k2, g0, g1, g2⟩ := id hR
    obtain ⟨y0, y1, y2⟩ := hR.out (.string ⟨#[]⟩) (.int .i64 0) (.string ⟨#[]⟩)
    have HNO := Lib.hid (show ∀ m, msgB m = true → (msgT m).data.toList ≠ s.data.toList from fun m h1 h2 => h30 (by have := (msg_split h1 h2).2.2; omega))
    go_wp2
    refine bodyPost_ret (by simp [results, Tryz.results27, go_sem, y0, y1, y2]; try rfl) rfl ?_
    exact PmR.no HNO.out (by go_grown)
  have h30' : (s.size : Int) ≤ 30 := by omega
  by_cases h2 : L.length = 2
  rotate_left
  · have h2' : ((L.length : Int) != 2) = true := by simp; omega
    obtain ⟨k0, k1, k2, g0, g1, g2⟩ := id hR
    obtain ⟨y0, y1, y2⟩ := hR.out (.string ⟨#[]⟩) (.int .i64 0) (.string ⟨#[]⟩)
    have HNO := Lib.hid (show ∀ m, msgB m = true → (msgT m).data.toList ≠ s.data.toList from fun m h1 h3 => h2 (by have := HL.out; rw [(msg_split h1 h3).1] at this; have := congrArg List.length this; simpa using this))
    go_wp2
    refine bodyPost_ret (by simp [results, Tryz.results27, go_sem, y0, y1, y2]; try rfl) rfl ?_
    exact PmR.no HNO.out (by go_grown)
  obtain ⟨x0, x1, rfl⟩ := len_two h2
  have hx0 := hL2 x0 (by simp)
  have hx1' := hL2 x1 (by simp)
  have hS1 := hO.sl Strs.len
  obtain ⟨ab, ao, rfl, _, _, _, a0, _⟩ := Strs.at1 hS1 (i := 0) rfl
  obtain ⟨_, _, e, _, _, _, a1, _⟩ := Strs.at1 hS1 (i := 1) rfl
  cases e
  rw [Nat.add_zero] at a0
  have hc2 : ∀ W, Calls Tryz.prog 93 #[.string x0, .int .u8 35] W (SplR W x0 35) := fun W => l1Split_any x0 35 (by omega) W
  clear hO hS1 hL1 hL2 h2
  go_wp2_with fail
  refine (hc2 _).mono ?_
  rintro e w2 ⟨A2, c2, L2, rfl, hO, ⟨hL1, hL2⟩, HL2, hb⟩
  replace hR := hR.below hb
  replace hB := Below.on' hB hb
  replace a1 := keep hb a1
  clear hb hc2 a0
  by_cases h2 : L2.length = 2
  rotate_left
  · have h2' : ((L2.length : Int) != 2) = true := by simp; omega
    obtain ⟨k0, k1, k2, g0, g1, g2⟩ := id hR
    obtain ⟨y0, y1, y2⟩ := hR.out (.string ⟨#[]⟩) (.int .i64 0) (.string ⟨#[]⟩)
    have HNO := Lib.hid (show ∀ m, msgB m = true → (msgT m).data.toList ≠ s.data.toList from fun m h1 h3 => h2 (by
      obtain ⟨p1, p2, _⟩ := msg_split h1 h3
      have q1 := HL.out
      rw [p1] at q1
      have q2 : x0.data.toList = _ := (List.cons.inj q1).1
      have q3 := HL2.out
      rw [q2, p2] at q3
      have := congrArg List.length q3
      simpa using this))
    go_wp2
    refine bodyPost_ret (by simp [results, Tryz.results27, go_sem, y0, y1, y2]; try rfl) rfl ?_
    exact PmR.no HNO.out (by go_grown)
  obtain ⟨v0, v1, rfl⟩ := len_two h2
  have hv0 := hL2 v0 (by simp)
  have hv1 := hL2 v1 (by simp)
  have hS2 := hO.sl Strs.len
  obtain ⟨bb, bo, rfl, _, _, _, b0, _⟩ := Strs.at1 hS2 (i := 0) rfl
  obtain ⟨_, _, e, _, _, _, b1, _⟩ := Strs.at1 hS2 (i := 1) rfl
  cases e
  rw [Nat.add_zero] at b0
  have hc3 := fun W => l1Read_any v1 (by omega) W
  have HU0 : Hid (∀ n : Int, (∀ q : Nat, q < 1000000 → v1.data.toList = Lib.decDigits q → n = q) → ∀ m, msgB m = true → (msgT m).data.toList = s.data.toList → m = ⟨v0, n, x1⟩) := Lib.hid (fun n hn m h1 h3 => by
    obtain ⟨p1, p2, _⟩ := msg_split h1 h3
    have q1 := HL.out
    rw [p1] at q1
    have q2 : x0.data.toList = _ := (List.cons.inj q1).1
    have q4 := (List.cons.inj q1).2
    have q3 := HL2.out
    rw [q2, p2] at q3
    have q5 : v0.data.toList = _ := (List.cons.inj q3).1
    have q6 := (List.cons.inj q3).2
    have q7 : v1.data.toList = _ := (List.cons.inj q6).1
    have q8 : x1.data.toList = _ := (List.cons.inj q4).1
    have hm := (msgB_in h1).2.1
    have hn' := hn m.n.toNat (by omega) q7
    obtain ⟨mf, mn, mb⟩ := m
    have e1 : v0 = mf := data_inj q5
    have e2 : x1 = mb := data_inj q8
    simp only at hn' hm
    rw [e1, e2, show n = mn by omega])
  clear hO hS2 hL1 hL2 h2 HL HL2
  have hx0 : v0.size ≤ 1048576 := by omega
  have hx1 : x1.size ≤ 1048576 := by omega
  clear hx1' hv0 hv1
  go_upto_region 7 with fail
  refine wp_region_held_drew (S := fun w' => Below w2.drew.heap.size w2.drew w') (by kernel_rfl) (Below.refl _ _) (fun _ => ?_)
  have hB0 : Below w.heap.size w w2.drew := hB.drew
  have hR0 : R3 w.heap.size (.string ⟨#[]⟩) (.int .i64 0) (.string ⟨#[]⟩) w2.drew := hR.below ((Below.refl _ _).drew)
  have hcls : ∀ w', Below w2.drew.heap.size w2.drew w' → w'.cell? ⟨bb, bo, none⟩ = some (.string v0) ∧ w'.cell? ⟨bb, bo + 1, none⟩ = some (.string v1) ∧ w'.cell? ⟨ab, ao + 1, none⟩ = some (.string x1) := fun w' h => ⟨keep h b0, keep h b1, keep h a1⟩
  clear hR hB b0 b1 a1
  generalize w2.drew = W0 at hB0 hR0 hcls ⊢
  change wpAnyH _ _ _ _ _ 13 #[false, false, false, false, false, false, false, false, false, false, false, false, false] _ _
  refine wpAnyH_takeL (i := 0) (v := .slice (some ⟨bb, bo, none⟩) 2 c2) rfl (by kernel_rfl) (by kernel_rfl) (by kernel_rfl) (fun _ _ _ h => h) (Or.inl ⟨by rfl, fun w' hw' => by obtain ⟨y0, y1, y2⟩ := hcls w' hw'; go_simp⟩) (Below.refl _ _) ?_
  simp only [Act.put, List.setIfInBounds_toArray, List.set_cons_zero, List.set_cons_succ]
  refine wpAnyH_takeL (i := 1) (v := .pointer (some ⟨bb, bo, none⟩)) rfl (by kernel_rfl) (by kernel_rfl) (by kernel_rfl) (fun _ _ _ h => h) (Or.inl ⟨by rfl, fun w' hw' => by obtain ⟨y0, y1, y2⟩ := hcls w' hw'; go_simp⟩) (Below.refl _ _) ?_
  simp only [Act.put, List.setIfInBounds_toArray, List.set_cons_zero, List.set_cons_succ]
  refine wpAnyH_takeL (i := 2) (v := .string v0) rfl (by kernel_rfl) (by kernel_rfl) (by kernel_rfl) (fun _ _ _ h => h) (Or.inl ⟨by rfl, fun w' hw' => by obtain ⟨y0, y1, y2⟩ := hcls w' hw'; go_simp⟩) (Below.refl _ _) ?_
  simp only [Act.put, List.setIfInBounds_toArray, List.set_cons_zero, List.set_cons_succ]
  refine wpAnyH_takeL (i := 3) (v := .slice (some ⟨bb, bo, none⟩) 2 c2) rfl (by kernel_rfl) (by kernel_rfl) (by kernel_rfl) (fun _ _ _ h => h) (Or.inl ⟨by rfl, fun w' hw' => by obtain ⟨y0, y1, y2⟩ := hcls w' hw'; go_simp⟩) (Below.refl _ _) ?_
  simp only [Act.put, List.setIfInBounds_toArray, List.set_cons_zero, List.set_cons_succ]
  refine wpAnyH_takeL (i := 4) (v := .pointer (some ⟨bb, bo + 1, none⟩)) rfl (by kernel_rfl) (by kernel_rfl) (by kernel_rfl) (fun _ _ _ h => h) (Or.inl ⟨by rfl, fun w' hw' => by obtain ⟨y0, y1, y2⟩ := hcls w' hw'; go_simp⟩) (Below.refl _ _) ?_
  simp only [Act.put, List.setIfInBounds_toArray, List.set_cons_zero, List.set_cons_succ]
  refine wpAnyH_takeL (i := 5) (v := .string v1) rfl (by kernel_rfl) (by kernel_rfl) (by kernel_rfl) (fun _ _ _ h => h) (Or.inl ⟨by rfl, fun w' hw' => by obtain ⟨y0, y1, y2⟩ := hcls w' hw'; go_simp⟩) (Below.refl _ _) ?_
  simp only [Act.put, List.setIfInBounds_toArray, List.set_cons_zero, List.set_cons_succ]
  refine wpAnyH_takeL (i := 7) (v := .slice (some ⟨ab, ao, none⟩) 2 c) rfl (by kernel_rfl) (by kernel_rfl) (by kernel_rfl) (fun _ _ _ h => h) (Or.inl ⟨by rfl, fun w' hw' => by obtain ⟨y0, y1, y2⟩ := hcls w' hw'; go_simp⟩) (Below.refl _ _) ?_
  simp only [Act.put, List.setIfInBounds_toArray, List.set_cons_zero, List.set_cons_succ]
  refine wpAnyH_takeL (i := 8) (v := .pointer (some ⟨ab, ao + 1, none⟩)) rfl (by kernel_rfl) (by kernel_rfl) (by kernel_rfl) (fun _ _ _ h => h) (Or.inl ⟨by rfl, fun w' hw' => by obtain ⟨y0, y1, y2⟩ := hcls w' hw'; go_simp⟩) (Below.refl _ _) ?_
  simp only [Act.put, List.setIfInBounds_toArray, List.set_cons_zero, List.set_cons_succ]
  refine wpAnyH_takeL (i := 9) (v := .string x1) rfl (by kernel_rfl) (by kernel_rfl) (by kernel_rfl) (fun _ _ _ h => h) (Or.inl ⟨by rfl, fun w' hw' => by obtain ⟨y0, y1, y2⟩ := hcls w' hw'; go_simp⟩) (Below.refl _ _) ?_
  simp only [Act.put, List.setIfInBounds_toArray, List.set_cons_zero, List.set_cons_succ]
  refine wpAnyH_ready (rs := [6, 11]) (by kernel_rfl) (by simp) ?_
  refine AllReadyH.consL rfl (fun K hK => ?_) (AllReadyH.consL rfl (fun K hK => ?_) AllReadyH.nil)
  · go_simp
    go_at_call 94
    refine (hc3 W0).mono ?_
    rintro e V ⟨n, rfl, HN, hb⟩
    go_simp
    refine hK.out _ _ hb (fun _ => ?_)
    clear hK K
    simp only [List.setIfInBounds_toArray, List.set_cons_zero, List.set_cons_succ]
    have HU := Lib.hid (HU0.out n HN.out)
    clear HU0 HN hc3
    refine wpAnyH_takeL (i := 10) (v := .agg #[.string v0, .int .i64 n, .string x1]) rfl (by kernel_rfl) (by kernel_rfl) (by kernel_rfl) (fun _ _ _ h => h) (Or.inl ⟨by rfl, fun w' hw' => by obtain ⟨y0, y1, y2⟩ := hcls w' hw'; go_simp⟩) hb ?_
    simp only [Act.put, List.setIfInBounds_toArray, List.set_cons_zero, List.set_cons_succ]
    refine wpAnyH_ready (rs := [11]) (by kernel_rfl) (by simp) ?_
    refine AllReadyH.consL rfl (fun K hK => ?_) AllReadyH.nil
    go_simp
    refine hK.out _ _ (hb.alloc hb.size _) (fun _ => ?_)
    clear hK K
    simp only [List.setIfInBounds_toArray, List.set_cons_zero, List.set_cons_succ]
    have hB : Below w.heap.size w (V.alloc (.cells #[.string ⟨#[]⟩, .int .i64 0, .string ⟨#[]⟩] 33)) := (Below.on' hB0 hb).alloc (Below.on' hB0 hb).size _
    have hR := (hR0.below hb).alloc (.cells #[.string ⟨#[]⟩, .int .i64 0, .string ⟨#[]⟩] 33)
    have hE := R3.new V (.string ⟨#[]⟩) (.int .i64 0) (.string ⟨#[]⟩) 33 _ rfl
    have hne : V.heap.size ≠ w.heap.size := by have := (hR0.below hb).lt; omega
    have hbs := hb.size
    obtain ⟨e0, e1, e2, f0, f1, f2⟩ := id hE
    refine wpAnyH_ready (rs := [12]) (by kernel_rfl) (by simp) ?_
    refine AllReadyH.consL rfl (fun K hK => ?_) AllReadyH.nil
    go_simp
    refine hK.out _ _ (by go_grown) (fun _ => ?_)
    clear hK K e0 e1 e2 f0 f1 f2
    simp only [List.setIfInBounds_toArray, List.set_cons_zero, List.set_cons_succ]
    clear hE hR hB
    have hE := R3.new V (.string v0) (.int .i64 n) (.string x1) 33 _ rfl
    have hR := (hR0.below hb).alloc (.cells #[.string v0, .int .i64 n, .string x1] 33)
    have hB : Below w.heap.size w (V.alloc (.cells #[.string v0, .int .i64 n, .string x1] 33)) := (Below.on' hB0 hb).alloc (Below.on' hB0 hb).size _
    generalize (V.alloc (.cells #[.string v0, .int .i64 n, .string x1] 33)) = VF at hE hR hB ⊢
    clear hcls
    refine wpAnyH_done (by kernel_rfl) ?_ _
    have hone : ∀ W, Calls Tryz.prog 86 #[.agg #[.string v0, .int .i64 n, .string x1]] W (RV W (.bool (msgB ⟨v0, n, x1⟩))) := fun W => raOne_any ⟨v0, n, x1⟩ W hx0 hx1
    obtain ⟨e0, e1, e2, _, _, _⟩ := id hE
    go_wp2_with fail
    refine (hone _).mono ?_
    rintro e wm ⟨rfl, hb⟩
    replace hB := Below.on' hB hb
    replace hE := hE.below hb
    replace hR := hR.below hb
    clear hb e0 e1 e2
    obtain ⟨e0, e1, e2, _, _, _⟩ := id hE
    by_cases g : msgB ⟨v0, n, x1⟩ = true
    rotate_left
    · have g : msgB ⟨v0, n, x1⟩ = false := by simpa using g
      rw [g]
      obtain ⟨k0, k1, k2, g0, g1, g2⟩ := id hR
      obtain ⟨y0, y1, y2⟩ := hR.out (.string ⟨#[]⟩) (.int .i64 0) (.string ⟨#[]⟩)
      have HNO := Lib.hid (show ∀ m, msgB m = true → (msgT m).data.toList ≠ s.data.toList from fun m h1 h2 => by have := HU.out m h1 h2; rw [this, g] at h1; cases h1)
      go_wp2
      refine bodyPost_ret (by simp [results, Tryz.results27, go_sem, y0, y1, y2]; try rfl) rfl ?_
      exact PmR.no HNO.out (by go_grown)
    rw [g]
    have htxt : ∀ W, Calls Tryz.prog 87 #[.agg #[.string v0, .int .i64 n, .string x1]] W (RV W (.string (msgT ⟨v0, n, x1⟩))) := fun W => raText_any ⟨v0, n, x1⟩ g W
    go_wp2_with fail
    refine (htxt _).mono ?_
    rintro e wn ⟨rfl, hb⟩
    replace hB := Below.on' hB hb
    replace hE := hE.below hb
    replace hR := hR.below hb
    clear hb e0 e1 e2
    obtain ⟨e0, e1, e2, _, _, _⟩ := id hE
    by_cases hq : (msgT ⟨v0, n, x1⟩).toList = s.toList
    · have HY0 := Lib.hid (show (msgT ⟨v0, n, x1⟩).data.toList = s.data.toList from str_data hq)
      obtain ⟨k0, k1, k2, g0, g1, g2⟩ := id hR
      obtain ⟨y0, y1, y2⟩ := hR.out (.string v0) (.int .i64 n) (.string x1)
      have HG := Lib.hid g
      clear g
      generalize msgT ⟨v0, n, x1⟩ = T at hq ⊢
      go_wp2
      refine bodyPost_ret (by simp [results, Tryz.results27, go_sem, y0, y1, y2]; try rfl) rfl ?_
      exact PmR.yes (m := ⟨v0, n, x1⟩) HG.out HY0.out HU.out (by go_grown)
    · have hq' : ((msgT ⟨v0, n, x1⟩).toList == s.toList) = false := by simpa using hq
      have HN := Lib.hid (show ∀ m, msgB m = true → (msgT m).data.toList ≠ s.data.toList from fun m h1 h2 => by
        have := HU.out m h1 h2
        rw [this] at h2
        exact hq (by rw [Go.ByteArray.toList_eq, Go.ByteArray.toList_eq]; exact h2))
      clear hq g
      generalize msgT ⟨v0, n, x1⟩ = T at hq' ⊢
      obtain ⟨k0, k1, k2, g0, g1, g2⟩ := id hR
      obtain ⟨y0, y1, y2⟩ := hR.out (.string ⟨#[]⟩) (.int .i64 0) (.string ⟨#[]⟩)
      have HNO := Lib.hid HN.out
      go_wp2
      refine bodyPost_ret (by simp [results, Tryz.results27, go_sem, y0, y1, y2]; try rfl) rfl ?_
      exact PmR.no HNO.out (by go_grown)
  · go_simp
    refine hK.out _ _ ((Below.refl _ _).alloc (Nat.le_refl _) _) (fun _ => ?_)
    clear hK K
    simp only [List.setIfInBounds_toArray, List.set_cons_zero, List.set_cons_succ]
    have hB1 : Below w.heap.size w (W0.alloc (.cells #[.string ⟨#[]⟩, .int .i64 0, .string ⟨#[]⟩] 33)) := hB0.alloc hB0.size _
    have hS1 : Below W0.heap.size W0 (W0.alloc (.cells #[.string ⟨#[]⟩, .int .i64 0, .string ⟨#[]⟩] 33)) := (Below.refl _ _).alloc (Nat.le_refl _) _
    have hE0 := R3.new W0 (.string ⟨#[]⟩) (.int .i64 0) (.string ⟨#[]⟩) 33 _ rfl
    have hR1 := hR0.alloc (.cells #[.string ⟨#[]⟩, .int .i64 0, .string ⟨#[]⟩] 33)
    have hne : W0.heap.size ≠ w.heap.size := by have := hR0.lt; omega
    generalize W0.alloc (.cells #[.string ⟨#[]⟩, .int .i64 0, .string ⟨#[]⟩] 33) = W1 at hB1 hS1 hE0 hR1 ⊢
    refine wpAnyH_ready (rs := [6]) (by kernel_rfl) (by simp) ?_
    refine AllReadyH.consL rfl (fun K hK => ?_) AllReadyH.nil
    go_simp
    go_at_call 94
    refine (hc3 W1).mono ?_
    rintro e V ⟨n, rfl, HN, hb⟩
    go_simp
    have hSV : Below W0.heap.size W0 V := hS1.trans (hb.mono hS1.size)
    refine hK.out _ _ hSV (fun _ => ?_)
    clear hK K
    simp only [List.setIfInBounds_toArray, List.set_cons_zero, List.set_cons_succ]
    have HU := Lib.hid (HU0.out n HN.out)
    clear HU0 HN hc3
    refine wpAnyH_takeL (i := 10) (v := .agg #[.string v0, .int .i64 n, .string x1]) rfl (by kernel_rfl) (by kernel_rfl) (by kernel_rfl) (fun _ _ _ h => h) (Or.inl ⟨by rfl, fun w' hw' => by obtain ⟨y0, y1, y2⟩ := hcls w' hw'; go_simp⟩) hSV ?_
    simp only [Act.put, List.setIfInBounds_toArray, List.set_cons_zero, List.set_cons_succ]
    have hB := Below.on' hB1 hb
    have hR := hR1.below hb
    have hE := hE0.below hb
    have hwW := hB0.size
    clear hB1 hR1 hE0 hb hS1
    obtain ⟨e0, e1, e2, f0, f1, f2⟩ := id hE
    refine wpAnyH_ready (rs := [12]) (by kernel_rfl) (by simp) ?_
    refine AllReadyH.consL rfl (fun K hK => ?_) AllReadyH.nil
    go_simp
    refine hK.out _ _ (by go_grown) (fun _ => ?_)
    clear hK K e0 e1 e2 f0 f1 f2
    simp only [List.setIfInBounds_toArray, List.set_cons_zero, List.set_cons_succ]
    have hE' := ((hE.set0 (.string v0)).set1 (.int .i64 n)).set2 (.string x1)
    have hR' := ((hR.off (p := ⟨W0.heap.size, 0, none⟩) hne (.string v0)).off (p := ⟨W0.heap.size, 1, none⟩) hne (.int .i64 n)).off (p := ⟨W0.heap.size, 2, none⟩) hne (.string x1)
    have hBf : Below w.heap.size w (((V.setCell ⟨W0.heap.size, 0, none⟩ (.string v0)).setCell ⟨W0.heap.size, 1, none⟩ (.int .i64 n)).setCell ⟨W0.heap.size, 2, none⟩ (.string x1)) := by go_grown
    generalize (((V.setCell ⟨W0.heap.size, 0, none⟩ (.string v0)).setCell ⟨W0.heap.size, 1, none⟩ (.int .i64 n)).setCell ⟨W0.heap.size, 2, none⟩ (.string x1)) = VF at hE' hR' hBf ⊢
    clear hE hR hB hcls
    have hE := hE'
    have hR := hR'
    have hB := hBf
    clear hE' hR' hBf
    refine wpAnyH_done (by kernel_rfl) ?_ _
    have hone : ∀ W, Calls Tryz.prog 86 #[.agg #[.string v0, .int .i64 n, .string x1]] W (RV W (.bool (msgB ⟨v0, n, x1⟩))) := fun W => raOne_any ⟨v0, n, x1⟩ W hx0 hx1
    obtain ⟨e0, e1, e2, _, _, _⟩ := id hE
    go_wp2_with fail
    refine (hone _).mono ?_
    rintro e wm ⟨rfl, hb⟩
    replace hB := Below.on' hB hb
    replace hE := hE.below hb
    replace hR := hR.below hb
    clear hb e0 e1 e2
    obtain ⟨e0, e1, e2, _, _, _⟩ := id hE
    by_cases g : msgB ⟨v0, n, x1⟩ = true
    rotate_left
    · have g : msgB ⟨v0, n, x1⟩ = false := by simpa using g
      rw [g]
      obtain ⟨k0, k1, k2, g0, g1, g2⟩ := id hR
      obtain ⟨y0, y1, y2⟩ := hR.out (.string ⟨#[]⟩) (.int .i64 0) (.string ⟨#[]⟩)
      have HNO := Lib.hid (show ∀ m, msgB m = true → (msgT m).data.toList ≠ s.data.toList from fun m h1 h2 => by have := HU.out m h1 h2; rw [this, g] at h1; cases h1)
      go_wp2
      refine bodyPost_ret (by simp [results, Tryz.results27, go_sem, y0, y1, y2]; try rfl) rfl ?_
      exact PmR.no HNO.out (by go_grown)
    rw [g]
    have htxt : ∀ W, Calls Tryz.prog 87 #[.agg #[.string v0, .int .i64 n, .string x1]] W (RV W (.string (msgT ⟨v0, n, x1⟩))) := fun W => raText_any ⟨v0, n, x1⟩ g W
    go_wp2_with fail
    refine (htxt _).mono ?_
    rintro e wn ⟨rfl, hb⟩
    replace hB := Below.on' hB hb
    replace hE := hE.below hb
    replace hR := hR.below hb
    clear hb e0 e1 e2
    obtain ⟨e0, e1, e2, _, _, _⟩ := id hE
    by_cases hq : (msgT ⟨v0, n, x1⟩).toList = s.toList
    · have HY0 := Lib.hid (show (msgT ⟨v0, n, x1⟩).data.toList = s.data.toList from str_data hq)
      obtain ⟨k0, k1, k2, g0, g1, g2⟩ := id hR
      obtain ⟨y0, y1, y2⟩ := hR.out (.string v0) (.int .i64 n) (.string x1)
      have HG := Lib.hid g
      clear g
      generalize msgT ⟨v0, n, x1⟩ = T at hq ⊢
      go_wp2
      refine bodyPost_ret (by simp [results, Tryz.results27, go_sem, y0, y1, y2]; try rfl) rfl ?_
      exact PmR.yes (m := ⟨v0, n, x1⟩) HG.out HY0.out HU.out (by go_grown)
    · have hq' : ((msgT ⟨v0, n, x1⟩).toList == s.toList) = false := by simpa using hq
      have HN := Lib.hid (show ∀ m, msgB m = true → (msgT m).data.toList ≠ s.data.toList from fun m h1 h2 => by
        have := HU.out m h1 h2
        rw [this] at h2
        exact hq (by rw [Go.ByteArray.toList_eq, Go.ByteArray.toList_eq]; exact h2))
      clear hq g
      generalize msgT ⟨v0, n, x1⟩ = T at hq' ⊢
      obtain ⟨k0, k1, k2, g0, g1, g2⟩ := id hR
      obtain ⟨y0, y1, y2⟩ := hR.out (.string ⟨#[]⟩) (.int .i64 0) (.string ⟨#[]⟩)
      have HNO := Lib.hid HN.out
      go_wp2
      refine bodyPost_ret (by simp [results, Tryz.results27, go_sem, y0, y1, y2]; try rfl) rfl ?_
      exact PmR.no HNO.out (by go_grown)
set_option maxRecDepth 100000 in
set_option maxHeartbeats 8000000 in
theorem ParseMessage_impl (s : ByteArray) (hs : s.size ≤ 1048576) (w : World) (hS : Said w) (hX : MaxL w) : Calls Tryz.prog 26 #[.string s] w (PmR w s) := by
  have hT : TabW w := hS.tab
  have hR := R3.new w (.string ⟨#[]⟩) (.int .i64 0) (.string ⟨#[]⟩) 33 _ rfl
  have hB : Below w.heap.size w (w.alloc (.cells #[.string ⟨#[]⟩, .int .i64 0, .string ⟨#[]⟩] 33)) := (Below.refl _ _).alloc (Nat.le_refl _) _
  go_enter Tryz.func26, Tryz.ntmps26
  go_wp2_with fail
  refine (cut_any s 58 hs _ (hX.below hB)).mono ?_
  rintro e w1 ⟨x, y, o1, rfl, ⟨hxs, hys⟩, H1, hb⟩
  replace hR := hR.below hb
  replace hB := Below.on' hB hb
  clear hb
  go_wp2_with fail
  refine (cut_any x 35 (by omega) _ (hX.below hB)).mono ?_
  rintro e w2 ⟨f, nm, o2, rfl, ⟨hfs, hns⟩, H2, hb⟩
  replace hR := hR.below hb
  replace hB := Below.on' hB hb
  clear hb
  go_wp2_with fail
  refine (readNumber_any nm (by omega) _ (hS.below hB)).mono ?_
  rintro e w3 ⟨v, b, rfl, _, h2, hb⟩
  replace hR := hR.below hb
  replace hB := Below.on' hB hb
  clear hb
  have HB : Hid (∀ m, msgB m = true → (msgT m).data.toList = s.data.toList → b = true ∧ m = ⟨f, v, y⟩) := Lib.hid (fun m h1 h3 => by
    obtain ⟨p1, _, p3, _, _⟩ := msg_parts h1
    rw [msgT_data] at h3
    obtain ⟨q1, q2⟩ := H1.out _ _ h3.symm p1
    obtain ⟨q3, q4⟩ := H2.out _ _ q1 p3
    have hm := (msgB_in h1).2.1
    obtain ⟨r1, r2⟩ := h2 ((m.n.toNat : Nat) : Int) (by rw [q4]; exact atoi_dec _ (by omega)) (by rw [q4, itoa_nat])
    obtain ⟨mf, mn, mb⟩ := m
    have e1 : f = mf := data_inj q3
    have e2 : y = mb := data_inj q2
    simp only at r2 hm
    exact ⟨r1, by rw [e1, e2, r2, show ((mn.toNat : Nat) : Int) = mn by omega]⟩)
  have hx0 : f.size ≤ 1048576 := by omega
  have hx1 : y.size ≤ 1048576 := by omega
  have hwl := hR.lt
  clear H1 H2 h2 hxs hys hfs hns
  cases b with
  | false =>
    obtain ⟨k0, k1, k2, g0, g1, g2⟩ := id hR
    obtain ⟨y0, y1, y2, _, _, _⟩ := id ((((hR.set0 (.string ⟨#[]⟩)).set1 (.int .i64 0)).set2 (.string ⟨#[]⟩)).alloc (.cells #[.string f, .int .i64 v, .string y] 33))
    have HNO := Lib.hid (show ∀ m, msgB m = true → (msgT m).data.toList ≠ s.data.toList from fun m h1 h2 => by have := (HB.out m h1 h2).1; cases this)
    go_wp2
    refine bodyPost_ret (by simp [results, Tryz.results26, go_sem, y0, y1, y2]; try rfl) rfl ?_
    exact PmR.no HNO.out (by go_grown)
  | true =>
    have HU : Hid (∀ m, msgB m = true → (msgT m).data.toList = s.data.toList → m = ⟨f, v, y⟩) := Lib.hid (fun m h1 h2 => (HB.out m h1 h2).2)
    have hE := R3.new w3 (.string f) (.int .i64 v) (.string y) 33 _ rfl
    replace hR := hR.alloc (.cells #[.string f, .int .i64 v, .string y] 33)
    replace hB : Below w.heap.size w (w3.alloc (.cells #[.string f, .int .i64 v, .string y] 33)) := hB.alloc hB.size _
    clear HB
    have hone : ∀ W, Calls Tryz.prog 84 #[.agg #[.string f, .int .i64 v, .string y]] W (RV W (.bool (msgB ⟨f, v, y⟩))) := fun W => isMessage_any ⟨f, v, y⟩ W hx0 hx1
    obtain ⟨e0, e1, e2, _, _, _⟩ := id hE
    go_wp2_with fail
    refine (hone _).mono ?_
    rintro e wm ⟨rfl, hb⟩
    replace hB := Below.on' hB hb
    replace hE := hE.below hb
    replace hR := hR.below hb
    clear hb e0 e1 e2
    obtain ⟨e0, e1, e2, _, _, _⟩ := id hE
    by_cases g : msgB ⟨f, v, y⟩ = true
    rotate_left
    · have g : msgB ⟨f, v, y⟩ = false := by simpa using g
      rw [g]
      obtain ⟨k0, k1, k2, g0, g1, g2⟩ := id hR
      obtain ⟨y0, y1, y2⟩ := hR.out (.string ⟨#[]⟩) (.int .i64 0) (.string ⟨#[]⟩)
      have HNO := Lib.hid (show ∀ m, msgB m = true → (msgT m).data.toList ≠ s.data.toList from fun m h1 h2 => by have := HU.out m h1 h2; rw [this, g] at h1; cases h1)
      go_wp2
      refine bodyPost_ret (by simp [results, Tryz.results26, go_sem, y0, y1, y2]; try rfl) rfl ?_
      exact PmR.no HNO.out (by go_grown)
    rw [g]
    have htxt : ∀ W, Below w.heap.size w W → Calls Tryz.prog 85 #[.agg #[.string f, .int .i64 v, .string y]] W (RV W (.string (msgT ⟨f, v, y⟩))) := fun W hW => messageText_any ⟨f, v, y⟩ g W (hT.below hW)
    go_wp2_with fail
    refine (htxt _ hB).mono ?_
    rintro e wn ⟨rfl, hb⟩
    replace hB := Below.on' hB hb
    replace hE := hE.below hb
    replace hR := hR.below hb
    clear hb e0 e1 e2
    obtain ⟨e0, e1, e2, _, _, _⟩ := id hE
    by_cases hq : (msgT ⟨f, v, y⟩).toList = s.toList
    · have HY0 := Lib.hid (show (msgT ⟨f, v, y⟩).data.toList = s.data.toList from str_data hq)
      obtain ⟨k0, k1, k2, g0, g1, g2⟩ := id hR
      obtain ⟨y0, y1, y2⟩ := hR.out (.string f) (.int .i64 v) (.string y)
      have HG := Lib.hid g
      clear g
      generalize msgT ⟨f, v, y⟩ = T at hq ⊢
      go_wp2
      refine bodyPost_ret (by simp [results, Tryz.results26, go_sem, y0, y1, y2]; try rfl) rfl ?_
      exact PmR.yes (m := ⟨f, v, y⟩) HG.out HY0.out HU.out (by go_grown)
    · have hq' : ((msgT ⟨f, v, y⟩).toList == s.toList) = false := by simpa using hq
      have HN := Lib.hid (show ∀ m, msgB m = true → (msgT m).data.toList ≠ s.data.toList from fun m h1 h2 => by
        have := HU.out m h1 h2
        rw [this] at h2
        exact hq (by rw [Go.ByteArray.toList_eq, Go.ByteArray.toList_eq]; exact h2))
      clear hq g
      generalize msgT ⟨f, v, y⟩ = T at hq' ⊢
      obtain ⟨k0, k1, k2, g0, g1, g2⟩ := id hR
      obtain ⟨y0, y1, y2⟩ := hR.out (.string ⟨#[]⟩) (.int .i64 0) (.string ⟨#[]⟩)
      have HNO := Lib.hid HN.out
      go_wp2
      refine bodyPost_ret (by simp [results, Tryz.results26, go_sem, y0, y1, y2]; try rfl) rfl ?_
      exact PmR.no HNO.out (by go_grown)
end Go.Proofs.YtjmjilkpckbpeaaGreatDoor
