/- The text of a message: plain facts, and what the program and the reference write. Conditions: valid messages; the table of powers as the row lists it. -/
import Derived.Test.YtjmjilkpckbpeaaGreatDoorLN
import Derived.Test.YtjmjilkpckbpeaaGreatDoorItoa
import Derived.Test.YtjmjilkpckbpeaaGreatDoorCutP
import Derived.BigQuiet
namespace Go.Proofs.YtjmjilkpckbpeaaGreatDoor
open Go.RowKit

def msgT (m : Msg) : ByteArray := m.f ++ ⟨#[35]⟩ ++ numT m.n.toNat ++ ⟨#[58]⟩ ++ m.b
theorem msgT_data (m : Msg) : (msgT m).data.toList = (m.f.data.toList ++ 35 :: Lib.decDigits m.n.toNat) ++ 58 :: m.b.data.toList := by
  simp [msgT, ByteArray.data_append, Array.toList_append, numT_dec]
theorem msgB_in {m : Msg} (h : msgB m = true) : nameB m.f = true ∧ (1 ≤ m.n ∧ m.n ≤ 999) ∧ bodyB m.b = true := by
  simp only [msgB, inB, Bool.and_eq_true, decide_eq_true_eq] at h
  exact ⟨h.1.1, h.1.2, h.2⟩
theorem name_bytes {s : ByteArray} (h : nameB s = true) : (1 ≤ s.size ∧ s.size ≤ 6) ∧ ∀ c ∈ s.data.toList, (97 ≤ c.toNat ∧ c.toNat ≤ 122) ∨ (48 ≤ c.toNat ∧ c.toNat ≤ 57) := by
  simp only [nameB, inB, Bool.and_eq_true, decide_eq_true_eq] at h
  refine ⟨by omega, fun c hc => ?_⟩
  obtain ⟨k, hk⟩ := List.mem_iff_getElem?.1 hc
  have hl : k < s.size := by have := (List.getElem?_eq_some_iff.1 hk).1; rw [Lib.size_eq]; exact this
  have := (nameAt_iff hl).1 (List.all_eq_true.1 h.1 k (List.mem_range.2 hl))
  have e : s[k] = c := by
    have h2 : s.data.toList[k]? = some s[k] := by rw [List.getElem?_eq_getElem (by simpa using hl)]; rfl
    rw [h2] at hk
    exact Option.some.inj hk
  rw [e] at this
  omega
theorem body_bytes {s : ByteArray} (h : bodyB s = true) : (1 ≤ s.size ∧ s.size ≤ 12) ∧ ∀ c ∈ s.data.toList, (97 ≤ c.toNat ∧ c.toNat ≤ 122) ∨ (48 ≤ c.toNat ∧ c.toNat ≤ 57) ∨ c.toNat = 32 := by
  simp only [bodyB, inB, Bool.and_eq_true, decide_eq_true_eq] at h
  refine ⟨by omega, fun c hc => ?_⟩
  obtain ⟨k, hk⟩ := List.mem_iff_getElem?.1 hc
  have hl : k < s.size := by have := (List.getElem?_eq_some_iff.1 hk).1; rw [Lib.size_eq]; exact this
  have := (bodyAt_iff hl).1 (List.all_eq_true.1 h.1 k (List.mem_range.2 hl))
  have e : s[k] = c := by
    have h2 : s.data.toList[k]? = some s[k] := by rw [List.getElem?_eq_getElem (by simpa using hl)]; rfl
    rw [h2] at hk
    exact Option.some.inj hk
  rw [e] at this
  omega
theorem msg_parts {m : Msg} (h : msgB m = true) : (58 : UInt8) ∉ (m.f.data.toList ++ 35 :: Lib.decDigits m.n.toNat) ∧ (58 : UInt8) ∉ m.b.data.toList ∧ (35 : UInt8) ∉ m.f.data.toList ∧ (35 : UInt8) ∉ Lib.decDigits m.n.toNat ∧ (msgT m).size ≤ 23 := by
  obtain ⟨hf, hn, hb⟩ := msgB_in h
  obtain ⟨sf, bf⟩ := name_bytes hf
  obtain ⟨sb, bb⟩ := body_bytes hb
  have hd := dec_bytes m.n.toNat
  have hl := dec_len (n := m.n.toNat) (k := 3) (by omega) (by omega)
  have k58 : (58 : UInt8).toNat = 58 := rfl
  have k35 : (35 : UInt8).toNat = 35 := rfl
  refine ⟨?_, fun hh => ?_, fun hh => ?_, fun hh => ?_, ?_⟩
  · simp only [List.mem_append, List.mem_cons, not_or]
    exact ⟨fun hh => by have := bf _ hh; omega, by decide, fun hh => by have := hd _ hh; omega⟩
  · have := bb _ hh; omega
  · have := bf _ hh; omega
  · have := hd _ hh; omega
  · rw [Lib.size_eq, msgT_data]
    rw [Lib.size_eq] at sf sb
    simp only [List.length_append, List.length_cons]
    omega
theorem numM_len {n k : Nat} (hk : 1 ≤ k) (h : n < 10 ^ k) : (numT n).size ≤ k := by rw [Lib.size_eq, numT_dec]; exact dec_len hk h
set_option maxHeartbeats 4000000 in
theorem raText_any (x : Msg) (hx : msgB x = true) (w : World) : Calls Tryz.prog 87 #[.agg #[.string x.f, .int .i64 x.n, .string x.b]] w (RV w (.string (msgT x))) := by
  obtain ⟨hf, hn, hbd⟩ := msgB_in hx
  have sf := (name_bytes hf).1.2
  have sb := (body_bytes hbd).1.2
  have HE : Hid (msgT x = x.f ++ ⟨#[35]⟩ ++ numT x.n.toNat ++ ⟨#[58]⟩ ++ x.b) := Lib.hid rfl
  have sn := numM_len (n := x.n.toNat) (k := 3) (by omega) (by omega)
  generalize msgT x = L at HE ⊢
  clear hx hf hbd
  obtain ⟨xf, xn, xb⟩ := x
  dsimp only at *
  obtain ⟨n, rfl⟩ : ∃ n : Nat, xn = n := ⟨xn.toNat, by omega⟩
  simp only [Int.toNat_natCast] at HE sn
  have cn : ∀ W, Below w.heap.size w W → Calls Tryz.prog 139 #[.int .i64 n] W (RV W (.string (numT n))) := fun W _ => l1Num_any n (by omega) W
  generalize numT n = tn at *
  go_enter Tryz.func87, Tryz.ntmps87
  go_wp2_with fail
  generalize hW : w.alloc (Obj.cells #[.string xf, .int .i64 n, .string xb] 33) = W
  have hBW : Below w.heap.size w W := by rw [← hW]; exact (Below.refl _ _).alloc (Nat.le_refl _) _
  have q0 : W.cell? ⟨w.heap.size, 0, none⟩ = some (.string xf) := by rw [← hW, World.cell?_alloc_at _ _ _ _ rfl]; rfl
  have q1 : W.cell? ⟨w.heap.size, 1, none⟩ = some (.int .i64 n) := by rw [← hW, World.cell?_alloc_at _ _ _ _ rfl]; rfl
  have q2 : W.cell? ⟨w.heap.size, 2, none⟩ = some (.string xb) := by rw [← hW, World.cell?_alloc_at _ _ _ _ rfl]; rfl
  have hcls : ∀ w', Below W.heap.size W w' → w'.cell? ⟨w.heap.size, 0, none⟩ = some (.string xf) ∧ w'.cell? ⟨w.heap.size, 1, none⟩ = some (.int .i64 n) ∧ w'.cell? ⟨w.heap.size, 2, none⟩ = some (.string xb) ∧ Below w.heap.size w w' :=
    fun w' h => ⟨keep h q0, keep h q1, keep h q2, Below.on' hBW h⟩
  clear q0 q1 q2 hW
  refine wp_region_quiet (C := fun w' => Below W.heap.size W w') (by kernel_rfl) (by kernel_rfl) ((Below.refl _ _).drew) ?_
  dsimp only [Array.toList]
  iterate 12
    with_reducible refine wpQuiet_step (fun K hK => ?_)
    go_simp
    first
      | (refine hK _ ?_; clear hK K)
      | (apply Exists.intro
         refine ⟨fun w' hw' => ?_, hK _ ?_⟩
         · obtain ⟨y0, y1, y2, yb⟩ := hcls w' hw'
           go_simp
           first
             | rfl
             | (rw [if_neg (by (try simp only [ByteArray.size_append]); omega)]; exact ⟨rfl, rfl⟩)
             | ((with_reducible refine (cn _ yb).mono ?_)
                rintro e w1 ⟨rfl, hb⟩
                exact ⟨rfl, hw'.trans (hb.mono hw'.size)⟩)
         clear hK K)
  refine wpQuiet_nil ?_
  intro W2 hW2
  have hB2 : Below w.heap.size w W2 := Below.on' hBW hW2
  clear hcls cn
  go_wp2
  go_ret
  exact RV.mk (by rw [HE.out]; rfl) hB2
set_option maxHeartbeats 4000000 in
theorem messageText_any (x : Msg) (hx : msgB x = true) (w : World) (hT : TabW w) : Calls Tryz.prog 85 #[.agg #[.string x.f, .int .i64 x.n, .string x.b]] w (RV w (.string (msgT x))) := by
  obtain ⟨hf, hn, hbd⟩ := msgB_in hx
  have sf := (name_bytes hf).1.2
  have sb := (body_bytes hbd).1.2
  have HE : Hid (msgT x = x.f ++ ⟨#[35]⟩ ++ numT x.n.toNat ++ ⟨#[58]⟩ ++ x.b) := Lib.hid rfl
  have sn := numM_len (n := x.n.toNat) (k := 3) (by omega) (by omega)
  generalize msgT x = L at HE ⊢
  clear hx hf hbd
  obtain ⟨xf, xn, xb⟩ := x
  dsimp only at *
  obtain ⟨n, rfl⟩ : ∃ n : Nat, xn = n := ⟨xn.toNat, by omega⟩
  simp only [Int.toNat_natCast] at HE sn
  have cn : ∀ W, Below w.heap.size w W → Calls Tryz.prog 137 #[.int .i64 n] W (RV W (.string (numT n))) := fun W hb => itoa_any n (by omega) W (hT.below hb)
  generalize numT n = tn at *
  go_enter Tryz.func85, Tryz.ntmps85
  go_wp2_with fail
  generalize hW : w.alloc (Obj.cells #[.string xf, .int .i64 n, .string xb] 33) = W
  have hBW : Below w.heap.size w W := by rw [← hW]; exact (Below.refl _ _).alloc (Nat.le_refl _) _
  have q0 : W.cell? ⟨w.heap.size, 0, none⟩ = some (.string xf) := by rw [← hW, World.cell?_alloc_at _ _ _ _ rfl]; rfl
  have q1 : W.cell? ⟨w.heap.size, 1, none⟩ = some (.int .i64 n) := by rw [← hW, World.cell?_alloc_at _ _ _ _ rfl]; rfl
  have q2 : W.cell? ⟨w.heap.size, 2, none⟩ = some (.string xb) := by rw [← hW, World.cell?_alloc_at _ _ _ _ rfl]; rfl
  have hcls : ∀ w', Below W.heap.size W w' → w'.cell? ⟨w.heap.size, 0, none⟩ = some (.string xf) ∧ w'.cell? ⟨w.heap.size, 1, none⟩ = some (.int .i64 n) ∧ w'.cell? ⟨w.heap.size, 2, none⟩ = some (.string xb) ∧ Below w.heap.size w w' :=
    fun w' h => ⟨keep h q0, keep h q1, keep h q2, Below.on' hBW h⟩
  clear q0 q1 q2 hW
  refine wp_region_quiet (C := fun w' => Below W.heap.size W w') (by kernel_rfl) (by kernel_rfl) ((Below.refl _ _).drew) ?_
  dsimp only [Array.toList]
  iterate 12
    with_reducible refine wpQuiet_step (fun K hK => ?_)
    go_simp
    first
      | (refine hK _ ?_; clear hK K)
      | (apply Exists.intro
         refine ⟨fun w' hw' => ?_, hK _ ?_⟩
         · obtain ⟨y0, y1, y2, yb⟩ := hcls w' hw'
           go_simp
           first
             | rfl
             | (rw [if_neg (by (try simp only [ByteArray.size_append]); omega)]; exact ⟨rfl, rfl⟩)
             | ((with_reducible refine (cn _ yb).mono ?_)
                rintro e w1 ⟨rfl, hb⟩
                exact ⟨rfl, hw'.trans (hb.mono hw'.size)⟩)
         clear hK K)
  refine wpQuiet_nil ?_
  intro W2 hW2
  have hB2 : Below w.heap.size w W2 := Below.on' hBW hW2
  clear hcls cn
  go_wp2
  go_ret
  exact RV.mk (by rw [HE.out]; rfl) hB2
end Go.Proofs.YtjmjilkpckbpeaaGreatDoor
