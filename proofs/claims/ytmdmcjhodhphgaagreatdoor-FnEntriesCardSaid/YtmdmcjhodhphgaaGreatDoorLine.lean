/- The text of an entry, of a log: what the program and the reference write. Conditions: valid entries, at most 2^20 of them; the table of powers as the row lists it. -/
import Derived.Test.YtmdmcjhodhphgaaGreatDoorLineP
import Derived.Test.YtmdmcjhodhphgaaGreatDoorItoa
import Derived.Test.YtmdmcjhodhphgaaGreatDoorPost
import Derived.BigQuiet
namespace Go.Proofs.YtmdmcjhodhphgaaGreatDoor
open Go.RowKit

theorem numT_len {n k : Nat} (hk : 1 ≤ k) (h : n < 10 ^ k) : (numT n).size ≤ k := by rw [Lib.size_eq, numT_dec]; exact dec_len hk h
set_option maxHeartbeats 4000000 in
theorem lgLine_any (x : Ent) (hx : entB x.r x.n x.m x.t = true) (w : World) : Calls Tryz.prog 90 #[.agg #[.int .i64 x.r, .int .i64 x.n, .int .i64 x.m, .string x.t]] w (RV w (.string (lineT x))) := by
  obtain ⟨hr, hn, hm, ht⟩ := entB_in hx
  have hts := (textB_in ht).1.2
  have HE : Hid (lineT x = numT x.r.toNat ++ ⟨#[46]⟩ ++ numT x.n.toNat ++ ⟨#[64]⟩ ++ numT x.m.toNat ++ ⟨#[32]⟩ ++ x.t) := Lib.hid rfl
  have sr := numT_len (n := x.r.toNat) (k := 1) (by omega) (by omega)
  have sn := numT_len (n := x.n.toNat) (k := 3) (by omega) (by omega)
  have sm := numT_len (n := x.m.toNat) (k := 5) (by omega) (by omega)
  generalize lineT x = L at HE ⊢
  clear hx ht
  obtain ⟨xr, xn, xm, xt⟩ := x
  dsimp only at *
  obtain ⟨r, rfl⟩ : ∃ r : Nat, xr = r := ⟨xr.toNat, by omega⟩
  obtain ⟨n, rfl⟩ : ∃ n : Nat, xn = n := ⟨xn.toNat, by omega⟩
  obtain ⟨m, rfl⟩ : ∃ m : Nat, xm = m := ⟨xm.toNat, by omega⟩
  simp only [Int.toNat_natCast] at HE sr sn sm
  have cr : ∀ W, Below w.heap.size w W → Calls Tryz.prog 65 #[.int .i64 r] W (RV W (.string (numT r))) := fun W _ => l1Num_any r (by omega) W
  have cn : ∀ W, Below w.heap.size w W → Calls Tryz.prog 65 #[.int .i64 n] W (RV W (.string (numT n))) := fun W _ => l1Num_any n (by omega) W
  have cm : ∀ W, Below w.heap.size w W → Calls Tryz.prog 65 #[.int .i64 m] W (RV W (.string (numT m))) := fun W _ => l1Num_any m (by omega) W
  generalize numT r = tr at *
  generalize numT n = tn at *
  generalize numT m = tm at *
  have z1 : (tr ++ (⟨#[46]⟩ : ByteArray)).size ≤ 2 := by rw [ByteArray.size_append]; have : (⟨#[46]⟩ : ByteArray).size = 1 := rfl; omega
  have z2 : (tr ++ (⟨#[46]⟩ : ByteArray) ++ tn).size ≤ 5 := by rw [ByteArray.size_append]; omega
  have z3 : (tr ++ (⟨#[46]⟩ : ByteArray) ++ tn ++ ⟨#[64]⟩).size ≤ 6 := by rw [ByteArray.size_append]; have : (⟨#[64]⟩ : ByteArray).size = 1 := rfl; omega
  have z4 : (tr ++ (⟨#[46]⟩ : ByteArray) ++ tn ++ ⟨#[64]⟩ ++ tm).size ≤ 11 := by rw [ByteArray.size_append]; omega
  have z5 : (tr ++ (⟨#[46]⟩ : ByteArray) ++ tn ++ ⟨#[64]⟩ ++ tm ++ ⟨#[32]⟩).size ≤ 12 := by rw [ByteArray.size_append]; have : (⟨#[32]⟩ : ByteArray).size = 1 := rfl; omega
  go_enter Tryz.func90, Tryz.ntmps90
  go_wp2_with fail
  generalize hW : w.alloc (Obj.cells #[.int .i64 r, .int .i64 n, .int .i64 m, .string xt] 33) = W
  have hBW : Below w.heap.size w W := by rw [← hW]; exact (Below.refl _ _).alloc (Nat.le_refl _) _
  have q0 : W.cell? ⟨w.heap.size, 0, none⟩ = some (.int .i64 r) := by rw [← hW, World.cell?_alloc_at _ _ _ _ rfl]; rfl
  have q1 : W.cell? ⟨w.heap.size, 1, none⟩ = some (.int .i64 n) := by rw [← hW, World.cell?_alloc_at _ _ _ _ rfl]; rfl
  have q2 : W.cell? ⟨w.heap.size, 2, none⟩ = some (.int .i64 m) := by rw [← hW, World.cell?_alloc_at _ _ _ _ rfl]; rfl
  have q3 : W.cell? ⟨w.heap.size, 3, none⟩ = some (.string xt) := by rw [← hW, World.cell?_alloc_at _ _ _ _ rfl]; rfl
  have hcls : ∀ w', Below W.heap.size W w' → w'.cell? ⟨w.heap.size, 0, none⟩ = some (.int .i64 r) ∧ w'.cell? ⟨w.heap.size, 1, none⟩ = some (.int .i64 n) ∧ w'.cell? ⟨w.heap.size, 2, none⟩ = some (.int .i64 m) ∧ w'.cell? ⟨w.heap.size, 3, none⟩ = some (.string xt) ∧ Below w.heap.size w w' :=
    fun w' h => ⟨keep h q0, keep h q1, keep h q2, keep h q3, Below.on' hBW h⟩
  clear q0 q1 q2 q3 hW
  refine wp_region_quiet (C := fun w' => Below W.heap.size W w') (by kernel_rfl) (by kernel_rfl) ((Below.refl _ _).drew) ?_
  dsimp only [Array.toList]
  iterate 18
    with_reducible refine wpQuiet_step (fun K hK => ?_)
    go_simp
    first
      | (refine hK _ ?_; clear hK K)
      | (apply Exists.intro
         refine ⟨fun w' hw' => ?_, hK _ ?_⟩
         · obtain ⟨y0, y1, y2, y3, yb⟩ := hcls w' hw'
           go_simp
           first
             | rfl
             | (rw [if_neg (by (try simp only [ByteArray.size_append]); omega)]; exact ⟨rfl, rfl⟩)
             | (first
                  | (with_reducible refine (cr _ yb).mono ?_)
                  | (with_reducible refine (cn _ yb).mono ?_)
                  | (with_reducible refine (cm _ yb).mono ?_)
                rintro e w1 ⟨rfl, hb⟩
                exact ⟨rfl, hw'.trans (hb.mono hw'.size)⟩)
         clear hK K)
  refine wpQuiet_nil ?_
  intro W2 hW2
  have hB2 : Below w.heap.size w W2 := Below.on' hBW hW2
  clear hcls cr cn cm
  go_wp2
  go_ret
  exact RV.mk (by rw [HE.out]; rfl) hB2
set_option maxHeartbeats 4000000 in
theorem entryText_any (x : Ent) (hx : entB x.r x.n x.m x.t = true) (w : World) (hT : TabW w) : Calls Tryz.prog 88 #[.agg #[.int .i64 x.r, .int .i64 x.n, .int .i64 x.m, .string x.t]] w (RV w (.string (lineT x))) := by
  obtain ⟨hr, hn, hm, ht⟩ := entB_in hx
  have hts := (textB_in ht).1.2
  have HE : Hid (lineT x = numT x.r.toNat ++ ⟨#[46]⟩ ++ numT x.n.toNat ++ ⟨#[64]⟩ ++ numT x.m.toNat ++ ⟨#[32]⟩ ++ x.t) := Lib.hid rfl
  have sr := numT_len (n := x.r.toNat) (k := 1) (by omega) (by omega)
  have sn := numT_len (n := x.n.toNat) (k := 3) (by omega) (by omega)
  have sm := numT_len (n := x.m.toNat) (k := 5) (by omega) (by omega)
  generalize lineT x = L at HE ⊢
  clear hx ht
  obtain ⟨xr, xn, xm, xt⟩ := x
  dsimp only at *
  obtain ⟨r, rfl⟩ : ∃ r : Nat, xr = r := ⟨xr.toNat, by omega⟩
  obtain ⟨n, rfl⟩ : ∃ n : Nat, xn = n := ⟨xn.toNat, by omega⟩
  obtain ⟨m, rfl⟩ : ∃ m : Nat, xm = m := ⟨xm.toNat, by omega⟩
  simp only [Int.toNat_natCast] at HE sr sn sm
  have cr : ∀ W, Below w.heap.size w W → Calls Tryz.prog 62 #[.int .i64 r] W (RV W (.string (numT r))) := fun W hb => itoa_any r (by omega) W (hT.below hb)
  have cn : ∀ W, Below w.heap.size w W → Calls Tryz.prog 62 #[.int .i64 n] W (RV W (.string (numT n))) := fun W hb => itoa_any n (by omega) W (hT.below hb)
  have cm : ∀ W, Below w.heap.size w W → Calls Tryz.prog 62 #[.int .i64 m] W (RV W (.string (numT m))) := fun W hb => itoa_any m (by omega) W (hT.below hb)
  generalize numT r = tr at *
  generalize numT n = tn at *
  generalize numT m = tm at *
  have z1 : (tr ++ (⟨#[46]⟩ : ByteArray)).size ≤ 2 := by rw [ByteArray.size_append]; have : (⟨#[46]⟩ : ByteArray).size = 1 := rfl; omega
  have z2 : (tr ++ (⟨#[46]⟩ : ByteArray) ++ tn).size ≤ 5 := by rw [ByteArray.size_append]; omega
  have z3 : (tr ++ (⟨#[46]⟩ : ByteArray) ++ tn ++ ⟨#[64]⟩).size ≤ 6 := by rw [ByteArray.size_append]; have : (⟨#[64]⟩ : ByteArray).size = 1 := rfl; omega
  have z4 : (tr ++ (⟨#[46]⟩ : ByteArray) ++ tn ++ ⟨#[64]⟩ ++ tm).size ≤ 11 := by rw [ByteArray.size_append]; omega
  have z5 : (tr ++ (⟨#[46]⟩ : ByteArray) ++ tn ++ ⟨#[64]⟩ ++ tm ++ ⟨#[32]⟩).size ≤ 12 := by rw [ByteArray.size_append]; have : (⟨#[32]⟩ : ByteArray).size = 1 := rfl; omega
  go_enter Tryz.func88, Tryz.ntmps88
  go_wp2_with fail
  generalize hW : w.alloc (Obj.cells #[.int .i64 r, .int .i64 n, .int .i64 m, .string xt] 33) = W
  have hBW : Below w.heap.size w W := by rw [← hW]; exact (Below.refl _ _).alloc (Nat.le_refl _) _
  have q0 : W.cell? ⟨w.heap.size, 0, none⟩ = some (.int .i64 r) := by rw [← hW, World.cell?_alloc_at _ _ _ _ rfl]; rfl
  have q1 : W.cell? ⟨w.heap.size, 1, none⟩ = some (.int .i64 n) := by rw [← hW, World.cell?_alloc_at _ _ _ _ rfl]; rfl
  have q2 : W.cell? ⟨w.heap.size, 2, none⟩ = some (.int .i64 m) := by rw [← hW, World.cell?_alloc_at _ _ _ _ rfl]; rfl
  have q3 : W.cell? ⟨w.heap.size, 3, none⟩ = some (.string xt) := by rw [← hW, World.cell?_alloc_at _ _ _ _ rfl]; rfl
  have hcls : ∀ w', Below W.heap.size W w' → w'.cell? ⟨w.heap.size, 0, none⟩ = some (.int .i64 r) ∧ w'.cell? ⟨w.heap.size, 1, none⟩ = some (.int .i64 n) ∧ w'.cell? ⟨w.heap.size, 2, none⟩ = some (.int .i64 m) ∧ w'.cell? ⟨w.heap.size, 3, none⟩ = some (.string xt) ∧ Below w.heap.size w w' :=
    fun w' h => ⟨keep h q0, keep h q1, keep h q2, keep h q3, Below.on' hBW h⟩
  clear q0 q1 q2 q3 hW
  refine wp_region_quiet (C := fun w' => Below W.heap.size W w') (by kernel_rfl) (by kernel_rfl) ((Below.refl _ _).drew) ?_
  dsimp only [Array.toList]
  iterate 18
    with_reducible refine wpQuiet_step (fun K hK => ?_)
    go_simp
    first
      | (refine hK _ ?_; clear hK K)
      | (apply Exists.intro
         refine ⟨fun w' hw' => ?_, hK _ ?_⟩
         · obtain ⟨y0, y1, y2, y3, yb⟩ := hcls w' hw'
           go_simp
           first
             | rfl
             | (rw [if_neg (by (try simp only [ByteArray.size_append]); omega)]; exact ⟨rfl, rfl⟩)
             | (first
                  | (with_reducible refine (cr _ yb).mono ?_)
                  | (with_reducible refine (cn _ yb).mono ?_)
                  | (with_reducible refine (cm _ yb).mono ?_)
                rintro e w1 ⟨rfl, hb⟩
                exact ⟨rfl, hw'.trans (hb.mono hw'.size)⟩)
         clear hK K)
  refine wpQuiet_nil ?_
  intro W2 hW2
  have hB2 : Below w.heap.size w W2 := Below.on' hBW hW2
  clear hcls cr cn cm
  go_wp2
  go_ret
  exact RV.mk (by rw [HE.out]; rfl) hB2
def lineTT (x : Ent) : ByteArray := if entB x.r x.n x.m x.t = true then lineT x else ⟨#[]⟩
def logTT (l : List Ent) : ByteArray := if logB l = true then allT l else ⟨#[]⟩
theorem ent_snoc {l : List Ent} {k : Nat} {x : Ent} (hx : l[k]? = some x) : allT (l.take (k + 1)) = allT (l.take k) ++ (lineT x ++ ⟨#[10]⟩) := by rw [take_snoc hx, allT_snoc]
theorem ents_take {l : List Ent} (h : entsB l) (k : Nat) : entsB (l.take k) := fun e he => h e (List.mem_of_mem_take he)
set_option maxHeartbeats 1000000 in
theorem lgAll_any (Al : Option Addr) (cl : Nat) (l : List Ent) (w : World) (hll : l.length ≤ 1048576) (hg : entsB l) (hSl : Ents w 0 w.heap.size Al l) : Calls Tryz.prog 68 #[.slice Al l.length cl] w (RV w (.string (allT l))) := by
  go_enter Tryz.func68, Tryz.ntmps68
  go_wp2_with fail
  go_loopw [3, 8] (fun v i wr => ∃ (k : Nat) (S : ByteArray), k ≤ l.length ∧ i = .int .i64 k ∧ v = .string S ∧ Hid (S = allT (l.take k)) ∧ Below w.heap.size w wr) (fun _ i _ => l.length - (intOf i).toNat)
  case atStart => exact ⟨0, _, Nat.zero_le _, rfl, rfl, Lib.hid rfl, Below.refl _ _⟩
  case round =>
    obtain ⟨k, S, hk, rfl, rfl, HS, hB⟩ := hrel
    by_cases hlt : k < l.length
    · obtain ⟨x, hx, hxm⟩ := get_lt hlt
      have hxe := hg x hxm
      have HN : Hid (S ++ (lineT x ++ ⟨#[10]⟩) = allT (l.take (k + 1))) := Lib.hid (by rw [ent_snoc hx, HS.out])
      have hs1 : S.size ≤ 55574528 := by
        rw [HS.out]
        have := allT_size (ents_take hg k)
        rw [List.length_take] at this
        omega
      have hs2 : (lineT x).size ≤ 52 := line_len hxe
      obtain ⟨b, off, rfl, _, _, _, hf⟩ := (hSl.below hB).at_ hx
      have c0 : wr.cell? ⟨b, off + k * 4, none⟩ = some (.int .i64 x.r) := (hf 0 _ rfl).1
      have c1 : wr.cell? ⟨b, off + k * 4 + 1, none⟩ = some (.int .i64 x.n) := (hf 1 _ rfl).1
      have c2 : wr.cell? ⟨b, off + k * 4 + 2, none⟩ = some (.int .i64 x.m) := (hf 2 _ rfl).1
      have c3 : wr.cell? ⟨b, off + k * 4 + 3, none⟩ = some (.string x.t) := (hf 3 _ rfl).1
      clear hf hx HS
      have hBW : Below w.heap.size w (wr.alloc (Obj.cells #[.int .i64 x.r, .int .i64 x.n, .int .i64 x.m, .string x.t] 33)) := hB.alloc hB.size _
      have hc : ∀ W, Below w.heap.size w W → Calls Tryz.prog 90 #[.agg #[.int .i64 x.r, .int .i64 x.n, .int .i64 x.m, .string x.t]] W (RV W (.string (lineT x))) := fun W _ => lgLine_any x hxe W
      generalize lineT x = L at hc HN hs2
      have hs3 : L.size + 1 ≤ 9223372036854775807 := by omega
      have hs4 : S.size + (L.size + 1) ≤ 9223372036854775807 := by omega
      go_wp2_with fail
      refine (hc _ hBW).mono ?_
      rintro e w1 ⟨rfl, hb⟩
      have hB1 := Below.on' hBW hb
      clear hb hBW c0 c1 c2 c3 hB
      go_wp2
      go_roundw
      case rel => exact ⟨k + 1, _, by omega, by go_num, rfl, HN, hB1⟩
      case measure => simp [intOf]; omega
    · have HE : Hid (S = allT l) := Lib.hid (by rw [HS.out, List.take_of_length_le (by omega)])
      clear HS
      go_wp2
      go_ret
      exact RV.mk (by rw [HE.out]; rfl) hB
set_option maxHeartbeats 1000000 in
theorem entriesText_any (Al : Option Addr) (cl : Nat) (l : List Ent) (w : World) (hll : l.length ≤ 1048576) (hg : entsB l) (hSl : Ents w 0 w.heap.size Al l) (hT : TabW w) : Calls Tryz.prog 67 #[.slice Al l.length cl] w (RV w (.string (allT l))) := by
  go_enter Tryz.func67, Tryz.ntmps67
  go_wp2_with fail
  go_loopw [3, 8] (fun v i wr => ∃ (k : Nat) (S : ByteArray), k ≤ l.length ∧ i = .int .i64 k ∧ v = .string S ∧ Hid (S = allT (l.take k)) ∧ Below w.heap.size w wr) (fun _ i _ => l.length - (intOf i).toNat)
  case atStart => exact ⟨0, _, Nat.zero_le _, rfl, rfl, Lib.hid rfl, Below.refl _ _⟩
  case round =>
    obtain ⟨k, S, hk, rfl, rfl, HS, hB⟩ := hrel
    by_cases hlt : k < l.length
    · obtain ⟨x, hx, hxm⟩ := get_lt hlt
      have hxe := hg x hxm
      have HN : Hid (S ++ (lineT x ++ ⟨#[10]⟩) = allT (l.take (k + 1))) := Lib.hid (by rw [ent_snoc hx, HS.out])
      have hs1 : S.size ≤ 55574528 := by
        rw [HS.out]
        have := allT_size (ents_take hg k)
        rw [List.length_take] at this
        omega
      have hs2 : (lineT x).size ≤ 52 := line_len hxe
      obtain ⟨b, off, rfl, _, _, _, hf⟩ := (hSl.below hB).at_ hx
      have c0 : wr.cell? ⟨b, off + k * 4, none⟩ = some (.int .i64 x.r) := (hf 0 _ rfl).1
      have c1 : wr.cell? ⟨b, off + k * 4 + 1, none⟩ = some (.int .i64 x.n) := (hf 1 _ rfl).1
      have c2 : wr.cell? ⟨b, off + k * 4 + 2, none⟩ = some (.int .i64 x.m) := (hf 2 _ rfl).1
      have c3 : wr.cell? ⟨b, off + k * 4 + 3, none⟩ = some (.string x.t) := (hf 3 _ rfl).1
      clear hf hx HS
      have hBW : Below w.heap.size w (wr.alloc (Obj.cells #[.int .i64 x.r, .int .i64 x.n, .int .i64 x.m, .string x.t] 33)) := hB.alloc hB.size _
      have hc : ∀ W, Below w.heap.size w W → Calls Tryz.prog 88 #[.agg #[.int .i64 x.r, .int .i64 x.n, .int .i64 x.m, .string x.t]] W (RV W (.string (lineT x))) := fun W hb => entryText_any x hxe W (hT.below hb)
      generalize lineT x = L at hc HN hs2
      have hs3 : L.size + 1 ≤ 9223372036854775807 := by omega
      have hs4 : S.size + (L.size + 1) ≤ 9223372036854775807 := by omega
      go_wp2_with fail
      refine (hc _ hBW).mono ?_
      rintro e w1 ⟨rfl, hb⟩
      have hB1 := Below.on' hBW hb
      clear hb hBW c0 c1 c2 c3 hB
      go_wp2
      go_roundw
      case rel => exact ⟨k + 1, _, by omega, by go_num, rfl, HN, hB1⟩
      case measure => simp [intOf]; omega
    · have HE : Hid (S = allT l) := Lib.hid (by rw [HS.out, List.take_of_length_le (by omega)])
      clear HS
      go_wp2
      go_ret
      exact RV.mk (by rw [HE.out]; rfl) hB
theorem EntryText_spec (x : Ent) (w : World) (ht : x.t.size ≤ maxLen) : Calls Tryz.prog 38 #[.agg #[.int .i64 x.r, .int .i64 x.n, .int .i64 x.m, .string x.t]] w (RV w (.tuple #[.string (lineTT x), .bool (entB x.r x.n x.m x.t)])) := by
  have hg : ∀ W, Calls Tryz.prog 89 #[.agg #[.int .i64 x.r, .int .i64 x.n, .int .i64 x.m, .string x.t]] W (RV W (.bool (entB x.r x.n x.m x.t))) := fun W => lgOne_any _ _ _ _ ht W
  unfold lineTT
  cases g : entB x.r x.n x.m x.t with
  | false =>
    rw [g] at hg
    rw [if_neg (by decide)]
    go_enter Tryz.func38, Tryz.ntmps38
    go_wp2_with fail
    refine (hg _).mono ?_
    rintro e w1 ⟨rfl, hb⟩
    have hB : Below w.heap.size w w1 := Below.on' (by go_grown) hb
    go_wp2
    go_ret2
    exact RV.mk rfl hB
  | true =>
    rw [g] at hg
    rw [if_pos rfl]
    have hc := fun W => lgLine_any x g W
    generalize lineT x = L at hc ⊢
    go_enter Tryz.func38, Tryz.ntmps38
    go_wp2_with fail
    refine (hg _).mono ?_
    rintro e w1 ⟨rfl, hb⟩
    have hB : Below w.heap.size w w1 := Below.on' (by go_grown) hb
    have c0 : w1.cell? ⟨w.heap.size, 0, none⟩ = some (.int .i64 x.r) := keep hb (by simp)
    have c1 : w1.cell? ⟨w.heap.size, 1, none⟩ = some (.int .i64 x.n) := keep hb (by simp)
    have c2 : w1.cell? ⟨w.heap.size, 2, none⟩ = some (.int .i64 x.m) := keep hb (by simp)
    have c3 : w1.cell? ⟨w.heap.size, 3, none⟩ = some (.string x.t) := keep hb (by simp)
    clear hb
    go_wp2_with fail
    refine (hc _).mono ?_
    rintro e w2 ⟨rfl, hb⟩
    have hB2 := Below.on' hB hb
    go_wp2
    go_ret2
    exact RV.mk rfl hB2
theorem EntryText_impl (x : Ent) (w : World) (ht : x.t.size ≤ maxLen) (hT : TabW w) : Calls Tryz.prog 37 #[.agg #[.int .i64 x.r, .int .i64 x.n, .int .i64 x.m, .string x.t]] w (RV w (.tuple #[.string (lineTT x), .bool (entB x.r x.n x.m x.t)])) := by
  have hg : ∀ W, Calls Tryz.prog 87 #[.agg #[.int .i64 x.r, .int .i64 x.n, .int .i64 x.m, .string x.t]] W (RV W (.bool (entB x.r x.n x.m x.t))) := fun W => isEntry_any _ _ _ _ ht W
  unfold lineTT
  cases g : entB x.r x.n x.m x.t with
  | false =>
    rw [g] at hg
    rw [if_neg (by decide)]
    go_enter Tryz.func37, Tryz.ntmps37
    go_wp2_with fail
    refine (hg _).mono ?_
    rintro e w1 ⟨rfl, hb⟩
    have hB : Below w.heap.size w w1 := Below.on' (by go_grown) hb
    go_wp2
    go_ret2
    exact RV.mk rfl hB
  | true =>
    rw [g] at hg
    rw [if_pos rfl]
    have hc := fun W (hW : TabW W) => entryText_any x g W hW
    generalize lineT x = L at hc ⊢
    go_enter Tryz.func37, Tryz.ntmps37
    go_wp2_with fail
    refine (hg _).mono ?_
    rintro e w1 ⟨rfl, hb⟩
    have hB : Below w.heap.size w w1 := Below.on' (by go_grown) hb
    have c0 : w1.cell? ⟨w.heap.size, 0, none⟩ = some (.int .i64 x.r) := keep hb (by simp)
    have c1 : w1.cell? ⟨w.heap.size, 1, none⟩ = some (.int .i64 x.n) := keep hb (by simp)
    have c2 : w1.cell? ⟨w.heap.size, 2, none⟩ = some (.int .i64 x.m) := keep hb (by simp)
    have c3 : w1.cell? ⟨w.heap.size, 3, none⟩ = some (.string x.t) := keep hb (by simp)
    clear hb
    go_wp2_with fail
    refine (hc _ (hT.below hB)).mono ?_
    rintro e w2 ⟨rfl, hb⟩
    have hB2 := Below.on' hB hb
    go_wp2
    go_ret2
    exact RV.mk rfl hB2
theorem LogText_spec (Al : Option Addr) (cl : Nat) (l : List Ent) (w : World) (hll : l.length ≤ 1048576) (hml : ∀ x ∈ l, x.t.size ≤ 1048576) (hSl : Ents w 0 w.heap.size Al l) (_hcl : l.length ≤ cl) : Calls Tryz.prog 21 #[.slice Al l.length cl] w (RV w (.tuple #[.string (logTT l), .bool (logB l)])) := by
  have hg := lgGood_any Al cl l w (big hll) (bigs hml) hSl
  unfold logTT
  cases g : logB l with
  | false =>
    rw [g] at hg
    rw [if_neg (by decide)]
    go_enter Tryz.func21, Tryz.ntmps21
    go_wp2_with fail
    refine hg.mono ?_
    rintro e w1 ⟨rfl, hb⟩
    go_wp2
    go_ret2
    exact RV.mk rfl hb
  | true =>
    rw [g] at hg
    rw [if_pos rfl]
    have hc := fun W hW => lgAll_any Al cl l W hll ((fun g => (logB_ents g).1) g) hW
    generalize allT l = L at hc ⊢
    go_enter Tryz.func21, Tryz.ntmps21
    go_wp2_with fail
    refine hg.mono ?_
    rintro e w1 ⟨rfl, hb⟩
    go_wp2_with fail
    refine (hc _ (hSl.below hb).all).mono ?_
    rintro e w2 ⟨rfl, hb2⟩
    have hB2 := Below.on' hb hb2
    go_wp2
    go_ret2
    exact RV.mk rfl hB2
theorem LogText_impl (Al : Option Addr) (cl : Nat) (l : List Ent) (w : World) (hll : l.length ≤ 1048576) (hml : ∀ x ∈ l, x.t.size ≤ 1048576) (hSl : Ents w 0 w.heap.size Al l) (_hcl : l.length ≤ cl) (hT : TabW w) : Calls Tryz.prog 20 #[.slice Al l.length cl] w (RV w (.tuple #[.string (logTT l), .bool (logB l)])) := by
  have hg := isLog_any Al cl l w (big hll) (bigs hml) hSl
  unfold logTT
  cases g : logB l with
  | false =>
    rw [g] at hg
    rw [if_neg (by decide)]
    go_enter Tryz.func20, Tryz.ntmps20
    go_wp2_with fail
    refine hg.mono ?_
    rintro e w1 ⟨rfl, hb⟩
    go_wp2
    go_ret2
    exact RV.mk rfl hb
  | true =>
    rw [g] at hg
    rw [if_pos rfl]
    have hc := fun W hW (hWT : TabW W) => entriesText_any Al cl l W hll ((fun g => (logB_ents g).1) g) hW hWT
    generalize allT l = L at hc ⊢
    go_enter Tryz.func20, Tryz.ntmps20
    go_wp2_with fail
    refine hg.mono ?_
    rintro e w1 ⟨rfl, hb⟩
    go_wp2_with fail
    refine (hc _ (hSl.below hb).all (hT.below hb)).mono ?_
    rintro e w2 ⟨rfl, hb2⟩
    have hB2 := Below.on' hb hb2
    go_wp2
    go_ret2
    exact RV.mk rfl hB2
end Go.Proofs.YtmdmcjhodhphgaaGreatDoor
