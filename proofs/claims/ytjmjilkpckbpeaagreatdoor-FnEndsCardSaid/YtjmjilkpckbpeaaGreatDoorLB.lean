/- Several texts of this seat, one behind the other. Messages in memory, and the law's own helpers over them: copying, measuring, comparing, marking. No conditions. Messages that come in as arguments, opened. No conditions. Messages: writing marks into them and reading the marks back. Condition: the numbers of the marks lie in 1 .. 99999999. Messages: two compared; a list searched, copied. Condition of each: at most 2^20 elements. Appliances in memory, and the law's own helpers over them: copying, measuring, comparing, marking. No conditions. Appliances that come in as arguments, opened. No conditions. Appliances: writing marks into them and reading the marks back. Condition: the numbers of the marks lie in 1 .. 99999999. Appliances: two compared; a list searched, copied. Condition of each: at most 2^20 elements. -/
import Derived.Test.YtjmjilkpckbpeaaGreatDoorLA
import Derived.StillTailTactics
import Derived.Deep.RegionHeld3
import Derived.OwnWalk
import Derived.BigQuiet
import Derived.Shelf.Abstract
namespace Go.Proofs.YtjmjilkpckbpeaaGreatDoor
open Go.RowKit

structure Msg where
  f : ByteArray
  n : Int
  b : ByteArray
def Msg.cells (e : Msg) : List Value := [.string e.f, .int .i64 e.n, .string e.b]
theorem Msg.len (e : Msg) : e.cells.length = 3 := rfl
abbrev Msgs (w : World) (lo hi : Nat) (A : Option Addr) (l : List Msg) : Prop := Sl Msg.cells 3 w lo hi A l

theorem Msg.info : (Tryz.prog.info? 33).map (fun i => (i.zero, i.size, i.bytes)) = some (some (.agg #[.string ⟨#[]⟩, .int .i64 0, .string ⟨#[]⟩]), 3, 40) := by kernel_rfl
end Go.Proofs.YtjmjilkpckbpeaaGreatDoor
namespace Go.Proofs.YtjmjilkpckbpeaaGreatDoor
open Go.ChangeShapes Go.WideShapes Go.ChangeAt Go.RowKit Go.Joins Go.Deep

section
variable {H : Type} {enc : TypeId × Value → H} {W : World}
end
end Go.Proofs.YtjmjilkpckbpeaaGreatDoor
namespace Go.Proofs.YtjmjilkpckbpeaaGreatDoor
open Go.RowKit

def Msg.mk1 (k : Int) : Msg := ⟨mt (k), k + 1, mt (k + 1 + 1)⟩
def Msg.mkL (k : Int) : Nat → List Msg
  | 0 => []
  | n + 1 => Msg.mkL k n ++ [Msg.mk1 (k + 3 * n)]
theorem Msg.mkL_len (k : Int) : ∀ n, (Msg.mkL k n).length = n
  | 0 => rfl
  | n + 1 => by simp [Msg.mkL, Msg.mkL_len k n]
theorem Msg.mkL_at {k : Int} : ∀ {n q : Nat}, q < n → (Msg.mkL k n)[q]? = some (Msg.mk1 (k + 3 * q))
  | 0, q, h => by omega
  | n + 1, q, h => by
    rw [Msg.mkL]
    by_cases hq : q < n
    · rw [List.getElem?_append_left (by rw [Msg.mkL_len]; exact hq)]; exact Msg.mkL_at hq
    · obtain rfl : q = n := by omega
      rw [List.getElem?_append_right (by rw [Msg.mkL_len]; omega), Msg.mkL_len]; simp
theorem Msg.mkL_set {k : Int} {l : List Msg} {q : Nat} {x : Msg} (hx : l[q]? = some x) : (Msg.mkL k q ++ l.drop q)[q]? = some x ∧ (Msg.mkL k q ++ l.drop q).set q (Msg.mk1 (k + 3 * q)) = Msg.mkL k (q + 1) ++ l.drop (q + 1) := by
  obtain ⟨hq, rfl⟩ := List.getElem?_eq_some_iff.1 hx
  constructor
  · rw [List.getElem?_append_right (by rw [Msg.mkL_len]; omega), Msg.mkL_len]; simp [hq]
  · rw [List.set_append_right _ _ (by rw [Msg.mkL_len]; omega), Msg.mkL_len, Nat.sub_self, List.drop_eq_getElem_cons hq, List.set_cons_zero, Msg.mkL, List.append_assoc]; rfl

end Go.Proofs.YtjmjilkpckbpeaaGreatDoor
namespace Go.Proofs.YtjmjilkpckbpeaaGreatDoor
open Go.RowKit

def Msg.eqB (x y : Msg) : Bool := decide (x.f.toList = y.f.toList) && decide (x.n = y.n) && decide (x.b.toList = y.b.toList)
theorem Msg.eqB_comm (x y : Msg) : Msg.eqB x y = Msg.eqB y x := by unfold Msg.eqB; simp only [eq_comm]
theorem Msg.eqB_iff {x y : Msg} : Msg.eqB x y = true ↔ x = y := by
  cases x; cases y
  simp only [Msg.eqB, Bool.and_eq_true, decide_eq_true_eq, Msg.mk.injEq]
  constructor
  · intro h
    simp only [and_assoc] at h
    obtain ⟨h0, h1, h2⟩ := h
    exact ⟨toList_inj h0, h1, toList_inj h2⟩
  · intro h
    obtain ⟨h0, h1, h2⟩ := h
    subst h0 h1 h2
    simp
theorem Msg.eql (x y : Msg) (w : World) : (binOp .eql 33 (.agg #[.string x.f, .int .i64 x.n, .string x.b]) (.agg #[.string y.f, .int .i64 y.n, .string y.b])).run Tryz.prog w = .ok (.bool (Msg.eqB x y)) w := by
  go_simp
  by_cases q0 : x.f.toList = y.f.toList <;> by_cases q1 : x.n = y.n <;> by_cases q2 : x.b.toList = y.b.toList <;> simp [Msg.eqB, q0, q1, q2]
theorem Msg.one (x : Msg) : ∀ u ∈ x.cells, u.oneCell' = true := by
  intro u hu
  simp [Msg.cells] at hu
  rcases hu with rfl | rfl | rfl <;> rfl
/-- The predicate p, as the function value g with what it captured. -/
def Msg.Pred (g : FuncId) (lb : Array Value) (p : Msg → Bool) (lo hi : Nat) (l : List Msg) (w : World) : Prop :=
  ∀ (W : World) (x : Msg), x ∈ l → Fr lo hi w W → Calls Tryz.prog g (#[.agg #[.string x.f, .int .i64 x.n, .string x.b]] ++ lb) W fun e w' => e = .returned (.bool (p x)) ∧ Below W.heap.size W w'
set_option maxHeartbeats 1000000 in
theorem Msg.IndexFunc_any (g : FuncId) (lb : Array Value) (p : Msg → Bool) (A : Option Addr) (c lo hi lo' hi' : Nat) (l : List Msg) (w : World) (eg : Enters g) (hl : l.length ≤ 1048576) (hS : Msgs w lo hi A l) (hp : Msg.Pred g lb p lo' hi' l w) :
    Calls Tryz.prog 133 #[.slice A l.length c, .func (.func g) #[] lb] w (RV w (.int .i64 (idxG p l 0))) := by
  have eg' : ∀ args w, (callFunc g args).run Tryz.prog w = .ok (.enter g args) w := eg
  go_enter Tryz.func133, Tryz.ntmps133
  go_wp2_with fail
  go_loopw [8] (fun i wr => ∃ k : Nat, k ≤ l.length ∧ i = .int .i64 k ∧ Hid (idxG p (l.drop k) k = idxG p l 0) ∧ Below w.heap.size w wr) (fun i _ => l.length - (intOf i).toNat)
  case atStart => exact ⟨0, Nat.zero_le _, rfl, rfl, Below.refl _ _⟩
  case round =>
    obtain ⟨k, hk, rfl, HF, hB⟩ := hrel
    by_cases hlt : k < l.length
    · obtain ⟨x, hx, hx2⟩ := get_lt hlt
      have HC := Lib.hid (idxG_step (p := p) hx)
      obtain ⟨b, off, rfl, _, _, _, hf⟩ := (hS.below hB).at_ hx
      have c0 : wr.cell? ⟨b, off + k * 3, none⟩ = some (.string x.f) := (hf 0 _ rfl).1
      have c1 : wr.cell? ⟨b, off + k * 3 + 1, none⟩ = some (.int .i64 x.n) := (hf 1 _ rfl).1
      have c2 : wr.cell? ⟨b, off + k * 3 + 2, none⟩ = some (.string x.b) := (hf 2 _ rfl).1
      have hcall := hp wr x hx2 ⟨hB.os, hB.tape, hB.output, hB.size, fun b hb _ => hB.block b hb⟩
      clear hf hx hx2
      cases hq : p x with
      | true =>
        have HQ := Lib.hid (HC.out.trans (if_pos hq))
        rw [hq] at hcall
        clear HC hq
        go_wp2_with (go_at_fn g; refine hcall.mono ?_; rintro e w1 ⟨rfl, hb⟩)
        go_ret
        exact RV.mk (by rw [← HF.out, HQ.out]; rfl) (Below.on' hB hb)
      | false =>
        have HQ := Lib.hid (HC.out.trans (if_neg (by rw [hq]; exact Bool.false_ne_true)))
        rw [hq] at hcall
        clear HC hq
        go_wp2_with (go_at_fn g; refine hcall.mono ?_; rintro e w1 ⟨rfl, hb⟩)
        have hB1 := Below.on' hB hb
        go_roundw
        case rel => exact ⟨k + 1, by omega, by go_num, Lib.hid (HQ.out.symm.trans HF.out), hB1⟩
        case measure => simp [intOf]; omega
    · have hd : l.drop k = [] := List.drop_of_length_le (by omega)
      have HE : Hid ((-1 : Int) = idxG p l 0) := Lib.hid (by have := HF.out; rw [hd] at this; exact this)
      clear hd HF
      go_wp2
      go_ret
      exact RV.mk (by rw [← HE.out]; rfl) hB
set_option maxRecDepth 100000 in
set_option maxHeartbeats 4000000 in
theorem Msg.Index_any (A : Option Addr) (c : Nat) (l : List Msg) (e : Msg) (w : World) (hl : l.length ≤ 1048576) (hS : Msgs w 0 w.heap.size A l) :
    Calls Tryz.prog 135 #[.slice A l.length c, .agg #[.string e.f, .int .i64 e.n, .string e.b]] w (RV w (.int .i64 (idxG (fun y => Msg.eqB e y) l 0))) := by
  have hbox : ∀ W, Below (w.alloc (Obj.cells #[.string e.f, .int .i64 e.n, .string e.b] 33)).heap.size (w.alloc (Obj.cells #[.string e.f, .int .i64 e.n, .string e.b] 33)) W → W.cell? ⟨w.heap.size, 0, none⟩ = some (.string e.f) ∧ W.cell? ⟨w.heap.size, 1, none⟩ = some (.int .i64 e.n) ∧ W.cell? ⟨w.heap.size, 2, none⟩ = some (.string e.b) := fun W hb =>
    have H := fun t u hu => keep hb (new_cells (E := Msg.cells) w 33 e _ rfl t u hu)
    ⟨H 0 _ rfl, H 1 _ rfl, H 2 _ rfl⟩
  have hS0 := (hS.alloc (Obj.cells #[.string e.f, .int .i64 e.n, .string e.b] 33)).all
  go_enter Tryz.func135, Tryz.ntmps135
  go_wp2_with fail
  generalize hV : w.alloc (Obj.cells #[.string e.f, .int .i64 e.n, .string e.b] 33) = V at hbox hS0 ⊢
  have hBV : Below w.heap.size w V := by rw [← hV]; go_grown
  clear hV hS
  go_loopw [8] (fun i wr => ∃ k : Nat, k ≤ l.length ∧ i = .int .i64 k ∧ Hid (idxG (fun y => Msg.eqB e y) (l.drop k) k = idxG (fun y => Msg.eqB e y) l 0) ∧ Below V.heap.size V wr) (fun i _ => l.length - (intOf i).toNat)
  case atStart => exact ⟨0, Nat.zero_le _, rfl, rfl, Below.refl _ _⟩
  case round =>
    obtain ⟨k, hk, rfl, HF, hB⟩ := hrel
    by_cases hlt : k < l.length
    · obtain ⟨x, hx, _⟩ := get_lt hlt
      have HC := Lib.hid (idxG_step (p := fun y => Msg.eqB e y) hx)
      obtain ⟨b, off, rfl, _, _, _, hf⟩ := (hS0.below hB).at_ hx
      have c0 : wr.cell? ⟨b, off + k * 3, none⟩ = some (.string x.f) := (hf 0 _ rfl).1
      have c1 : wr.cell? ⟨b, off + k * 3 + 1, none⟩ = some (.int .i64 x.n) := (hf 1 _ rfl).1
      have c2 : wr.cell? ⟨b, off + k * 3 + 2, none⟩ = some (.string x.b) := (hf 2 _ rfl).1
      clear hf hx
      have hkk : (k : Int) < l.length := by omega
      have hcls : ∀ w', Below wr.heap.size wr w' → w'.cell? ⟨b, off + k * 3, none⟩ = some (.string x.f) ∧ w'.cell? ⟨b, off + k * 3 + 1, none⟩ = some (.int .i64 x.n) ∧ w'.cell? ⟨b, off + k * 3 + 2, none⟩ = some (.string x.b) ∧ w'.cell? ⟨w.heap.size, 0, none⟩ = some (.string e.f) ∧ w'.cell? ⟨w.heap.size, 1, none⟩ = some (.int .i64 e.n) ∧ w'.cell? ⟨w.heap.size, 2, none⟩ = some (.string e.b) :=
        fun w' h => ⟨keep h c0, keep h c1, keep h c2, hbox w' (Below.on' hB h)⟩
      clear c0 c1 c2
      have heq := Msg.eql e x
      go_wp2_with fail
      refine wp_region_quiet (C := fun w' => Below wr.heap.size wr w') (by kernel_rfl) (by kernel_rfl) ((Below.refl _ _).drew) ?_
      dsimp only [Array.toList]
      iterate 6
        with_reducible refine wpQuiet_step (fun K hK => ?_)
        go_simp
        first
          | (refine hK _ ?_; clear hK K)
          | (apply Exists.intro
             refine ⟨fun w' hw' => ?_, hK _ ?_⟩
             · obtain ⟨z0, z1, z2, z3, z4, z5⟩ := hcls w' hw'
               have hqq := heq w'
               first
                 | (go_simp; rfl)
                 | (simp only [Sem.run] at hqq; exact hqq)
             clear hK K)
      refine wpQuiet_nil ?_
      intro W2 hW2
      have hB2 : Below V.heap.size V W2 := Below.on' hB hW2
      clear hcls hW2 hB heq
      by_cases hq : Msg.eqB e x = true
      · have HQ := Lib.hid (HC.out.trans (if_pos hq))
        clear HC
        rw [hq]
        go_wp2
        go_ret
        exact RV.mk (by rw [← HF.out, HQ.out]; rfl) (hBV.trans (hB2.mono hBV.size))
      · have HQ := Lib.hid (HC.out.trans (if_neg hq))
        have hq : Msg.eqB e x = false := by simpa using hq
        clear HC
        rw [hq]
        go_wp2
        go_roundw
        case rel => exact ⟨k + 1, by omega, by go_num, Lib.hid (HQ.out.symm.trans HF.out), hB2⟩
        case measure => simp [intOf]; omega
    · have hd : l.drop k = [] := List.drop_of_length_le (by omega)
      have HE : Hid ((-1 : Int) = idxG (fun y => Msg.eqB e y) l 0) := Lib.hid (by have := HF.out; rw [hd] at this; exact this)
      clear hd HF
      go_wp2
      go_ret
      exact RV.mk (by rw [← HE.out]; rfl) (hBV.trans (hB.mono hBV.size))
set_option maxHeartbeats 1000000 in
theorem Msg.Contains_any (A : Option Addr) (c : Nat) (l : List Msg) (e : Msg) (w : World) (hl : l.length ≤ 1048576) (hS : Msgs w 0 w.heap.size A l) :
    Calls Tryz.prog 78 #[.slice A l.length c, .agg #[.string e.f, .int .i64 e.n, .string e.b]] w (RV w (.bool (l.any fun y => Msg.eqB e y))) := by
  have HM := Lib.hid (idxG_any (fun y => Msg.eqB e y) l)
  have hS0 := (hS.alloc (Obj.cells #[.string e.f, .int .i64 e.n, .string e.b] 33)).all
  go_enter Tryz.func78, Tryz.ntmps78
  go_wp2_with fail
  refine (Msg.Index_any A c l e _ hl hS0).mono ?_
  rintro e w1 ⟨rfl, hb⟩
  have hB : Below w.heap.size w w1 := Below.on' (by go_grown) hb
  go_wp2
  all_goals go_ret
  all_goals exact RV.mk (by rw [← HM.out]; first | rfl | (simp; done) | skip) hB
theorem Msg.Clone_any (Al : Option Addr) (cl : Nat) (l : List Msg) (w : World) (hll : l.length ≤ 1048576) (hSl : Msgs w 0 w.heap.size Al l) : Calls Tryz.prog 76 #[.slice Al l.length cl] w (RO1 Msg.cells 3 33 w l) := by
  obtain ⟨i0, hi0, hz0, hz1, hz2⟩ := info_parts Msg.info
  have qn : ∀ (w : World) (a : Option Addr) (n c n' c' : Nat), (binOp .eql 24 (.slice a n c) (.slice none n' c')).run Tryz.prog w = .ok (.bool a.isNone) w := fun w a n c n' c' => Lib.run_eql_slice_nil w _ _ a n c n' c' Tryz.underlying24
  cases Al with
  | none =>
    have hl0 := hSl.none_nil
    subst hl0
    go_enter Tryz.func76, Tryz.ntmps76
    go_wp2
    go_ret
    exact ⟨none, 0, rfl, Own.nil_, Below.refl _ _⟩
  | some ad =>
    go_enter Tryz.func76, Tryz.ntmps76
    go_wp2_with (at_builtin; refine wpList_append_all _ rfl (.tmp 5) (.tmp 6) _ rfl i0 _ _ Tryz.underlying24 hi0 hz0 hz1 hz2 rfl (by omega) Msg.len Msg.one (Own.empty w (Nat.le_refl _)) (hSl.alloc _) rfl rfl (by unfold maxLen; first | omega | (simp; omega)) (by first | omega | (simp; omega)) (by first | exact Nat.le_refl _ | (simp; done) | omega) ?_; intro A' c' w1 L hL hO hB; have hB1 : Below w.heap.size w w1 := Below.trans (by go_grown) hB)
    clear hi0 hz0 hz1 hz2 hB qn
    go_ret
    obtain rfl : L = l := hL.out
    exact ⟨A', c', rfl, hO, hB1⟩
end Go.Proofs.YtjmjilkpckbpeaaGreatDoor
namespace Go.Proofs.YtjmjilkpckbpeaaGreatDoor
open Go.RowKit

structure App where
  nm : ByteArray
  kd : Int
  nd : Int
  cw : Int
  st : Int
def App.cells (e : App) : List Value := [.string e.nm, .int .i64 e.kd, .int .i64 e.nd, .int .i64 e.cw, .int .i64 e.st]
theorem App.len (e : App) : e.cells.length = 5 := rfl
abbrev Apps (w : World) (lo hi : Nat) (A : Option Addr) (l : List App) : Prop := Sl App.cells 5 w lo hi A l

theorem App.info : (Tryz.prog.info? 73).map (fun i => (i.zero, i.size, i.bytes)) = some (some (.agg #[.string ⟨#[]⟩, .int .i64 0, .int .i64 0, .int .i64 0, .int .i64 0]), 5, 48) := by kernel_rfl
end Go.Proofs.YtjmjilkpckbpeaaGreatDoor
namespace Go.Proofs.YtjmjilkpckbpeaaGreatDoor
open Go.ChangeShapes Go.WideShapes Go.ChangeAt Go.RowKit Go.Joins Go.Deep

section
variable {H : Type} {enc : TypeId × Value → H} {W : World}
end
end Go.Proofs.YtjmjilkpckbpeaaGreatDoor
namespace Go.Proofs.YtjmjilkpckbpeaaGreatDoor
open Go.RowKit

def App.mk1 (k : Int) : App := ⟨mt (k), k + 1, k + 1 + 1, k + 1 + 1 + 1, k + 1 + 1 + 1 + 1⟩
def App.mkL (k : Int) : Nat → List App
  | 0 => []
  | n + 1 => App.mkL k n ++ [App.mk1 (k + 5 * n)]
theorem App.mkL_len (k : Int) : ∀ n, (App.mkL k n).length = n
  | 0 => rfl
  | n + 1 => by simp [App.mkL, App.mkL_len k n]
theorem App.mkL_at {k : Int} : ∀ {n q : Nat}, q < n → (App.mkL k n)[q]? = some (App.mk1 (k + 5 * q))
  | 0, q, h => by omega
  | n + 1, q, h => by
    rw [App.mkL]
    by_cases hq : q < n
    · rw [List.getElem?_append_left (by rw [App.mkL_len]; exact hq)]; exact App.mkL_at hq
    · obtain rfl : q = n := by omega
      rw [List.getElem?_append_right (by rw [App.mkL_len]; omega), App.mkL_len]; simp
theorem App.mkL_set {k : Int} {l : List App} {q : Nat} {x : App} (hx : l[q]? = some x) : (App.mkL k q ++ l.drop q)[q]? = some x ∧ (App.mkL k q ++ l.drop q).set q (App.mk1 (k + 5 * q)) = App.mkL k (q + 1) ++ l.drop (q + 1) := by
  obtain ⟨hq, rfl⟩ := List.getElem?_eq_some_iff.1 hx
  constructor
  · rw [List.getElem?_append_right (by rw [App.mkL_len]; omega), App.mkL_len]; simp [hq]
  · rw [List.set_append_right _ _ (by rw [App.mkL_len]; omega), App.mkL_len, Nat.sub_self, List.drop_eq_getElem_cons hq, List.set_cons_zero, App.mkL, List.append_assoc]; rfl

end Go.Proofs.YtjmjilkpckbpeaaGreatDoor
namespace Go.Proofs.YtjmjilkpckbpeaaGreatDoor
open Go.RowKit

def App.eqB (x y : App) : Bool := decide (x.nm.toList = y.nm.toList) && decide (x.kd = y.kd) && decide (x.nd = y.nd) && decide (x.cw = y.cw) && decide (x.st = y.st)
theorem App.eqB_comm (x y : App) : App.eqB x y = App.eqB y x := by unfold App.eqB; simp only [eq_comm]
theorem App.eqB_iff {x y : App} : App.eqB x y = true ↔ x = y := by
  cases x; cases y
  simp only [App.eqB, Bool.and_eq_true, decide_eq_true_eq, App.mk.injEq]
  constructor
  · intro h
    simp only [and_assoc] at h
    obtain ⟨h0, h1, h2, h3, h4⟩ := h
    exact ⟨toList_inj h0, h1, h2, h3, h4⟩
  · intro h
    obtain ⟨h0, h1, h2, h3, h4⟩ := h
    subst h0 h1 h2 h3 h4
    simp
theorem App.eql (x y : App) (w : World) : (binOp .eql 73 (.agg #[.string x.nm, .int .i64 x.kd, .int .i64 x.nd, .int .i64 x.cw, .int .i64 x.st]) (.agg #[.string y.nm, .int .i64 y.kd, .int .i64 y.nd, .int .i64 y.cw, .int .i64 y.st])).run Tryz.prog w = .ok (.bool (App.eqB x y)) w := by
  go_simp
  by_cases q0 : x.nm.toList = y.nm.toList <;> by_cases q1 : x.kd = y.kd <;> by_cases q2 : x.nd = y.nd <;> by_cases q3 : x.cw = y.cw <;> by_cases q4 : x.st = y.st <;> simp [App.eqB, q0, q1, q2, q3, q4]
theorem App.one (x : App) : ∀ u ∈ x.cells, u.oneCell' = true := by
  intro u hu
  simp [App.cells] at hu
  rcases hu with rfl | rfl | rfl | rfl | rfl <;> rfl
/-- The predicate p, as the function value g with what it captured. -/
def App.Pred (g : FuncId) (lb : Array Value) (p : App → Bool) (lo hi : Nat) (l : List App) (w : World) : Prop :=
  ∀ (W : World) (x : App), x ∈ l → Fr lo hi w W → Calls Tryz.prog g (#[.agg #[.string x.nm, .int .i64 x.kd, .int .i64 x.nd, .int .i64 x.cw, .int .i64 x.st]] ++ lb) W fun e w' => e = .returned (.bool (p x)) ∧ Below W.heap.size W w'
set_option maxHeartbeats 1000000 in
theorem App.IndexFunc_any (g : FuncId) (lb : Array Value) (p : App → Bool) (A : Option Addr) (c lo hi lo' hi' : Nat) (l : List App) (w : World) (eg : Enters g) (hl : l.length ≤ 1048576) (hS : Apps w lo hi A l) (hp : App.Pred g lb p lo' hi' l w) :
    Calls Tryz.prog 151 #[.slice A l.length c, .func (.func g) #[] lb] w (RV w (.int .i64 (idxG p l 0))) := by
  have eg' : ∀ args w, (callFunc g args).run Tryz.prog w = .ok (.enter g args) w := eg
  go_enter Tryz.func151, Tryz.ntmps151
  go_wp2_with fail
  go_loopw [8] (fun i wr => ∃ k : Nat, k ≤ l.length ∧ i = .int .i64 k ∧ Hid (idxG p (l.drop k) k = idxG p l 0) ∧ Below w.heap.size w wr) (fun i _ => l.length - (intOf i).toNat)
  case atStart => exact ⟨0, Nat.zero_le _, rfl, rfl, Below.refl _ _⟩
  case round =>
    obtain ⟨k, hk, rfl, HF, hB⟩ := hrel
    by_cases hlt : k < l.length
    · obtain ⟨x, hx, hx2⟩ := get_lt hlt
      have HC := Lib.hid (idxG_step (p := p) hx)
      obtain ⟨b, off, rfl, _, _, _, hf⟩ := (hS.below hB).at_ hx
      have c0 : wr.cell? ⟨b, off + k * 5, none⟩ = some (.string x.nm) := (hf 0 _ rfl).1
      have c1 : wr.cell? ⟨b, off + k * 5 + 1, none⟩ = some (.int .i64 x.kd) := (hf 1 _ rfl).1
      have c2 : wr.cell? ⟨b, off + k * 5 + 2, none⟩ = some (.int .i64 x.nd) := (hf 2 _ rfl).1
      have c3 : wr.cell? ⟨b, off + k * 5 + 3, none⟩ = some (.int .i64 x.cw) := (hf 3 _ rfl).1
      have c4 : wr.cell? ⟨b, off + k * 5 + 4, none⟩ = some (.int .i64 x.st) := (hf 4 _ rfl).1
      have hcall := hp wr x hx2 ⟨hB.os, hB.tape, hB.output, hB.size, fun b hb _ => hB.block b hb⟩
      clear hf hx hx2
      cases hq : p x with
      | true =>
        have HQ := Lib.hid (HC.out.trans (if_pos hq))
        rw [hq] at hcall
        clear HC hq
        go_wp2_with (go_at_fn g; refine hcall.mono ?_; rintro e w1 ⟨rfl, hb⟩)
        go_ret
        exact RV.mk (by rw [← HF.out, HQ.out]; rfl) (Below.on' hB hb)
      | false =>
        have HQ := Lib.hid (HC.out.trans (if_neg (by rw [hq]; exact Bool.false_ne_true)))
        rw [hq] at hcall
        clear HC hq
        go_wp2_with (go_at_fn g; refine hcall.mono ?_; rintro e w1 ⟨rfl, hb⟩)
        have hB1 := Below.on' hB hb
        go_roundw
        case rel => exact ⟨k + 1, by omega, by go_num, Lib.hid (HQ.out.symm.trans HF.out), hB1⟩
        case measure => simp [intOf]; omega
    · have hd : l.drop k = [] := List.drop_of_length_le (by omega)
      have HE : Hid ((-1 : Int) = idxG p l 0) := Lib.hid (by have := HF.out; rw [hd] at this; exact this)
      clear hd HF
      go_wp2
      go_ret
      exact RV.mk (by rw [← HE.out]; rfl) hB
theorem App.Clone_any (Al : Option Addr) (cl : Nat) (l : List App) (w : World) (hll : l.length ≤ 1048576) (hSl : Apps w 0 w.heap.size Al l) : Calls Tryz.prog 105 #[.slice Al l.length cl] w (RO1 App.cells 5 73 w l) := by
  obtain ⟨i0, hi0, hz0, hz1, hz2⟩ := info_parts App.info
  have qn : ∀ (w : World) (a : Option Addr) (n c n' c' : Nat), (binOp .eql 50 (.slice a n c) (.slice none n' c')).run Tryz.prog w = .ok (.bool a.isNone) w := fun w a n c n' c' => Lib.run_eql_slice_nil w _ _ a n c n' c' Tryz.underlying50
  cases Al with
  | none =>
    have hl0 := hSl.none_nil
    subst hl0
    go_enter Tryz.func105, Tryz.ntmps105
    go_wp2
    go_ret
    exact ⟨none, 0, rfl, Own.nil_, Below.refl _ _⟩
  | some ad =>
    go_enter Tryz.func105, Tryz.ntmps105
    go_wp2_with (at_builtin; refine wpList_append_all _ rfl (.tmp 5) (.tmp 6) _ rfl i0 _ _ Tryz.underlying50 hi0 hz0 hz1 hz2 rfl (by omega) App.len App.one (Own.empty w (Nat.le_refl _)) (hSl.alloc _) rfl rfl (by unfold maxLen; first | omega | (simp; omega)) (by first | omega | (simp; omega)) (by first | exact Nat.le_refl _ | (simp; done) | omega) ?_; intro A' c' w1 L hL hO hB; have hB1 : Below w.heap.size w w1 := Below.trans (by go_grown) hB)
    clear hi0 hz0 hz1 hz2 hB qn
    go_ret
    obtain rfl : L = l := hL.out
    exact ⟨A', c', rfl, hO, hB1⟩
end Go.Proofs.YtjmjilkpckbpeaaGreatDoor
