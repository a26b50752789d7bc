/- Slices that a call builds itself: their rows are its own, appending to them in plain words. No conditions. -/
import Derived.Test.YtacjdapfbmdddaaMem
import Derived.OwnWalk
import Derived.Laws.AppendOwnNone
import Derived.Lib.Hide
namespace Go.Proofs.Ytacjdapfbmdddaa
open Go.RowKit

theorem Sl.all {α : Type} {E : α → List Value} {k : Nat} {w : World} {lo hi : Nat} {A : Option Addr} {l : List α} (h : Sl E k w lo hi A l) : Sl E k w 0 w.heap.size A l := fun hn => by
  obtain ⟨b, off, e, c, d, g, f⟩ := h hn
  exact ⟨b, off, e, Nat.zero_le _, by omega, Nat.le_refl _, f⟩
theorem big {n : Nat} (h : n ≤ 1048576) : n ≤ maxLen := by unfold maxLen; omega
theorem bigs {α : Type} {f : α → Nat} {l : List α} (h : ∀ x ∈ l, f x ≤ 1048576) : ∀ x ∈ l, f x ≤ maxLen := fun x hx => big (h x hx)

/-- The slice value with address A and capacity c lies in a row of the call's own, in a block from base on, and reads l. -/
def Own {α : Type} (E : α → List Value) (k : Nat) (T : TypeId) (w : World) (base : Nat) (A : Option Addr) (c : Nat) (l : List α) : Prop :=
  w.ownsRow base T k (.slice A l.length c) l.length (l.flatMap E)

section
variable {α : Type} {E : α → List Value} {k : Nat} {T : TypeId} {w w' : World} {base : Nat} {A : Option Addr} {c : Nat} {l : List α}

theorem Own.nil_ : Own E k T w base none 0 ([] : List α) := ⟨by simp, .inl ⟨rfl, rfl⟩⟩
theorem flat_len (hE : ∀ x, (E x).length = k) : ∀ l : List α, (l.flatMap E).length = l.length * k
  | [] => by simp
  | x :: l => by rw [List.flatMap_cons, List.length_append, flat_len hE l, hE, List.length_cons, Nat.add_mul, Nat.one_mul, Nat.add_comm]
theorem flat_at (hE : ∀ x, (E x).length = k) : ∀ (l : List α) (i : Nat) (x : α), l[i]? = some x → ∀ j v, (E x)[j]? = some v → (l.flatMap E)[i * k + j]? = some v
  | [], i, x, h, _, _, _ => by simp at h
  | y :: l, 0, x, h, j, v, hv => by
    have : y = x := by simpa using h
    subst this
    have hj := (List.getElem?_eq_some_iff.1 hv).1
    rw [List.flatMap_cons, Nat.zero_mul, Nat.zero_add, List.getElem?_append_left hj]
    exact hv
  | y :: l, i + 1, x, h, j, v, hv => by
    have h' : l[i]? = some x := by simpa using h
    rw [List.flatMap_cons, List.getElem?_append_right (by rw [hE, Nat.add_mul]; omega), hE]
    rw [show (i + 1) * k + j - k = i * k + j by rw [Nat.add_mul]; omega]
    exact flat_at hE l i x h' j v hv
theorem Own.sl (h : Own E k T w base A c l) (hE : ∀ x, (E x).length = k) : Sl E k w base w.heap.size A l := fun hn => by
  rcases h.2 with ⟨h1, _⟩ | ⟨g, cap, cur, h1, hb, hg, hc, _, hs, ht⟩
  · injection h1 with _ h1 _
    exact absurd (List.eq_nil_of_length_eq_zero h1) hn
  · injection h1 with h1 _ h2
    subst h1
    have hlt : g < w.heap.size := by
      rcases Nat.lt_or_ge g w.heap.size with hlt | hge
      · exact hlt
      · rw [Array.getElem?_eq_none hge] at hg; cases hg
    refine ⟨g, 0, rfl, hb, hlt, Nat.le_refl _, fun i x hx j v hv => ⟨?_, ?_⟩⟩
    · have hi := (List.getElem?_eq_some_iff.1 hx).1
      have hj := (List.getElem?_eq_some_iff.1 hv).1
      rw [hE] at hj
      have hlt2 : i * k + j < l.length * k := by
        calc i * k + j < i * k + k := by omega
          _ = (i + 1) * k := by rw [Nat.add_mul, Nat.one_mul]
          _ ≤ l.length * k := Nat.mul_le_mul_right _ (by omega)
      have := flat_at hE l i x hx j v hv
      rw [← ht, List.getElem?_take, if_pos hlt2] at this
      rw [Nat.zero_add, cell_of_row w g _ cur T (0, 0) hg]
      simpa using this
    · simp [World.frozen?, hg]
theorem Own.cap (h : Own E k T w base A c l) : l.length ≤ c := by
  rcases h.2 with ⟨h1, h2⟩ | ⟨g, cap, cur, h1, _, _, hc, _⟩
  · omega
  · injection h1 with _ _ h2
    omega
theorem Own.capMax (h : Own E k T w base A c l) : c ≤ maxLen := by
  rcases h.2 with ⟨h1, h2⟩ | ⟨g, cap, cur, h1, _, _, hc, hm, _⟩
  · injection h1 with _ _ h1
    omega
  · injection h1 with _ _ h2
    omega
theorem Own.none_ (h : Own E k T w base A c l) (hA : A = none) : c = 0 ∧ l = [] := by
  subst hA
  rcases h.2 with ⟨h1, h2⟩ | ⟨g, cap, cur, h1, _⟩
  · injection h1 with _ h1 h3
    exact ⟨h3, List.eq_nil_of_length_eq_zero h2⟩
  · cases h1
theorem Own.keep (h : Own E k T w base A c l) (hk : ∀ b, base ≤ b → b < w.heap.size → w'.heap[b]? = w.heap[b]?) : Own E k T w' base A c l := by
  refine ⟨h.1, ?_⟩
  rcases h.2 with h1 | ⟨g, cap, cur, h1, hb, hg, h2⟩
  · exact .inl h1
  · have hlt : g < w.heap.size := by
      rcases Nat.lt_or_ge g w.heap.size with hlt | hge
      · exact hlt
      · rw [Array.getElem?_eq_none hge] at hg; cases hg
    exact .inr ⟨g, cap, cur, h1, hb, (hk g hb hlt).trans hg, h2⟩
theorem Own.lift {b0 : Nat} (h : Own E k T w base A c l) (hb : b0 ≤ base) : Own E k T w b0 A c l := by
  refine ⟨h.1, ?_⟩
  rcases h.2 with h1 | ⟨g, cap, cur, h1, h2, h3⟩
  · exact .inl h1
  · exact .inr ⟨g, cap, cur, h1, by omega, h3⟩
theorem Own.below (h : Own E k T w base A c l) (hb : Below w.heap.size w w') : Own E k T w' base A c l := h.keep fun b _ hlt => hb.block b hlt
theorem Own.drew (h : Own E k T w base A c l) : Own E k T w.drew base A c l := h
theorem Own.drewN (h : Own E k T w base A c l) (n : Nat) : Own E k T (w.drewN n) base A c l := h
theorem Own.alloc (h : Own E k T w base A c l) (o : Obj) : Own E k T (w.alloc o) base A c l := h.below ((Below.refl _ _).alloc (Nat.le_refl _) o)
/-- An empty slice that was just made. -/
theorem Own.empty (w : World) (hb : base ≤ w.heap.size) : Own E k T (w.alloc (.cells #[] T)) base (some ⟨w.heap.size, 0, none⟩) 0 ([] : List α) :=
  World.ownsRow_lit w #[] 0 hb (Nat.zero_le _) (by simp)
theorem Own.base_lt (h : Own E k T w base A c l) (hA : A ≠ none) : base < w.heap.size := by
  rcases h.2 with ⟨h1, h2⟩ | ⟨g, cap, cur, h1, hb, hg, _⟩
  · injection h1 with h1; exact absurd h1 hA
  · rcases Nat.lt_or_ge g w.heap.size with hlt | hge
    · omega
    · rw [Array.getElem?_eq_none hge] at hg; cases hg
end

/-- The cells of an element that was just laid in a block of its own. -/
theorem new_cells {α : Type} {E : α → List Value} (w : World) (T : TypeId) (y : α) (cs : Array Value) (h : cs = (E y).toArray) : ∀ j u, (E y)[j]? = some u → (w.alloc (.cells cs T)).cell? ⟨w.heap.size, j, none⟩ = some u := by
  intro j u hu
  subst h
  rw [World.cell?_alloc_at _ _ _ _ rfl]
  simpa using hu

theorem run_append_none_any {P : Program} (w : World) (base : Nat) (t ty e : TypeId) (i : TypeInfo) (size : Nat) (ht : P.underlying t = some (.slice e)) (hi : P.info? e = some i)
    (v : Value) (n : Nat) (xs : List Value) (c : Nat) (hown : w.ownsRow base e size v n xs) :
    (Builtin.append_ #[t, t] ty #[v, .slice none 0 c]).run P w = .ok v w := by
  rcases hown.2 with ⟨rfl, rfl⟩ | ⟨g, cap, cur, rfl, _, _, hnc, _⟩
  · simp [Builtin.append_, run_underlying ht, sizeOf, typeInfo, hi, Builtin.lenOf, Builtin.firstCells]
  · simp [Builtin.append_, run_underlying ht, sizeOf, typeInfo, hi, Builtin.lenOf, Builtin.firstCells, hnc, storeCells]

theorem own_block {w : World} {base : Nat} {e : TypeId} {size : Nat} {v : Value} {n : Nat} {xs : List Value} (h : w.ownsRow base e size v n xs) : ∀ b, v.ownBlock = some b → base ≤ b := by
  rcases h.2 with ⟨rfl, _⟩ | ⟨g, cap, cur, rfl, hb, _⟩
  · intro b hb; cases hb
  · intro b hb'
    simp [Value.ownBlock] at hb'
    omega
theorem own_form {w : World} {base : Nat} {e : TypeId} {size : Nat} {v : Value} {n : Nat} {xs : List Value} (h : w.ownsRow base e size v n xs) : ∃ A c, v = .slice A n c := by
  rcases h.2 with ⟨rfl, rfl⟩ | ⟨g, cap, cur, rfl, _⟩
  · exact ⟨none, 0, rfl⟩
  · exact ⟨_, _, rfl⟩

section
variable {P : Program} {α : Type} {E : α → List Value} {k : Nat} {T : TypeId} {base : Nat} {A A2 : Option Addr} {c c2 lo up : Nat} {l l2 : List α}
/-- append(s, l2...): s a slice of the call's own, l2 any. -/
theorem wpList_append_all (w : World) {ops : Array Oper} {rest : List Oper} {o : Oper} {a : Act} {Q : Exit → Act → World → Prop} (hgd : o.guard = none) (s x : Operand) (t : TypeId)
    (ho : o.op = .call { callee := .builtin .append, args := #[s, x], argTypes := #[t, t] })
    (i : TypeInfo) (z : Value) (bytes : Nat) (ht : P.underlying t = some (.slice T)) (hi : P.info? T = some i) (hz : i.zero = some z) (hsize : i.size = k) (hby : i.bytes = bytes) (hzs : z.cells.size = k) (hk : 0 < k)
    (hE : ∀ x, (E x).length = k) (h1 : ∀ x, ∀ u ∈ E x, u.oneCell' = true)
    (hO : Own E k T w base A c l) (hS : Sl E k w lo up A2 l2) (hs : a.eval s = .slice A l.length c) (hx : a.eval x = .slice A2 l2.length c2)
    (h63 : l.length + l2.length ≤ maxLen) (hbytes : (l.length + l2.length) * bytes ≤ 140737488355328) (hbase : base ≤ w.heap.size)
    (h : ∀ A' c' w' L, Hid (L = l ++ l2) → Own E k T w' base A' c' L → Below base w w' → wpList P ops Q rest (a.put o.dst (.slice A' L.length c')) w') : wpList P ops Q (o :: rest) a w := by
  replace h := fun A' c' w' => h A' c' w' (l ++ l2) rfl
  cases hA : A2 with
  | none =>
    have hl2 : l2 = [] := by
      by_cases hn : l2 = []
      · exact hn
      · obtain ⟨b, off, e, _⟩ := hS hn
        rw [hA] at e; cases e
    subst hl2 hA
    refine wpList_plain hgd fun K hK => ?_
    have hrun := run_append_none_any (P := P) w base t o.type T i k ht hi _ _ _ c2 hO
    unfold Oper.wp
    simp [execOp, ho, resolve, invoke, builtin, hs, hx, hrun, Result.andThen]
    have := h A c w (by simpa using hO) (Below.refl _ _)
    simp at this
    exact hK _ _ this
  | some ad =>
    subst hA
    refine wpList_append_own w hgd s x t ho base T i z k bytes ht hi hz hsize hby hzs hk _ l.length _ hs hO ad l2.length c2 (l2.flatMap E) hx (flat_len hE l2) ?_ ?_ h63 hbytes hbase ?_
    · intro j u hu
      have hn : l2 ≠ [] := by rintro rfl; simp at hu
      obtain ⟨b, off, e, _, _, _, f⟩ := hS hn
      injection e with e
      subst e
      have hj : j < l2.length * k := by rw [← flat_len hE l2]; exact (List.getElem?_eq_some_iff.1 hu).1
      have hq : j / k < l2.length := Nat.div_lt_of_lt_mul (by rw [Nat.mul_comm]; exact hj)
      have hx' : l2[j / k]? = some l2[j / k] := List.getElem?_eq_getElem hq
      have hr : j % k < (E l2[j / k]).length := by rw [hE]; exact Nat.mod_lt _ hk
      have hv := List.getElem?_eq_getElem hr
      have hcell := (f _ _ hx' _ _ hv).1
      have hu2 := flat_at hE l2 _ _ hx' _ _ hv
      have hjj : j / k * k + j % k = j := by rw [Nat.mul_comm]; exact Nat.div_add_mod j k
      rw [hjj, hu] at hu2
      rw [Addr.add_lit, ← hjj, ← Nat.add_assoc, hcell]
      exact hu2.symm
    · intro u hu
      obtain ⟨y, _, hy⟩ := List.mem_flatMap.1 hu
      exact h1 y u hy
    · intro v' w' hown hg _
      obtain ⟨A', c', rfl⟩ := own_form hown
      have e1 : (l ++ l2).length = l.length + l2.length := List.length_append
      have := h A' c' w' (by unfold Own; rw [e1, List.flatMap_append]; exact hown) ⟨hg.os, hg.tape, hg.output, hg.size, fun b hb => ?_⟩
      · rw [e1] at this
        exact this
      · exact hg.block b (by omega) (fun e => by have := own_block hO b e.symm; omega)
/-- append(s, x): the new element lies in a block of its own. -/
theorem wpList_append_one (w : World) {ops : Array Oper} {rest : List Oper} {o : Oper} {a : Act} {Q : Exit → Act → World → Prop} (hgd : o.guard = none) (s x : Operand) (t : TypeId)
    (ho : o.op = .call { callee := .builtin .append, args := #[s, x], argTypes := #[t, t] })
    (i : TypeInfo) (z : Value) (bytes : Nat) (ht : P.underlying t = some (.slice T)) (hi : P.info? T = some i) (hz : i.zero = some z) (hsize : i.size = k) (hby : i.bytes = bytes) (hzs : z.cells.size = k) (hk : 0 < k)
    (hE : ∀ x, (E x).length = k) (h1 : ∀ x, ∀ u ∈ E x, u.oneCell' = true) (y : α) (B : Nat)
    (hO : Own E k T w base A c l) (hs : a.eval s = .slice A l.length c) (hx : a.eval x = .slice (some ⟨B, 0, none⟩) 1 1) (hB : ∀ j u, (E y)[j]? = some u → w.cell? ⟨B, j, none⟩ = some u)
    (h63 : l.length + 1 ≤ maxLen) (hbytes : (l.length + 1) * bytes ≤ 140737488355328) (hbase : base ≤ w.heap.size)
    (h : ∀ A' c' w' L, Hid (L = l ++ [y]) → Own E k T w' base A' c' L → Below base w w' → wpList P ops Q rest (a.put o.dst (.slice A' L.length c')) w') : wpList P ops Q (o :: rest) a w := by
  replace h := fun A' c' w' => h A' c' w' (l ++ [y]) rfl
  refine wpList_append_own w hgd s x t ho base T i z k bytes ht hi hz hsize hby hzs hk _ l.length _ hs hO ⟨B, 0, none⟩ 1 1 (E y) hx (by rw [hE, Nat.one_mul]) ?_ (h1 y) h63 hbytes hbase ?_
  · intro j u hu
    rw [Addr.add_lit, Nat.zero_add]
    exact hB j u hu
  · intro v' w' hown hg _
    obtain ⟨A', c', rfl⟩ := own_form hown
    have e1 : (l ++ [y]).length = l.length + 1 := by simp
    have := h A' c' w' (by unfold Own; rw [e1, List.flatMap_append]; simpa using hown) ⟨hg.os, hg.tape, hg.output, hg.size, fun b hb => ?_⟩
    · rw [e1] at this
      exact this
    · exact hg.block b (by omega) (fun e => by have := own_block hO b e.symm; omega)
/-- The two slices lie in different blocks. -/
def Dis (A A' : Option Addr) : Prop := ∀ a a', A = some a → A' = some a' → a.block ≠ a'.block
theorem Dis.symm {A A' : Option Addr} (h : Dis A A') : Dis A' A := fun a a' h1 h2 e => h a' a h2 h1 e.symm
theorem Dis.none_l {A : Option Addr} : Dis none A := fun _ _ h => by cases h
theorem Dis.none_r {A : Option Addr} : Dis A none := fun _ _ _ h => by cases h
theorem Own.lt {w : World} (h : Own E k T w base A c l) : ∀ a, A = some a → a.block < w.heap.size := by
  intro a ha
  rcases h.2 with ⟨h1, _⟩ | ⟨g, cap, cur, h1, hb, hg, _⟩
  · injection h1 with h1; rw [h1] at ha; cases ha
  · injection h1 with h1
    rw [ha] at h1
    injection h1 with h1
    subst h1
    rcases Nat.lt_or_ge g w.heap.size with hlt | hge
    · exact hlt
    · rw [Array.getElem?_eq_none hge] at hg; cases hg
/-- What an append to A leaves alone. -/
def But (A : Option Addr) (w w' : World) : Prop := ∀ b, b < w.heap.size → (∀ a, A = some a → a.block ≠ b) → w'.heap[b]? = w.heap[b]?
theorem Own.but {w w' : World} {A2 : Option Addr} {c2 : Nat} {l2 : List α} (h : Own E k T w base A2 c2 l2) (hk : But A w w') (hd : Dis A A2) : Own E k T w' base A2 c2 l2 := by
  refine ⟨h.1, ?_⟩
  have hlt := h.lt
  rcases h.2 with h1 | ⟨g, cap, cur, h1, hb, hg, h2⟩
  · exact .inl h1
  · have e : A2 = some ⟨g, 0, none⟩ := by injection h1
    exact .inr ⟨g, cap, cur, h1, hb, (hk g (hlt _ e) fun a ha => hd a _ ha e).trans hg, h2⟩
/-- append(s, x), with what it says of other blocks. -/
theorem wpList_append_one2 (w : World) {ops : Array Oper} {rest : List Oper} {o : Oper} {a : Act} {Q : Exit → Act → World → Prop} (hgd : o.guard = none) (s x : Operand) (t : TypeId)
    (ho : o.op = .call { callee := .builtin .append, args := #[s, x], argTypes := #[t, t] })
    (i : TypeInfo) (z : Value) (bytes : Nat) (ht : P.underlying t = some (.slice T)) (hi : P.info? T = some i) (hz : i.zero = some z) (hsize : i.size = k) (hby : i.bytes = bytes) (hzs : z.cells.size = k) (hk : 0 < k)
    (hE : ∀ x, (E x).length = k) (h1 : ∀ x, ∀ u ∈ E x, u.oneCell' = true) (y : α) (B : Nat)
    (hO : Own E k T w base A c l) (hs : a.eval s = .slice A l.length c) (hx : a.eval x = .slice (some ⟨B, 0, none⟩) 1 1) (hB : ∀ j u, (E y)[j]? = some u → w.cell? ⟨B, j, none⟩ = some u)
    (h63 : l.length + 1 ≤ maxLen) (hbytes : (l.length + 1) * bytes ≤ 140737488355328) (hbase : base ≤ w.heap.size)
    (h : ∀ A' c' w' L, Hid (L = l ++ [y]) → Own E k T w' base A' c' L → Below base w w' → But A w w' → (∀ A2, Dis A A2 → (∀ a, A2 = some a → a.block < w.heap.size) → Dis A' A2) → wpList P ops Q rest (a.put o.dst (.slice A' L.length c')) w') : wpList P ops Q (o :: rest) a w := by
  replace h := fun A' c' w' => h A' c' w' (l ++ [y]) rfl
  refine wpList_append_lies w hgd s x t ho base T i z k bytes ht hi hz hsize hby hzs hk _ l.length _ hs hO ⟨B, 0, none⟩ 1 1 (E y) hx (by rw [hE, Nat.one_mul]) ?_ (h1 y) (by omega) h63 hbytes hbase _ rfl ?_
  · intro j u hu
    rw [Addr.add_lit, Nat.zero_add]
    exact hB j u hu
  · intro g cap w' hown hg hat _
    have e1 : (l ++ [y]).length = l.length + 1 := by simp
    have := h (some ⟨g, 0, none⟩) cap w' (by unfold Own; rw [e1, List.flatMap_append]; simpa using hown) ⟨hg.os, hg.tape, hg.output, hg.size, fun b hb => ?_⟩ ?_ ?_
    · rw [e1] at this
      exact this
    · exact hg.block b (by omega) (fun e => by have := own_block hO b e.symm; omega)
    · intro b hb hne
      refine hg.block b hb (fun e => ?_)
      cases hA : A with
      | none => rw [hA] at e; cases e
      | some a => rw [hA] at e; simp [Value.ownBlock] at e; exact hne a hA e.symm
    · intro A2 hd hlt a' a2 ha' ha2
      injection ha' with ha'
      subst ha'
      rcases hat with hat | hat
      · cases hA : A with
        | none => rw [hA] at hat; cases hat
        | some a =>
          rw [hA] at hat
          simp [Value.ownBlock] at hat
          have := hd a a2 hA ha2
          rw [hat] at this
          exact this
      · have := hlt a2 ha2
        show g ≠ a2.block
        omega
end
end Go.Proofs.Ytacjdapfbmdddaa
