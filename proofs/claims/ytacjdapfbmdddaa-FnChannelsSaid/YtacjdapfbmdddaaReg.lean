/- Regions that draw their order and make memory, by an invariant; append at one operation. No conditions. -/
import Derived.Test.YtacjdapfbmdddaaOwn
import Derived.Deep.RegionHeld3
import Derived.Deep.DeepCutAuto
namespace Go.Proofs.Ytacjdapfbmdddaa
open Go.RowKit

section
variable {P : Program} {md : Region.Mode} {ops : Array Oper} {Q : Exit → Act → World → Prop} {S : World → Prop}
theorem wpAnyH_takeL {i : Nat} {oi : Oper} {v : Value} {fuel : Nat} {listed : Array Bool} {a : Act} {w : World} (hi : ops.toList[i]? = some oi)
    (hs : Region.noSelect ops = true) (hf : Region.free md ops listed i = true) (hr : (Region.ready md ops listed).contains i = true)
    (hQ : ∀ c a w, Q (.panic c) (a.put oi.dst v) w → Q (.panic c) a w) (hy : YieldsIf P ops S oi v a) (hS : S w)
    (h : wpAnyH P md ops Q S fuel (listed.setIfInBounds i true) (a.put oi.dst v) w) : wpAnyH P md ops Q S (fuel + 1) listed a w :=
  wpAnyH_take (by rw [← Array.getElem?_toList]; exact hi) hs hf hr hQ hy hS h
theorem AllReadyH.consL {fuel : Nat} {listed : Array Bool} {a : Act} {w : World} {i : Nat} {o : Oper} {rs : List Nat} (ho : ops.toList[i]? = some o)
    (h : ∀ K' : Act → World → Prop, Shut (∀ a w, S w → (S w → wpAnyH P md ops Q S fuel (listed.setIfInBounds i true) a w) → K' a w) → if Region.wanted o (yielded ops a.tmps) = true then Oper.wp P o a w K' Q else K' (a.put o.dst undef) w)
    (hs : AllReadyH P md ops Q S fuel listed a w rs) : AllReadyH P md ops Q S fuel listed a w (i :: rs) :=
  AllReadyH.cons (by rw [← Array.getElem?_toList]; exact ho) h hs
theorem wpAnyH_inv {m : Nat} {I : Nat → Array Bool → Act → World → Prop}
    (hstep : ∀ n listed a w, I (n + 1) listed a w → (Region.ready md ops listed).isEmpty = false ∧ ∀ i o, ops.toList[i]? = some o → i ∈ Region.ready md ops listed → ∀ K : Act → World → Prop, Shut (∀ a' w', S w' → I n (listed.setIfInBounds i true) a' w' → K a' w') → if Region.wanted o (yielded ops a.tmps) = true then Oper.wp P o a w K Q else K (a.put o.dst undef) w)
    (h0 : ∀ listed a w, I 0 listed a w → wpAnyH P md ops Q S m listed a w) : ∀ n listed a w, I n listed a w → wpAnyH P md ops Q S (m + n) listed a w
  | 0, listed, a, w, h => h0 listed a w h
  | n + 1, listed, a, w, h => by
    obtain ⟨h1, h2⟩ := hstep n listed a w h
    show (Region.ready md ops listed = [] → Q .normal a w) ∧ ∀ i ∈ Region.ready md ops listed, wpOp P ops Q i (fun a' w' => S w' ∧ wpAnyH P md ops Q S (m + n) (listed.setIfInBounds i true) a' w') a w
    refine ⟨fun e => (by rw [e] at h1; cases h1), fun i hi => ?_⟩
    obtain ⟨_, o, ho, _⟩ := mem_ready.1 hi
    exact wpOp_step ho (fun K hK => h2 i o (by rw [Array.getElem?_toList]; exact ho) hi K (fun a' w' hS hI => hK a' w' ⟨hS, wpAnyH_inv hstep h0 n _ a' w' hI⟩))
end

section
variable {P : Program} {α : Type} {E : α → List Value} {k : Nat} {T : TypeId} {base : Nat} {A A2 : Option Addr} {c c2 lo up : Nat} {l l2 : List α}
/-- append(s, l2...) at one operation: s a slice of the call's own, l2 any; with what it says of other blocks. -/
theorem wp_append_all (w : World) {o : Oper} {a : Act} {K : Act → World → Prop} {Q : Exit → Act → World → Prop} (s x : Operand) (t : TypeId)
    (ho : o.op = .call { callee := .builtin .append, args := #[s, x], argTypes := #[t, t] })
    (i : TypeInfo) (z : Value) (bytes : Nat) (ht : P.underlying t = some (.slice T)) (hi : P.info? T = some i) (hz : i.zero = some z) (hsize : i.size = k) (hby : i.bytes = bytes) (hzs : z.cells.size = k) (hk : 0 < k)
    (hE : ∀ x, (E x).length = k) (h1 : ∀ x, ∀ u ∈ E x, u.oneCell' = true)
    (hO : Own E k T w base A c l) (hS : Sl E k w lo up A2 l2) (hs : a.eval s = .slice A l.length c) (hx : a.eval x = .slice A2 l2.length c2)
    (h63 : l.length + l2.length ≤ maxLen) (hbytes : (l.length + l2.length) * bytes ≤ 140737488355328) (hbase : base ≤ w.heap.size)
    (h : ∀ A' c' w', Own E k T w' base A' c' (l ++ l2) → Below base w w' → But A w w' → (∀ A2, Dis A A2 → (∀ a, A2 = some a → a.block < w.heap.size) → Dis A' A2) → K (a.put o.dst (.slice A' (l ++ l2).length c')) w') : o.wp P a w K Q := by
  cases hA : A2 with
  | none =>
    have hl2 : l2 = [] := by
      by_cases hn : l2 = []
      · exact hn
      · obtain ⟨b, off, e, _⟩ := hS hn
        rw [hA] at e; cases e
    subst hl2 hA
    have hrun := run_append_none_any (P := P) w base t o.type T i k ht hi _ _ _ c2 hO
    unfold Oper.wp
    simp [execOp, ho, resolve, invoke, builtin, hs, hx, hrun, Result.andThen]
    have := h A c w (by simpa using hO) (Below.refl _ _) (fun _ _ _ => rfl) (fun _ h _ => h)
    simp at this
    exact this
  | some ad =>
    subst hA
    obtain ⟨v', w', hrun, hown, hg, _, hat⟩ := run_append_own_at (P := P) w base t o.type T i z k bytes ht hi hz hsize hby hzs hk _ l.length _ hO ad l2.length c2 (l2.flatMap E) (flat_len hE l2) (by
      intro j u hu
      have hn : l2 ≠ [] := by rintro rfl; simp at hu
      obtain ⟨b, off, e, _, _, _, f⟩ := hS hn
      injection e with e
      subst e
      have hj : j < l2.length * k := by rw [← flat_len hE l2]; exact (List.getElem?_eq_some_iff.1 hu).1
      have hq : j / k < l2.length := Nat.div_lt_of_lt_mul (by rw [Nat.mul_comm]; exact hj)
      have hx' : l2[j / k]? = some l2[j / k] := List.getElem?_eq_getElem hq
      have hr : j % k < (E l2[j / k]).length := by rw [hE]; exact Nat.mod_lt _ hk
      have hv := List.getElem?_eq_getElem hr
      have hcell := (f _ _ hx' _ _ hv).1
      have hu2 := flat_at hE l2 _ _ hx' _ _ hv
      have hjj : j / k * k + j % k = j := by rw [Nat.mul_comm]; exact Nat.div_add_mod j k
      rw [hjj, hu] at hu2
      rw [Addr.add_lit, ← hjj, ← Nat.add_assoc, hcell]
      exact hu2.symm) (by
      intro u hu
      obtain ⟨y, _, hy⟩ := List.mem_flatMap.1 hu
      exact h1 y u hy) h63 hbytes hbase
    obtain ⟨A', c', rfl⟩ := own_form hown
    have e1 : (l ++ l2).length = l.length + l2.length := List.length_append
    unfold Oper.wp
    simp only [execOp, ho, resolve, invoke, builtin, Sem.run_bind, Sem.run_pure, Result.andThen_ok, List.map_toArray, List.map_cons, List.map_nil, hs, hx, hrun]
    have := h A' c' w' (by unfold Own; rw [e1, List.flatMap_append]; exact hown) ⟨hg.os, hg.tape, hg.output, hg.size, fun b hb => hg.block b (by omega) (fun e => by have := own_block hO b e.symm; omega)⟩ ?_ ?_
    · rw [e1] at this
      exact this
    · intro b hb hne
      refine hg.block b hb (fun e => ?_)
      cases hA : A with
      | none => rw [hA] at e; cases e
      | some a => rw [hA] at e; simp [Value.ownBlock] at e; exact hne a hA e.symm
    · intro A2 hd hlt a' a2 ha' ha2
      subst ha'
      rcases hat with hat | hat
      · cases hA : A with
        | none => rw [hA] at hat; cases hat
        | some a =>
          rw [hA] at hat
          simp [Value.ownBlock] at hat
          have := hd a a2 hA ha2
          rw [← hat] at this
          exact this
      · simp [Value.ownBlock] at hat
        have := hlt a2 ha2
        show a'.block ≠ a2.block
        omega
end
end Go.Proofs.Ytacjdapfbmdddaa
