/- What the laws over ends need of told, received and started ends, in one statement each; how large their lists are. Plain Lean: no program walked. No conditions. -/
import Derived.Test.YtjmjilkpckbpeaaGreatDoorEndGP
namespace Go.Proofs.YtjmjilkpckbpeaaGreatDoor
open Go.RowKit

/-- At most 2^20 elements, of texts of at most 2^20. -/
def smF (l : List App) : Prop := l.length ≤ 1048576 ∧ ∀ y ∈ l, y.nm.size ≤ 1048576
def smM (l : List Msg) : Prop := l.length ≤ 1048576 ∧ ∀ y ∈ l, y.f.size ≤ 1048576 ∧ y.b.size ≤ 1048576
structure EL (f n : List App) (s r h : List Msg) : Prop where
  f : smF f
  n : smF n
  s : smM s
  r : smM r
  h : smM h
theorem smF.nil : smF [] := ⟨Nat.zero_le _, fun _ h => nomatch h⟩
theorem smM.nil : smM [] := ⟨Nat.zero_le _, fun _ h => nomatch h⟩
def ELt (t : EnT) : Prop := EL t.1.1 t.1.2.1 t.1.2.2.1 t.1.2.2.2.1 t.1.2.2.2.2
theorem EL.no : ELt enNo := ⟨smF.nil, smF.nil, smM.nil, smM.nil, smM.nil⟩
theorem EL.chan {f n : List App} {s r h q : List Msg} (e : EL f n s r h) (g : chanB s q h = true) : EL f n s q h := by
  obtain ⟨_, k2, k3, k4⟩ := chan_parts g
  have := someB_len k3
  exact ⟨e.f, e.n, e.s, ⟨by omega, fun y hy => e.s.2 y (someB_sub k3 y hy)⟩, e.h⟩
theorem chg_small {n : List App} {nm : ByteArray} {v : Int} (e : smF n) : smF (chgT n nm v).1 := by
  refine ⟨Nat.le_trans (chgT_len n nm v) e.1, fun y hy => ?_⟩
  unfold chgT at hy
  split at hy
  · split at hy
    · rename_i a ha
      split at hy
      · rcases List.mem_or_eq_of_mem_set hy with h1 | h1
        · exact e.2 y h1
        · rw [h1]; exact e.2 a (List.mem_of_getElem? ha)
      · nomatch hy
    · nomatch hy
  · nomatch hy
theorem tel_no {f n : List App} {s r h : List Msg} {nm : ByteArray} {v : Int} (g : (telT f n s r h nm v).2 = false) : telT f n s r h nm v = enNo := by
  unfold telT at g ⊢
  split
  · rename_i k; rw [if_pos k] at g; cases g
  · rfl
theorem EL.tel {f n : List App} {s r h : List Msg} {nm : ByteArray} (v : Int) (e : EL f n s r h) (hnm : nm.size ≤ 1048576) : ELt (telT f n s r h nm v) := by
  cases g : (telT f n s r h nm v).2 with
  | false => rw [tel_no g]; exact EL.no
  | true =>
    obtain ⟨g1, g2, ⟨k, hk⟩, _, _, _, _⟩ := tel_law g
    obtain ⟨_, _, p3, _⟩ := ends_parts g1
    have hl := chan_len p3
    have hz := size_st g2
    unfold ELt
    rw [hk]
    refine ⟨e.f, chg_small e.n, ⟨by simp only [List.length_append, List.length_singleton]; omega, fun y hy => ?_⟩, e.r, e.h⟩
    rcases List.mem_append.1 hy with hy | hy
    · exact e.s.2 y hy
    · rw [List.mem_singleton.1 hy]; exact ⟨hnm, hz⟩
theorem EL.rall {f n : List App} {s r h : List Msg} (e : EL f n s r h) : ELt (rallT f n s r h) := by
  cases g : endsB f n s r h with
  | false => rw [rallT_no g]; exact EL.no
  | true =>
    rw [rallT_yes g]
    obtain ⟨_, _, p3, _⟩ := ends_parts (all_parts g).1
    exact e.chan p3
theorem rec_no {f n : List App} {s r h : List Msg} {i : Int} (g : (recT f n s r h i).2 = false) : recT f n s r h i = enNo := by
  unfold recT at g ⊢
  split
  · rename_i k
    rw [if_pos k] at g
    split
    · rename_i m hm; rw [hm] at g; cases g
    · rfl
  · rfl
theorem EL.rec_ {f n : List App} {s r h : List Msg} (i : Int) (e : EL f n s r h) : ELt (recT f n s r h i) := by
  cases g : (recT f n s r h i).2 with
  | false => rw [rec_no g]; exact EL.no
  | true =>
    obtain ⟨r', h1, _, h2, _⟩ := rec_law g
    rw [h1]
    obtain ⟨_, _, p3, _⟩ := ends_parts h2
    exact e.chan p3
theorem rst_no {f n : List App} {s r h : List Msg} {p : ByteArray} (g : (rstT f n s r h p).2 = false) : rstT f n s r h p = enNo := by
  unfold rstT at g ⊢
  split
  · rename_i k
    rw [if_pos k] at g
    split
    · rename_i q hq; rw [hq] at g; cases g
    · rfl
  · rfl
theorem rst_chan {f n : List App} {s r h : List Msg} {p : ByteArray} (g : (rstT f n s r h p).2 = true) : ∃ q, rstT f n s r h p = ((f, n, s, q, h), true) ∧ chanB s q h = true := by
  unfold rstT at g ⊢
  split at g
  · rename_i k
    rw [if_pos k]
    obtain ⟨_, _, p3, _⟩ := ends_parts k.1
    cases e : rsN s p p.size 0 r with
    | none => rw [e] at g; cases g
    | some q =>
      obtain ⟨q', h1, h2, _⟩ := rsN_ok (s := s) (p := p) p.size 0 r (by omega) (fun i a b h => rsN_let e i a b h)
      rw [e] at h1
      injection h1 with h1
      subst h1
      exact ⟨q, rfl, h2 h p3⟩
  · cases g
theorem EL.rst {f n : List App} {s r h : List Msg} (p : ByteArray) (e : EL f n s r h) : ELt (rstT f n s r h p) := by
  cases g : (rstT f n s r h p).2 with
  | false => rw [rst_no g]; exact EL.no
  | true =>
    obtain ⟨q, h1, h2⟩ := rst_chan g
    rw [h1]
    exact e.chan h2
theorem beh_rng {f n : List App} {s r h : List Msg} (nm : ByteArray) (g : endsB f n s r h = true) : 0 ≤ (behT f n s r h nm).1 ∧ (behT f n s r h nm).1 ≤ 1000 := by
  obtain ⟨_, _, p3, _⟩ := ends_parts g
  have G := ChanG.of p3
  have hle := ord_le (chan_parts p3).1 G.rs nm
  have hl := chan_len p3
  have hf : (ofL s nm).length ≤ s.length := List.length_filter_le _ _
  unfold behT
  split
  · rw [sentS_map, List.length_map]
    show (0 : Int) ≤ (((ofL s nm).length : Int) - ((ordF r nm).length : Int)) ∧ (((ofL s nm).length : Int) - ((ordF r nm).length : Int)) ≤ 1000
    omega
  · exact ⟨by decide, by decide⟩
/-- A told state: all that FnEnds asks. -/
theorem tel_facts {f n f2 n2 : List App} {s r h s2 r2 h2 : List Msg} {nm : ByteArray} {v : Int} {ok : Bool} (hT : telT f n s r h nm v = ((f2, n2, s2, r2, h2), ok)) (g : ok = true) :
    endsB f n s r h = true ∧ stOk v = true ∧ (∃ b : Int, behT f n s r h nm = (b, true) ∧ behT f2 n2 s2 r2 h2 nm = (b + 1, true) ∧ 0 ≤ b ∧ b ≤ 1000) ∧ viewT f2 n2 s2 r2 h2 = viewT f n s r h ∧ (∃ m : Msg, s2 = s ++ [m] ∧ m.b = stT v) ∧ endsB f2 n2 s2 r2 h2 = true := by
  subst g
  have g' : (telT f n s r h nm v).2 = true := by rw [hT]
  obtain ⟨g1, g2, ⟨k, hk⟩, g3, g4, g5, g6⟩ := tel_law g'
  rw [hT] at hk g4
  injection hk with e1 e2
  injection e2 with e2 e3
  injection e3 with e3 e4
  injection e4 with e4 e5
  subst e1 e2 e4 e5
  have e3' : s2 = _ := g4
  rw [← e3'] at g3 g6
  obtain ⟨k1, k2⟩ := beh_rng nm g1
  refine ⟨g1, g2, ⟨(behT f2 n s r2 h2 nm).1, by rw [← g5], g6, k1, k2⟩, by rw [viewT_yes g3, viewT_yes g1], ⟨_, e3, rfl⟩, g3⟩
/-- All is received: all that FnEnds asks. -/
theorem all_facts {f n f3 n3 : List App} {s r h s3 r3 h3 : List Msg} {ok : Bool} {G : List ByteArray} (hR : rallT f n s r h = ((f3, n3, s3, r3, h3), ok)) (hV : agrT f n s r h = (G, ok)) (g : ok = true) :
    viewT f3 n3 s3 r3 h3 = (n, true) ∧ (∃ G', agrT f3 n3 s3 r3 h3 = (G', true) ∧ G'.length = n.length) ∧ G.length ≤ n.length ∧ ∀ x ∈ n, behT f3 n3 s3 r3 h3 x.nm = (0, true) ∧ ∃ b : Int, behT f n s r h x.nm = (b, true) ∧ 0 ≤ b ∧ (b = 0 → x.nm ∈ G) := by
  subst g
  have g : endsB f n s r h = true := by
    cases e : endsB f n s r h with
    | true => rfl
    | false => rw [rallT_no e] at hR; cases hR
  rw [rallT_yes g] at hR
  injection hR with hR _
  injection hR with e1 e2
  injection e2 with e2 e3
  injection e3 with e3 e4
  injection e4 with e4 e5
  subst e1 e2 e3 e4 e5
  obtain ⟨a1, a2, a3⟩ := all_law g
  have a4 := agr_le g
  rw [hV] at a4
  refine ⟨a1, ⟨_, Prod.ext rfl a2, a3⟩, a4, fun x hx => ?_⟩
  obtain ⟨b1, b2, b3, b4⟩ := beh_law g hx
  rw [hV] at b4
  exact ⟨b1, _, Prod.ext rfl b2, b3, b4⟩
/-- Started ends: all that FnEnds asks. -/
theorem start_facts {l l1 l2 : List App} {ok : Bool} (hS : seT l = ((l1, l2), ok)) (g : ok = true) : ∃ G, agrT l1 l2 [] [] [] = (G, true) ∧ G.length = l.length := by
  subst g
  unfold seT at hS
  split at hS
  · rename_i k
    injection hS with hS _
    injection hS with e1 e2
    subst e1 e2
    obtain ⟨_, a2, a3⟩ := start_law k
    exact ⟨_, Prod.ext rfl a2, a3⟩
  · cases hS
theorem seT_small {l l1 l2 : List App} {ok : Bool} (hS : seT l = ((l1, l2), ok)) (e : smF l) : EL l1 l2 [] [] [] := by
  unfold seT at hS
  split at hS
  · injection hS with hS _
    injection hS with e1 e2
    subst e1 e2
    exact ⟨e, e, smM.nil, smM.nil, smM.nil⟩
  · injection hS with hS _
    injection hS with e1 e2
    subst e1 e2
    exact ⟨smF.nil, smF.nil, smM.nil, smM.nil, smM.nil⟩
theorem rall_snd (f n : List App) (s r h : List Msg) : (rallT f n s r h).2 = endsB f n s r h := by
  cases g : endsB f n s r h with
  | true => rw [rallT_yes g]
  | false => rw [rallT_no g]; rfl
theorem view_snd (f n : List App) (s r h : List Msg) : (viewT f n s r h).2 = endsB f n s r h := by
  unfold viewT
  cases g : endsB f n s r h <;> simp
theorem agr_snd (f n : List App) (s r h : List Msg) : (agrT f n s r h).2 = endsB f n s r h := by
  unfold agrT
  cases g : endsB f n s r h <;> simp
theorem tel_ends {f n : List App} {s r h : List Msg} {nm : ByteArray} {v : Int} (g : (telT f n s r h nm v).2 = true) : endsB f n s r h = true := (tel_law g).1
/-- A message received twice, and in another order: all that FnReceived asks. -/
theorem rec_facts {f n f2 n2 : List App} {s r h s2 r2 h2 : List Msg} {i : Int} {ok : Bool} (hT : recT f n s r h i = ((f2, n2, s2, r2, h2), ok)) (g : ok = true) :
    recT f2 n2 s2 r2 h2 i = ((f2, n2, s2, r2, h2), true) ∧ endsB f2 n2 s2 r2 h2 = true ∧ ∃ f3 n3 s3 r3 h3 f4 n4 s4 r4 h4 V, rallT f2 n2 s2 r2 h2 = ((f3, n3, s3, r3, h3), true) ∧ rallT f n s r h = ((f4, n4, s4, r4, h4), true) ∧ viewT f3 n3 s3 r3 h3 = (V, true) ∧ viewT f4 n4 s4 r4 h4 = (V, true) := by
  subst g
  have g' : (recT f n s r h i).2 = true := by rw [hT]
  obtain ⟨r', k1, k2, k3, k4, k5, k6⟩ := rec_law g'
  rw [hT] at k1
  injection k1 with k1 _
  injection k1 with e1 e2
  injection e2 with e2 e3
  injection e3 with e3 e4
  injection e4 with e4 e5
  subst e1 e2 e3 e4 e5
  exact ⟨k4, k3, _, _, _, _, _, _, _, _, _, _, _, rallT_yes k3, rallT_yes k2, Prod.ext (by rw [k5]) (by rw [k5]; exact k6), Prod.ext rfl k6⟩
/-- A plan and the same plan backwards: all that FnReceived asks. -/
theorem rst_facts {f n f2 n2 : List App} {s r h s2 r2 h2 : List Msg} {p b : ByteArray} {ok : Bool} (hT : rstT f n s r h p = ((f2, n2, s2, r2, h2), ok)) (g : ok = true) (hb : b.data.toList = p.data.toList.reverse) :
    ∃ f3 n3 s3 r3 h3 V, rstT f n s r h b = ((f3, n3, s3, r3, h3), true) ∧ viewT f2 n2 s2 r2 h2 = (V, true) ∧ viewT f3 n3 s3 r3 h3 = (V, true) := by
  subst g
  have g' : (rstT f n s r h p).2 = true := by rw [hT]
  have hl : b.size = p.size := by
    have := congrArg List.length hb
    rw [List.length_reverse, Array.length_toList, Array.length_toList] at this
    exact this
  obtain ⟨q, q', k1, k2, k3, k4⟩ := rst_law (b := b) g' hl (fun i hi => by
    refine ⟨by omega, ?_⟩
    have h1 : i < p.data.toList.length := by rw [Array.length_toList]; exact hi
    have h2 : p.size - 1 - i < b.data.toList.length := by rw [Array.length_toList]; show _ < b.size; omega
    have h3 : b.data.toList[p.size - 1 - i]'h2 = p.data.toList[i] := by
      simp only [hb, List.getElem_reverse]
      congr 1
      rw [Array.length_toList]
      show p.size - 1 - (p.size - 1 - i) = i
      omega
    exact h3)
  rw [hT] at k1
  injection k1 with k1 _
  injection k1 with e1 e2
  injection e2 with e2 e3
  injection e3 with e3 e4
  injection e4 with e4 e5
  subst e1 e2 e3 e4 e5
  exact ⟨_, _, _, _, _, _, k2, Prod.ext rfl k3, Prod.ext (by rw [k4]) (by rw [k4]; exact k3)⟩
theorem rst_size {f n : List App} {s r h : List Msg} {p : ByteArray} (g : (rstT f n s r h p).2 = true) : p.size ≤ 40 := by
  unfold rstT at g
  split at g
  · rename_i k; exact k.2
  · cases g
end Go.Proofs.YtjmjilkpckbpeaaGreatDoor
