/- Texts of the proof of MapBytes, part 32. -/
import Derived.SizedLaws
import Derived.ChangeSame
import Derived.Deep.Slices
import Derived.Deep.Fields
import Derived.Test.YtkhbmgclklmimaaMapBytesM0
section
namespace Go.Proofs.Ytkhbmgclklmimaa.Opn
open Go.RowKit Go.Proofs.YtkhbmgclklmimaaW.PrintWords Go.ChangeShapes Go.WideShapes Go.Deep
def Small {H : Type} (P : Program) (t : TypeId) (d : DataW H) : Prop := ∀ n, n ∈ DataW.weights P t d → n ≤ 140737488351232
def Opens (P : Program) (t : TypeId) {α : Type} (d : Kd α) (wf : α → Prop) : Prop :=
  ∀ {H : Type} (enc : TypeId × Value → H) (w : World) (fuel : Nat) (cs : List Value) (x : DataW H × List MemPlace),
    DataW.trod enc P w 0 (fun _ => true) true fuel t cs = some x → Small P t x.1 → ∃ a, wf a ∧ d.K w a cs
theorem Opens.int {P : Program} {t : TypeId} {k : IntKind} (ht : P.underlying t = some (.int k)) : Opens P t (Kd.int k) (fun a => (Lit.int k a).wf = true) := by
  intro H enc w fuel cs x h _
  obtain ⟨n, rfl, _, hw⟩ := DataW.trod_int ht h
  exact ⟨n, hw, rfl⟩
theorem Opens.bool {P : Program} {t : TypeId} (ht : P.underlying t = some .bool) : Opens P t Kd.bool (fun _ => True) := by
  intro H enc w fuel cs x h _
  obtain ⟨b, rfl, _⟩ := DataW.trod_bool ht h
  exact ⟨b, trivial, rfl⟩
theorem Opens.string {P : Program} {t : TypeId} (ht : P.underlying t = some .string) : Opens P t Kd.string (fun a => a.size ≤ 140737488351232) := by
  intro H enc w fuel cs x h hs
  obtain ⟨s, rfl, rfl, _⟩ := DataW.trod_string ht h
  refine ⟨s, ?_, rfl⟩
  have := hs s.data.toList.length (by simp [DataW.weights])
  simpa using this
theorem Opens.iso {P : Program} {t : TypeId} {α β : Type} {d : Kd α} {wf : α → Prop} (h : Opens P t d wf) (f : β → α) (g : α → β) (hg : ∀ a, f (g a) = a) : Opens P t (Kd.iso d f) (fun b => wf (f b)) := by
  intro H enc w fuel cs x hx hs
  obtain ⟨a, hw, hK⟩ := h enc w fuel cs x hx hs
  refine ⟨g a, ?_, ?_⟩
  · show wf (f (g a)); rw [hg]; exact hw
  · show d.K w (f (g a)) cs; rw [hg]; exact hK
set_option maxHeartbeats 2000000 in
theorem list_of {α : Type} {p : Nat → α → Prop} : ∀ (n : Nat), (∀ i, i < n → ∃ a, p i a) → ∃ l : List α, l.length = n ∧ ∀ i a, l[i]? = some a → p i a
  | 0, _ => ⟨[], rfl, fun i a h => by simp at h⟩
  | n + 1, h => by
    obtain ⟨l, hl, hp⟩ := list_of n (fun i hi => h i (by omega))
    obtain ⟨a, ha⟩ := h n (by omega)
    refine ⟨l ++ [a], by simp [hl], fun i b hb => ?_⟩
    rcases Nat.lt_or_ge i l.length with hi | hi
    · rw [List.getElem?_append_left hi] at hb; exact hp i b hb
    · rw [List.getElem?_append_right hi] at hb
      have hi0 : i - l.length = 0 := by
        rcases Nat.eq_zero_or_pos (i - l.length) with h0 | h0
        · exact h0
        · rw [List.getElem?_eq_none (by simp; omega)] at hb; cases hb
      rw [hi0] at hb
      simp at hb
      subst hb
      have : i = n := by omega
      subst this
      exact ha
theorem weightsAll_mem {H : Type} {P : Program} {e : TypeId} : ∀ {l : List (DataW H)} {d : DataW H}, d ∈ l → ∀ n, n ∈ DataW.weights P e d → n ∈ DataW.weightsAll P e l
  | x :: l, d, hd, n, hn => by
    simp only [DataW.weightsAll, List.mem_append]
    rcases List.mem_cons.1 hd with rfl | hd
    · exact .inl hn
    · exact .inr (weightsAll_mem hd n hn)
set_option maxHeartbeats 2000000 in
theorem Opens.slice {P : Program} {t e : TypeId} {α : Type} {d : Kd α} {wf : α → Prop} {B : Nat} (ht : P.underlying t = some (.slice e)) (hc : P.cellsOf e = d.sz) (hB : P.bytesOf e = B) (h : Opens P e d wf) :
    Opens P t (Kd.slice e d) (fun l => l.length ≤ maxLen ∧ l.length * B ≤ 140737488351232 ∧ ∀ x ∈ l, wf x) := by
  intro H enc w fuel cs x hx hs
  rcases open_slice ht hx with ⟨rfl, _⟩ | ⟨a, len, cap, m, n, D, Pl, rfl, hb, hl, hm, hmm, rfl, hi⟩
  · exact ⟨[], ⟨Nat.zero_le _, by simp, fun x hx => by cases hx⟩, none, 0, rfl, Nat.le_refl _, rfl, Nat.zero_le _, fun h0 => absurd h0 (Nat.lt_irrefl _)⟩
  · simp only [if_true] at hmm
    subst hmm
    have hD : ∀ i, i < len → Small P e (D i) := fun i hi n hn => by
      refine hs n ?_
      simp only [DataW.weights, ht]
      refine List.mem_cons_of_mem _ (List.mem_append.2 (.inl (weightsAll_mem (List.mem_map.2 ⟨i, List.mem_range.2 hi, rfl⟩) n hn)))
    have hex : ∀ i, i < len → ∃ a0, wf a0 ∧ ∃ c, c.length = d.sz ∧ d.K w a0 c ∧ ∀ j u, c[j]? = some u → w.cell? (a.add (i * d.sz + j)) = some u := by
      intro i hil
      obtain ⟨cs', hcs, htr⟩ := hi i (by omega)
      obtain ⟨a0, hw, hK⟩ := h enc w n cs' _ htr (hD i hil)
      refine ⟨a0, hw, cs', ?_, hK, fun j u hu => ?_⟩
      · exact d.K_len hK
      · obtain ⟨_, hcl, hat⟩ := World.cells?_some hcs
        have hj : j < P.cellsOf e := by
          have := (List.getElem?_eq_some_iff.1 hu).1
          omega
        rw [← hc, ← Go.Deep.add_add, hat j hj, hu]
    obtain ⟨l, hl2, hp⟩ := list_of len hex
    have hmem : ∀ x ∈ l, wf x := fun x hx => by
      obtain ⟨i, hi⟩ := List.getElem?_of_mem hx
      exact (hp i x hi).1
    refine ⟨l, ⟨by omega, ?_, hmem⟩, some a, m, by rw [hl2], by omega, ?_⟩
    · have hlen := hs ((((List.range len).map D).length + ((List.range (m - len)).map fun j => D (len + j)).length) * P.bytesOf e) (by simp only [DataW.weights, ht]; exact List.mem_cons_self)
      simp only [List.length_map, List.length_range, hB] at hlen
      rw [hl2]
      exact Nat.le_trans (Nat.mul_le_mul_right _ (Nat.le_add_right _ _)) hlen
    · refine ⟨rfl, ?_, fun _ => ⟨a, rfl, fun j p hj => (hp j p hj).2⟩⟩
      rw [hl2]
      exact Nat.le_trans hl hm
def OpensFs (P : Program) (off : Nat) (fs : List Field) {α : Type} (d : Kd α) (wf : α → Prop) : Prop :=
  ∀ {H : Type} (enc : TypeId × Value → H) (w : World) (fuel : Nat) (cs : List Value) (xs : List (DataW H × List MemPlace)), xs.length = fs.length →
    (∀ (i : Nat) (f : Field), fs[i]? = some f → DataW.trod enc P w 0 (fun _ => true) true fuel f.type ((cs.drop f.offset).take (P.cellsOf f.type)) = xs[i]?) →
    (∀ n, n ∈ DataW.weightsEach P (fs.map (fun f => f.type)) (xs.map (·.1)) → n ≤ 140737488351232) → cs.length = off + d.sz → ∃ a, wf a ∧ d.K w a (cs.drop off)
set_option maxHeartbeats 2000000 in
theorem OpensFs.one {P : Program} {off : Nat} {f : Field} {α : Type} {d : Kd α} {wf : α → Prop} (ho : f.offset = off) (hc : P.cellsOf f.type = d.sz) (h : Opens P f.type d wf) : OpensFs P off [f] d wf := by
  intro H enc w fuel cs xs hl hx hs hlen
  match xs, hl with
  | [y], _ =>
    have h0 := hx 0 f rfl
    simp only [List.getElem?_cons_zero] at h0
    rw [ho, hc, List.take_of_length_le (by rw [List.length_drop]; omega)] at h0
    exact h enc w fuel _ y h0 (fun n hn => hs n (by simp [DataW.weightsEach, hn]))
set_option maxHeartbeats 2000000 in
theorem OpensFs.cons {P : Program} {off off2 : Nat} {f : Field} {fs : List Field} {α β : Type} {d : Kd α} {d2 : Kd β} {wf : α → Prop} {wf2 : β → Prop} (ho : f.offset = off) (hc : P.cellsOf f.type = d.sz) (h2 : off2 = off + d.sz) (h : Opens P f.type d wf) (hs2 : OpensFs P off2 fs d2 wf2) :
    OpensFs P off (f :: fs) (Kd.pair d d2) (fun x => wf x.1 ∧ wf2 x.2) := by
  intro H enc w fuel cs xs hl hx hs hlen
  match xs, hl with
  | y :: ys, hl =>
    have h0 := hx 0 f rfl
    simp only [List.getElem?_cons_zero] at h0
    rw [ho, hc] at h0
    obtain ⟨a, hw, hK⟩ := h enc w fuel _ y h0 (fun n hn => hs n (by simp [DataW.weightsEach, hn]))
    have hlen' : cs.length = off + (d.sz + d2.sz) := hlen
    obtain ⟨b, hw2, hK2⟩ := hs2 enc w fuel cs ys (by simpa using hl) (fun i g hg => by simpa using hx (i + 1) g (by simpa using hg)) (fun n hn => hs n (by simp only [List.map_cons, DataW.weightsEach]; exact List.mem_append.2 (.inr hn))) (by omega)
    refine ⟨(a, b), ⟨hw, hw2⟩, _, _, ?_, hK, hK2⟩
    rw [h2, ← List.drop_drop, List.take_append_drop]
set_option maxHeartbeats 2000000 in
theorem Opens.struct {P : Program} {t : TypeId} {fs : Array Field} {α : Type} {d : Kd α} {wf : α → Prop} (ht : P.underlying t = some (.struct fs)) (hc : P.cellsOf t = d.sz) (h : OpensFs P 0 fs.toList d wf) : Opens P t d wf := by
  intro H enc w fuel cs x hx hs
  obtain ⟨xs, n, _, rfl, hl, hlen, hf⟩ := DataW.trod_struct ht hx
  have := h enc w n cs xs (by simpa using hlen) (fun i f hi => hf i f (by simpa using hi)) (fun k hk => hs k (by simp only [DataW.weights, ht]; exact hk)) (by omega)
  simpa using this
theorem opened {H : Type} {enc : TypeId × Value → H} {P : Program} {W : World} {t : TypeId} {v : Value} {d : DataW H} {p : List MemPlace} {ts : List TypeId} {ds : List (DataW H)} {α : Type} {kd : Kd α} {wf : α → Prop}
    (hsz : (DataW.weightsEach P ts ds).all (· ≤ reachBytes) = true) (j : Nat) (ht : ts[j]? = some t) (hd : ds[j]? = some d) (ho : Opens P t kd wf) (h : DataW.Trod enc P W 0 (fun _ => true) true t v d p) :
    ∃ a, wf a ∧ kd.K W a v.cells.toList := by
  obtain ⟨fuel, hf⟩ := h
  refine ho enc W fuel _ _ hf (fun n hn => ?_)
  have := List.all_eq_true.1 hsz _ (DataW.weights_mem_each ht hd n hn)
  exact of_decide_eq_true this
end Go.Proofs.Ytkhbmgclklmimaa.Opn
end
