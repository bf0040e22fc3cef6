import Derived.Test.YtfjnpiahloncmaaMrgB
import Derived.Test.YtfjnpiahloncmaaLayM
namespace Go.Proofs.Ytfjnpiahloncmaa
open Go.RowKit Go.Sort Go.Shelf
set_option linter.unusedVariables false
set_option linter.unusedSimpArgs false
set_option maxRecDepth 20000 in
theorem bl_lt (x y : List UInt8) : x < y ↔ Op.bytesLess x y = true := by rw [bytesLess_eq, decide_eq_true_eq]
set_option maxRecDepth 20000 in
theorem bl_le (x y : List UInt8) : x ≤ y ↔ Op.bytesLess y x = false := by
  show ¬ y < x ↔ _
  rw [bl_lt]
  simp
set_option maxRecDepth 20000 in
theorem le_transB {x y z : List UInt8} (h1 : Op.bytesLess y x = false) (h2 : Op.bytesLess z y = false) : Op.bytesLess z x = false := by
  cases h : Op.bytesLess z x with
  | false => rfl
  | true =>
    by_cases e : x = y
    · subst e; rw [h] at h2; cases h2
    · have := bl_total y x h1 (fun h => e h.symm)
      have := bl_trans h this
      rw [this] at h2; cases h2
set_option maxRecDepth 20000 in
theorem sortB_sorted (l : List (List UInt8)) : (l.mergeSort fun x y => decide (x ≤ y)).Pairwise (fun x y => Op.bytesLess y x = false) := by
  have := List.pairwise_mergeSort (le := fun x y : List UInt8 => decide (x ≤ y)) (by
    intro a b c h1 h2
    simp only [decide_eq_true_eq, bl_le] at h1 h2 ⊢
    exact le_transB h1 h2) (by
    intro a b
    simp only [Bool.or_eq_true, decide_eq_true_eq, bl_le]
    cases h : Op.bytesLess b a with
    | false => exact .inl rfl
    | true =>
      right
      cases h2 : Op.bytesLess a b with
      | false => rfl
      | true => have := bl_trans h h2; rw [bl_irrefl] at this; cases this) l
  exact this.imp (fun h => by simpa [bl_le] using h)
set_option maxRecDepth 20000 in
theorem comp_mem {d : Array (List UInt8)} : ∀ {m : Nat}, m ≤ d.size → ∀ x, x ∈ Lib.compactUpTo d m ↔ ∃ j, j < m ∧ d[j]! = x
  | 0, _, x => by simp [Lib.compactUpTo]
  | m + 1, hm, x => by
    rw [Lib.compactUpTo_succ, List.mem_append, comp_mem (by omega) x]
    constructor
    · rintro (⟨j, h1, h2⟩ | h)
      · exact ⟨j, by omega, h2⟩
      · split at h
        · simp at h; exact ⟨m, by omega, h.symm⟩
        · cases h
    · rintro ⟨j, h1, h2⟩
      by_cases hj : j < m
      · exact .inl ⟨j, hj, h2⟩
      · obtain rfl : j = m := by omega
        by_cases hk : Lib.keeps d j = true
        · right; rw [if_pos hk, ← h2]; exact List.mem_singleton.2 rfl
        · left
          unfold Lib.keeps at hk
          simp only [decide_eq_true_eq, not_or, Decidable.not_not] at hk
          exact ⟨j - 1, by omega, by rw [← hk.2]; exact h2⟩
set_option maxRecDepth 20000 in
theorem comp_strict {d : Array (List UInt8)} (hs : d.toList.Pairwise (fun x y => Op.bytesLess y x = false)) : ∀ {m : Nat}, m ≤ d.size → (Lib.compactUpTo d m).Pairwise (fun x y => Op.bytesLess x y = true)
  | 0, _ => List.Pairwise.nil
  | m + 1, hm => by
    rw [Lib.compactUpTo_succ]
    refine List.pairwise_append.2 ⟨comp_strict hs (by omega), ?_, fun x hx y hy => ?_⟩
    · split
      · exact List.pairwise_singleton _ _
      · exact List.Pairwise.nil
    · split at hy
      · rename_i hk
        simp at hy
        subst hy
        obtain ⟨j, hj, rfl⟩ := (comp_mem (by omega) x).1 hx
        have hne : d[m]! ≠ d[m - 1]! := by
          unfold Lib.keeps at hk
          simp only [decide_eq_true_eq] at hk
          rcases hk with hk | hk
          · omega
          · exact hk
        have le : ∀ a b : Nat, a < b → b < d.size → Op.bytesLess d[b]! d[a]! = false := by
          intro a b hab hb
          have := (List.pairwise_iff_getElem.1 hs) a b (by simpa using (by omega : a < d.size)) (by simpa using hb) hab
          rw [getElem!_pos d b hb, getElem!_pos d a (by omega)]
          simpa using this
        have h1 : Op.bytesLess d[m - 1]! d[m]! = true := bl_total _ _ (le (m - 1) m (by omega) (by omega)) hne
        by_cases he : j = m - 1
        · subst he; exact h1
        · have h2 := le j (m - 1) (by omega) (by omega)
          cases h3 : Op.bytesLess d[j]! d[m]! with
          | true => rfl
          | false =>
            by_cases h4 : d[j]! = d[m]!
            · rw [h4, h1] at h2
              cases h2
            · have h5 := bl_total _ _ h3 h4
              have h6 := bl_trans h1 h5
              rw [h6] at h2; cases h2
      · cases hy
/-- What the library makes of texts: in order, each once. -/
def tidy (l : List ByteArray) : List ByteArray := (Lib.compactUpTo ((l.map bsF).mergeSort fun x y => decide (x ≤ y)).toArray ((l.map bsF).mergeSort fun x y => decide (x ≤ y)).toArray.size).map unF
set_option maxRecDepth 20000 in
theorem tidy_ris (l : List ByteArray) : Ris l (tidy l) := by
  have hs := sortB_sorted (l.map bsF)
  have hp := List.mergeSort_perm (l.map bsF) (fun x y => decide (x ≤ y))
  unfold tidy
  generalize (l.map bsF).mergeSort (fun x y => decide (x ≤ y)) = s at hs hp
  refine ⟨List.pairwise_map.2 ((comp_strict (d := s.toArray) hs (Nat.le_refl _)).imp (fun {x y} h => ?_)), fun x => ?_⟩
  · unfold ltS
    rw [← bsF_eq, ← bsF_eq]
    exact h
  · rw [List.mem_map]
    constructor
    · rintro ⟨y, hy, rfl⟩
      obtain ⟨j, hj, rfl⟩ := (comp_mem (Nat.le_refl _) y).1 hy
      have hj' : j < s.length := by simpa using hj
      have hm : s[j] ∈ l.map bsF := hp.subset (List.getElem_mem hj')
      obtain ⟨z, hz, he⟩ := List.mem_map.1 hm
      have e : s.toArray[j]! = bsF z := by rw [he]; simp [hj']
      rw [e]
      exact hz
    · intro hx
      have hm : bsF x ∈ s := hp.symm.subset (List.mem_map.2 ⟨x, hx, rfl⟩)
      obtain ⟨j, hj, he⟩ := List.mem_iff_getElem.1 hm
      exact ⟨bsF x, (comp_mem (Nat.le_refl _) _).2 ⟨j, by simpa using hj, by simp [hj, he]⟩, rfl⟩
set_option maxRecDepth 20000 in
theorem tidy_le (l : List ByteArray) : (tidy l).length ≤ l.length := by
  unfold tidy
  rw [List.length_map]
  unfold Lib.compactUpTo
  rw [List.length_map]
  refine Nat.le_trans (List.length_filter_le _ _) ?_
  simp
set_option maxRecDepth 20000 in
/-- slices.Sort and slices.Compact, one behind the other. -/
theorem sorts_any (w : World) (base : Nat) (v : Value) (l : List ByteArray) (h : Own w base 9 .str v l) (hl : l.length ≤ 100000) (hB : base ≤ w.heap.size) :
    Calls Try.prog 39 #[v] w fun e w' => ∃ l', e = .returned (.tuple #[]) ∧ Own w' base 9 .str v l' ∧ l'.map bsF = (l.map bsF).mergeSort (fun x y => decide (x ≤ y)) ∧ Below base w w' := by
  rcases own_holdsS h with ⟨rfl, rfl⟩ | ⟨g, cap, cur, rfl, hg, hgb, hlc, hcm, hcs, hlt, hH⟩
  · have hcon := AnyM.slices_Sort_string_none (P := Try.prog) (ρ := Try.sortS_ren) Try.sortS none 0 w
    change Calls Try.prog 39 _ _ _ at hcon
    refine hcon.mono ?_
    rintro e w' ⟨rfl, rfl⟩
    exact ⟨[], rfl, Own.nil _ _ _ _, by simp, Below.refl _ _⟩
  · have hcon := AnyM.slices_Sort_string (P := Try.prog) (ρ := Try.sortS_ren) Try.sortS g 0 cap (l.map bsF) w hH (blk_lt hgb) (by simp; omega)
    change Calls Try.prog 39 _ _ _ at hcon
    rw [List.length_map] at hcon
    refine hcon.mono ?_
    rintro e w2 ⟨rfl, n, os, hw⟩
    have hgr : w.grownBy w2 (some g) := by rw [hw]; exact sorted_grownS
    have hp := List.mergeSort_perm (l.map bsF) (fun x y => decide (x ≤ y))
    obtain ⟨s, hs⟩ : ∃ s, (l.map bsF).mergeSort (fun x y => decide (x ≤ y)) = s := ⟨_, rfl⟩
    rw [hs] at hw hp ⊢
    have hsl : s.length = l.length := by rw [hp.length_eq, List.length_map]
    have hlu : (s.map unF).length = l.length := by rw [List.length_map, hsl]
    have hO := own_putS (l := s.map unF) hg hgb hcs (by simp; omega) hcm (by simp) (by rw [map_un, hlu, ← hsl]; simp) (fun x hx => by
      obtain ⟨y, hy, rfl⟩ := List.mem_map.1 hx
      obtain ⟨z, hz, rfl⟩ := List.mem_map.1 (hp.subset hy)
      exact hlt z hz) hw
    rw [hlu] at hO
    exact ⟨s.map unF, rfl, hO, map_un s, (Below.refl _ _).grown hgr hB (fun k e => by injection e with e; omega)⟩
set_option maxRecDepth 20000 in
theorem eqlS : EqlAt Try.prog (Try.compS_ren.t 23) encStr (fun x y => decide (x = y)) := by
  refine ⟨fun x y w => ?_, fun op a b x y w => ?_⟩
  · have := (EqlAt.string Try.prog (Try.compS_ren.t 23)).1 ⟨x.toArray⟩ ⟨y.toArray⟩ w
    refine this.trans ?_
    show Result.ok (Value.bool (ByteArray.toList ⟨x.toArray⟩ == ByteArray.toList ⟨y.toArray⟩)) w = Result.ok (Value.bool (decide (x = y))) w
    rw [ByteArray.toList_eq, ByteArray.toList_eq]
    simp only [List.toList_toArray]
    by_cases h : x = y <;> simp [h]
  · exact (GuardAt.string Try.prog (Try.compS_ren.t 23)) op a b ⟨x.toArray⟩ ⟨y.toArray⟩ w
set_option maxRecDepth 20000 in
theorem neqlS : NeqAt Try.prog (Try.compS_ren.t 23) encStr (fun x y => decide (x = y)) := by
  refine ⟨fun x y w => ?_, fun op a b x y w => ?_⟩
  · have := (NeqAt.string Try.prog (Try.compS_ren.t 23)).1 ⟨x.toArray⟩ ⟨y.toArray⟩ w
    refine this.trans ?_
    show Result.ok (Value.bool (!(ByteArray.toList ⟨x.toArray⟩ == ByteArray.toList ⟨y.toArray⟩))) w = Result.ok (Value.bool (!decide (x = y))) w
    rw [ByteArray.toList_eq, ByteArray.toList_eq]
    simp only [List.toList_toArray]
    by_cases h : x = y <;> simp [h]
  · exact (GuardAt.string Try.prog (Try.compS_ren.t 23)) op a b ⟨x.toArray⟩ ⟨y.toArray⟩ w
set_option maxRecDepth 20000 in
theorem zerS : ∀ w, (zeroValue 9).run Try.prog w = .ok (encStr []) w := Try.zeroValue9
set_option maxRecDepth 20000 in
theorem comp_none (c : Nat) (w : World) : Calls Try.prog 40 #[.slice none 0 c] w fun e w' => e = .returned (.slice none 0 c) ∧ w = w' := by
  go_enter Try.func40, Try.ntmps40
  go_wp2
  go_ret
  exact ⟨rfl, rfl⟩
set_option maxRecDepth 20000 in
theorem comps_any (w : World) (base : Nat) (v : Value) (l : List ByteArray) (h : Own w base 9 .str v l) (hl : l.length ≤ 100000) (hB : base ≤ w.heap.size) :
    Calls Try.prog 40 #[v] w fun e w' => ∃ v', e = .returned v' ∧ Own w' base 9 .str v' ((Lib.compactUpTo (l.map bsF).toArray (l.map bsF).toArray.size).map unF) ∧ Below base w w' := by
  rcases own_holdsS h with ⟨rfl, rfl⟩ | ⟨g, cap, cur, rfl, hg, hgb, hlc, hcm, hcs, hlt, hH⟩
  · refine (comp_none 0 w).mono ?_
    rintro e w' ⟨rfl, rfl⟩
    exact ⟨_, rfl, Own.nil _ _ _ _, Below.refl _ _⟩
  · have hcon := AnyE.slices_Compact (P := Try.prog) (ρ := Try.compS_ren) (α := List UInt8) Try.compS encStr (fun _ => rfl) eqlS neqlS [] zerS g 0 cap (l.map bsF).toArray w hH (by simp; omega) (by simpa using hlc)
    change Calls Try.prog 40 _ _ _ at hcon
    obtain ⟨s, hs⟩ : ∃ s, Lib.compactUpTo (l.map bsF).toArray (l.map bsF).toArray.size = s := ⟨_, rfl⟩
    have hle : s.length ≤ l.length := by
      rw [← hs]
      unfold Lib.compactUpTo
      rw [List.length_map]
      refine Nat.le_trans (List.length_filter_le _ _) ?_
      simp
    have hmem : ∀ x ∈ s, ∃ z ∈ l, bsF z = x := fun x hx => by
      rw [← hs] at hx
      obtain ⟨j, hj, rfl⟩ := (comp_mem (Nat.le_refl _) x).1 hx
      have hj' : j < l.length := by simpa using hj
      exact ⟨l[j], List.getElem_mem hj', by simp [hj']⟩
    rw [hs] at hcon ⊢
    rw [show (l.map bsF).toArray.size = l.length by simp] at hcon
    refine hcon.mono ?_
    rintro e w2 ⟨rfl, q, hw⟩
    have hw' : w2 = grow (putRow encStr (Sort.ahead w q) g 0 (s ++ List.replicate (l.length - s.length) []).toArray) #[] := by rw [hw, grow_empty]
    have hgr : w.grownBy w2 (some g) := by rw [hw']; exact sorted_grownS
    have hlu : (s.map unF).length = s.length := List.length_map ..
    have hO := own_putS (l := s.map unF) hg hgb hcs (by simp; omega) hcm (by rw [hlu]; simp) (by rw [map_un, hlu]; simp) (fun x hx => by
      obtain ⟨y, hy, rfl⟩ := List.mem_map.1 hx
      obtain ⟨z, hz, rfl⟩ := hmem y hy
      exact hlt z hz) hw'
    rw [hlu] at hO
    exact ⟨_, rfl, hO, (Below.refl _ _).grown hgr hB (fun k e => by injection e with e; omega)⟩
end Go.Proofs.Ytfjnpiahloncmaa
