import Derived.Test.YtfjnpiahloncmaaPut
import Derived.Shelf.SlSortCmp.NoneTotal
namespace Go.Proofs.Ytfjnpiahloncmaa
open Go.RowKit Go.Sort Go.Shelf
set_option linter.unusedVariables false
/-! slices.SortFunc at an own row of structs, by a whole number of each. -/
section
variable {α : Type} {enc : α → List Value} {k : Nat}
theorem flatMap_get (hk : ∀ x, (enc x).length = k) : ∀ (d : List α) (i j : Nat), j < k → (d.flatMap enc)[i * k + j]? = (d[i]?).bind fun x => (enc x)[j]?
  | [], i, j, _ => by simp
  | x :: d, 0, j, hj => by
    rw [List.flatMap_cons, List.getElem?_append_left (by rw [hk]; omega)]
    simp
  | x :: d, i + 1, j, hj => by
    rw [List.flatMap_cons, List.getElem?_append_right (by rw [hk, Nat.add_mul]; omega), hk, show (i + 1) * k + j - k = i * k + j by rw [Nat.add_mul]; omega, flatMap_get hk d i j hj]
    simp
theorem flatMap_len (hk : ∀ x, (enc x).length = k) : ∀ (d : List α), (d.flatMap enc).length = d.length * k
  | [] => by simp
  | x :: d => by rw [List.flatMap_cons, List.length_append, hk, flatMap_len hk d, List.length_cons, Nat.add_mul]; omega
theorem flat_list [Inhabited α] (hk : ∀ x, (enc x).length = k) (d : Array α) : (flatK enc k d).toList = d.toList.flatMap enc := by
  have hs := size_flatK enc k d
  apply List.ext_getElem?
  intro t
  by_cases ht : t < d.size * k
  · have hk0 : 0 < k := Nat.pos_of_ne_zero (fun e => by subst e; simp at ht)
    have hq : t / k < d.size := (Nat.div_lt_iff_lt_mul hk0).2 ht
    have hr : t % k < k := Nat.mod_lt _ hk0
    have h1 := get_flatK enc k d t ht
    have h2 := flatMap_get hk d.toList (t / k) (t % k) hr
    rw [Nat.div_add_mod' t k] at h2
    rw [h2, Array.getElem?_toList, Array.getElem?_eq_getElem (by rw [hs]; exact ht), Array.getElem?_toList, Array.getElem?_eq_getElem hq, Option.bind_some, List.getElem?_eq_getElem (by rw [hk]; exact hr)]
    rw [getElem!_pos _ t (by rw [hs]; exact ht), getElem!_pos d _ hq, getElem!_pos _ _ (by rw [hk]; exact hr)] at h1
    rw [h1]
  · rw [List.getElem?_eq_none (by simp [hs]; omega), List.getElem?_eq_none (by rw [flatMap_len hk]; simp; omega)]
end
theorem putv_take {cur X : Array Value} (h : X.size ≤ cur.size) : (putCells id 0 X cur).toList.take X.size = X.toList := by
  apply List.ext_getElem?
  intro k
  unfold putCells
  rw [List.getElem?_take, Array.getElem?_toList]
  by_cases hk : k < X.size
  · rw [if_pos hk, Array.getElem?_toList, Array.getElem?_mapIdx, Array.getElem?_eq_getElem (by omega), Array.getElem?_eq_getElem hk]
    simp [hk]
  · rw [if_neg hk, List.getElem?_eq_none (by simp; omega)]
theorem putv_size {cur X : Array Value} : (putCells id 0 X cur).size = cur.size := by simp [putCells]
theorem sortedv_heap {w : World} {g n : Nat} {X : Array Value} {os : Array Obj} {cur : Array Value} {e : TypeId} {fr : Nat × Nat} (h : w.heap[g]? = some (.cells cur e fr)) :
    (sortWorld id w g 0 n X os).heap[g]? = some (.cells (putCells id 0 X cur) e fr) := by
  have hlt := blk_lt h
  unfold sortWorld
  rw [heap_grow_old _ _ (by rw [size_putRow]; exact hlt)]
  show (w.heap.modify g _)[g]? = _
  rw [Array.getElem?_modify, if_pos rfl, h]
  rfl
theorem sortedv_grown {w : World} {g n : Nat} {X : Array Value} {os : Array Obj} : w.grownBy (sortWorld id w g 0 n X os) (some g) := by
  refine ⟨rfl, rfl, rfl, ?_, fun k hk hne => ?_⟩
  · unfold sortWorld; rw [size_grow, size_putRow]; exact Nat.le_add_right _ _
  · unfold sortWorld
    rw [heap_grow_old _ _ (by rw [size_putRow]; exact hk)]
    show (w.heap.modify g _)[k]? = _
    rw [Array.getElem?_modify, if_neg (fun e => hne (by rw [e]))]
section
variable {P : Program} {S : Sh} {α : Type} {enc : α → List Value} {dat : α → S.Ty}
theorem rdl_split (hform : ∀ w ok x cs, Rd w ok S x cs → ∃ p, dat p = x ∧ enc p = cs) {w : World} {ok : Nat → Prop} : ∀ {l : List S.Ty} {xs : List Value}, RdL w ok S l xs → ∃ d : List α, d.map dat = l ∧ d.flatMap enc = xs ∧ ∀ p ∈ d, Rd w ok S (dat p) (enc p)
  | [], xs, h => ⟨[], rfl, by rw [show xs = [] from h]; rfl, fun p hp => by cases hp⟩
  | x :: l, xs, h => by
    obtain ⟨c1, c2, rfl, h1, h2⟩ := h
    obtain ⟨p, rfl, rfl⟩ := hform _ _ _ _ h1
    obtain ⟨d, rfl, rfl, h3⟩ := rdl_split hform h2
    exact ⟨p :: d, rfl, rfl, fun q hq => by
      rcases List.mem_cons.1 hq with rfl | hq
      · exact h1
      · exact h3 q hq⟩
theorem rdl_join {w : World} {ok : Nat → Prop} : ∀ {d : List α}, (∀ p ∈ d, Rd w ok S (dat p) (enc p)) → RdL w ok S (d.map dat) (d.flatMap enc)
  | [], _ => rfl
  | p :: d, h => ⟨enc p, d.flatMap enc, rfl, h p List.mem_cons_self, rdl_join fun q hq => h q (List.mem_cons_of_mem _ hq)⟩
theorem sortOwn [Inhabited α] (hform : ∀ w ok x cs, Rd w ok S x cs → ∃ p : α, dat p = x ∧ enc p = cs) (hk : ∀ x : α, (enc x).length = S.size) {key : S.Ty → Int} {cf : α → α → Int} (hcf : ∀ x y, cf x y = Lib.compareInt (key (dat x)) (key (dat y))) {F : Nat} {fv : Value} {base : Nat} {e : TypeId} {v : Value} {l : List S.Ty} {w : World}
    (hN : Calls P F #[.slice none 0 0, fv] w fun e w' => e = .returned (.tuple #[]) ∧ w = w')
    (hS : ∀ (blk cap : Nat) (d : Array α), HoldsK enc S.size w blk 0 d → blk < w.heap.size → d.size < 4611686018427387904 → Calls P F #[.slice (some ⟨blk, 0, none⟩) d.size cap, fv] w fun e w' => e = .returned (.tuple #[]) ∧ ∃ d' n os, PermIn 0 d.size d d' ∧ SortedIn (ltOf cf) 0 d.size d' ∧ w' = sortWorldK enc S.size w blk 0 n d' os)
    (h : Own w base e S v l) (hl : l.length ≤ 100000) (hB : base ≤ w.heap.size) :
    Calls P F #[v, fv] w fun e' w' => e' = .returned (.tuple #[]) ∧ ∃ l', Own w' base e S v l' ∧ l'.Perm l ∧ l'.Pairwise (fun x y => key x ≤ key y) ∧ Below base w w' ∧ w.grownBy w' v.ownBlock := by
  obtain ⟨xs, ⟨h1, h2⟩, h3⟩ := h
  rcases h2 with ⟨rfl, h0⟩ | ⟨g, cap, cur, rfl, h4, h5, h6, h7, h8, h9⟩
  · refine hN.mono ?_
    rintro e' w' ⟨rfl, rfl⟩
    have hl0 : l = [] := List.eq_nil_of_length_eq_zero h0
    subst hl0
    exact ⟨rfl, [], Own.nil _ _ _ _, List.Perm.refl _, List.Pairwise.nil, Below.refl _ _, ⟨rfl, rfl, rfl, Nat.le_refl _, fun _ _ _ => rfl⟩⟩
  · obtain ⟨d, hdl, hdx, hdr⟩ := rdl_split hform h3
    have hdlen : d.length = l.length := by rw [← hdl, List.length_map]
    have hfl := flat_list hk d.toArray
    have hfs : (flatK enc S.size d.toArray).size = l.length * S.size := by rw [size_flatK]; simp [hdlen]
    have hH : HoldsK enc S.size w g 0 d.toArray := fun j hj => by
      have hj2 : j < l.length * S.size := by rw [← hfs]; exact hj
      have e2 : cur[j]? = some ((flatK enc S.size d.toArray)[j]) := by
        have a1 := congrArg (fun l => l[j]?) h9
        simp only [List.getElem?_take, if_pos hj2, Array.getElem?_toList] at a1
        rw [a1, ← hdx]
        have a2 := congrArg (fun l => l[j]?) hfl
        simp only [Array.getElem?_toList] at a2
        rw [← a2, Array.getElem?_eq_getElem hj]
      rw [Nat.zero_add]
      constructor
      · rw [getElem!_pos _ j hj]
        simp [World.cell?, h5, e2]
      · simp [World.frozen?, h5]
    have hcall := hS g cap d.toArray hH (blk_lt h5) (by simp; omega)
    rw [show d.toArray.size = l.length by simp [hdlen]] at hcall
    refine hcall.mono ?_
    rintro e' w' ⟨rfl, d', n, os, hp, hs, hw⟩
    obtain ⟨hp1, _, hp2⟩ := hp
    have hpl : d'.toList.Perm d := by
      rw [show l.length = d.toArray.size by simp [hdlen], ← hp1, Array.extract_size] at hp2
      rw [hp1, Array.extract_size] at hp2
      simpa using hp2
    have hsz : d'.size = l.length := by rw [hp1]; simp [hdlen]
    have hw2 : w' = sortWorld id w g 0 n (flatK enc S.size d') os := hw
    have hgr : w.grownBy w' (some g) := by rw [hw2]; exact sortedv_grown
    have hfl2 := flat_list hk d'
    have hfs2 : (flatK enc S.size d').size = l.length * S.size := by rw [size_flatK, hsz]
    have hcap : l.length * S.size ≤ cur.size := by rw [h8]; exact Nat.mul_le_mul_right _ h6
    refine ⟨rfl, d'.toList.map dat, ⟨d'.toList.flatMap enc, ⟨?_, .inr ⟨g, cap, _, by simp [hsz], h4, by rw [hw2]; exact sortedv_heap h5, by simp [hsz, h6], h7, by rw [putv_size, h8], ?_⟩⟩, ?_⟩, ?_, ?_, (Below.refl _ _).grown hgr hB (fun k e => by injection e with e; omega), hgr⟩
    · rw [flatMap_len hk]; simp
    · rw [List.length_map, Array.length_toList, hsz, ← hfs2, putv_take (by rw [hfs2]; exact hcap), hfl2]
    · refine rdl_join (fun p hp => ?_)
      have := hdr p (hpl.subset hp)
      refine this.of (fun a u ha hu => ?_) (fun k hk _ => hk)
      exact cell_grown hgr hu (fun e => ha.2 e.symm)
    · rw [← hdl]; exact hpl.map dat
    · rw [List.pairwise_map]
      refine List.pairwise_iff_getElem.2 fun i j hi hj hij => ?_
      have hi' : i < d'.size := by simpa using hi
      have hj' : j < d'.size := by simpa using hj
      have q := hs i j (Nat.zero_le _) hij (by omega)
      rw [getElem!_pos d' j hj', getElem!_pos d' i hi'] at q
      unfold ltOf at q
      rw [hcf] at q
      simp only [Array.getElem_toList]
      unfold Lib.compareInt at q
      have q := of_decide_eq_false q
      by_cases c1 : key (dat d'[j]) < key (dat d'[i])
      · rw [if_pos c1] at q; omega
      · omega
end
end Go.Proofs.Ytfjnpiahloncmaa
