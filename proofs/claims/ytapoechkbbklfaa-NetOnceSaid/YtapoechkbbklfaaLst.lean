import Derived.Test.YtapoechkbbklfaaMem
namespace Go.Proofs.Ytapoechkbbklfaa
open Go.RowKit
/-- A slice of bytes, as a value that is read. -/
def Tx (w : World) (v : Value) (xs : List UInt8) : Prop := ∃ A n c, v = .slice A n c ∧ n ≤ c ∧ c ≤ 9223372036854775807 ∧ Bs w A n xs
def Txs (w : World) (vs : List Value) (l : List (List UInt8)) : Prop := vs.length = l.length ∧ ∀ (i : Nat) (v : Value) (x : List UInt8), vs[i]? = some v → l[i]? = some x → Tx w v x
theorem Tx.below {w w' : World} {v : Value} {xs : List UInt8} (h : Tx w v xs) (hb : Below w.heap.size w w') : Tx w' v xs := by
  obtain ⟨A, n, c, e, h1, h2, h3⟩ := h
  exact ⟨A, n, c, e, h1, h2, h3.below hb⟩
theorem Txs.below {w w' : World} {vs : List Value} {l : List (List UInt8)} (h : Txs w vs l) (hb : Below w.heap.size w w') : Txs w' vs l :=
  ⟨h.1, fun i v x hv hx => (h.2 i v x hv hx).below hb⟩
theorem Txs.nil (w : World) : Txs w [] [] := ⟨rfl, fun i v x hv => by simp at hv⟩
theorem Txs.snoc {w : World} {vs : List Value} {l : List (List UInt8)} {v : Value} {x : List UInt8} (h : Txs w vs l) (hx : Tx w v x) : Txs w (vs ++ [v]) (l ++ [x]) := by
  refine ⟨by simp [h.1], fun i u y hu hy => ?_⟩
  by_cases hi : i < vs.length
  · rw [List.getElem?_append_left hi] at hu
    rw [List.getElem?_append_left (by have := h.1; omega)] at hy
    exact h.2 i u y hu hy
  · rw [List.getElem?_append_right (by omega)] at hu
    rw [List.getElem?_append_right (by have := h.1; omega)] at hy
    rw [h.1] at hu
    by_cases h0 : i - l.length = 0
    · rw [h0] at hu hy
      simp at hu hy
      subst hu hy
      exact hx
    · rw [List.getElem?_eq_none (by simp; omega)] at hu
      cases hu
theorem own_tx {w : World} {base n : Nat} {e : TypeId} {v : Value} {xs : List UInt8} (h : w.ownsRow base e 1 v n (xs.map encB)) : Tx w v xs := by
  obtain ⟨A, c, hv, hc, hb⟩ := own_bs h
  rcases h.2 with ⟨h0, _⟩ | ⟨g, cap, cur, h0, _, _, _, hcm, _⟩
  · rw [hv] at h0; injection h0 with h1 h2 h3; subst h3
    exact ⟨A, n, 0, hv, hc, by omega, hb⟩
  · rw [hv] at h0; injection h0 with h1 h2 h3; subst h3
    simp only [maxLen] at hcm
    exact ⟨A, n, c, hv, hc, by omega, hb⟩
/-- What is read of a row of one's own is as it was behind an append to another one: by 'Below' of a later base. -/
theorem Tx.one {w : World} {v : Value} {xs : List UInt8} (h : Tx w v xs) : v.oneCell' = true := by
  obtain ⟨A, n, c, rfl, _⟩ := h; rfl
/-- The rest of what is read, from a place on: where the model's address of an empty rest is the slice's own. -/
theorem Bs.rest {w : World} {ad : Addr} {n : Nat} {xs : List UInt8} (h : Bs w (some ad) n xs) (lo : Nat) (h1 : lo ≤ n) : Bs w (some (ad.add lo)) (n - lo) (xs.drop lo) := by
  have := h.sub lo n h1 (Nat.le_refl _)
  rwa [List.take_of_length_le (by rw [h.len]; omega)] at this
theorem Bs.none_at {w : World} {ad : Addr} {xs : List UInt8} (h : xs = []) : Bs w (some ad) 0 xs := by
  subst h
  exact ⟨by omega, rfl, (fun e => by cases e), fun _ _ j u hu => by simp at hu⟩
theorem own_below {w w' : World} {base : Nat} {e : TypeId} {size n : Nat} {v : Value} {xs : List Value} (h : w.ownsRow base e size v n xs) (hb : Below w.heap.size w w') : w'.ownsRow base e size v n xs := by
  obtain ⟨h1, h2 | ⟨g, cap, cur, hv, hg, hh, h3⟩⟩ := h
  · exact ⟨h1, .inl h2⟩
  · exact ⟨h1, .inr ⟨g, cap, cur, hv, hg, (hb.block g (Array.getElem?_eq_some_iff.1 hh).1).trans hh, h3⟩⟩
theorem own_lt {w : World} {base : Nat} {e : TypeId} {size n : Nat} {v : Value} {xs : List Value} (h : w.ownsRow base e size v n xs) (k : Nat) (hk : v.ownBlock = some k) : k < w.heap.size := by
  rcases h.2 with ⟨rfl, _⟩ | ⟨g, cap, cur, rfl, hb, hh, _⟩
  · simp [Value.ownBlock] at hk
  · have : g = k := by simpa [Value.ownBlock] using hk
    have := (Array.getElem?_eq_some_iff.1 hh).1
    omega
/-- A slice of bytes that is read, of which nothing lies in the block g. -/
def TxA (w : World) (g : Option Nat) (v : Value) (xs : List UInt8) : Prop := Tx w v xs ∧ (xs ≠ [] → v.ownBlock ≠ g)
def TxsA (w : World) (g : Option Nat) (vs : List Value) (l : List (List UInt8)) : Prop := vs.length = l.length ∧ ∀ (i : Nat) (v : Value) (x : List UInt8), vs[i]? = some v → l[i]? = some x → TxA w g v x
theorem TxsA.txs {w : World} {g : Option Nat} {vs : List Value} {l : List (List UInt8)} (h : TxsA w g vs l) : Txs w vs l := ⟨h.1, fun i v x hv hx => (h.2 i v x hv hx).1⟩
theorem TxsA.nil (w : World) (g : Option Nat) : TxsA w g [] [] := ⟨rfl, fun i v x hv => by simp at hv⟩
theorem TxsA.below {w w' : World} {g : Option Nat} {vs : List Value} {l : List (List UInt8)} (h : TxsA w g vs l) (hb : Below w.heap.size w w') : TxsA w' g vs l :=
  ⟨h.1, fun i v x hv hx => ⟨(h.2 i v x hv hx).1.below hb, (h.2 i v x hv hx).2⟩⟩
theorem TxsA.snoc {w : World} {g : Option Nat} {vs : List Value} {l : List (List UInt8)} {v : Value} {x : List UInt8} (h : TxsA w g vs l) (hx : TxA w g v x) : TxsA w g (vs ++ [v]) (l ++ [x]) := by
  refine ⟨by simp [h.1], fun i u y hu hy => ?_⟩
  by_cases hi : i < vs.length
  · rw [List.getElem?_append_left hi] at hu
    rw [List.getElem?_append_left (by have := h.1; omega)] at hy
    exact h.2 i u y hu hy
  · rw [List.getElem?_append_right (by omega)] at hu
    rw [List.getElem?_append_right (by have := h.1; omega)] at hy
    rw [h.1] at hu
    by_cases h0 : i - l.length = 0
    · rw [h0] at hu hy
      simp at hu hy
      subst hu hy
      exact hx
    · rw [List.getElem?_eq_none (by simp; omega)] at hu
      cases hu
theorem Bs.lt {w : World} {ad : Addr} {n : Nat} {xs : List UInt8} (h : Bs w (some ad) n xs) (hn : xs ≠ []) : ad.block < w.heap.size := by
  cases xs with
  | nil => exact absurd rfl hn
  | cons x xs =>
    have := h.2.2.2 ad rfl 0 (encB x) rfl
    have h2 := World.block_lt_of_cell? w _ this
    unfold Addr.add at h2
    simpa using h2
theorem add_block (a : Addr) (k : Nat) : (a.add k).block = a.block := by
  unfold Addr.add; split <;> rfl
theorem Bs.grown {w w' : World} {A : Option Addr} {n : Nat} {xs : List UInt8} {row : Option Nat} (h : Bs w A n xs) (hg : w.grownBy w' row) (hne : xs ≠ [] → A.map (·.block) ≠ row) : Bs w' A n xs := by
  refine ⟨h.1, h.2.1, h.2.2.1, ?_⟩
  intro ad e j u hu
  have hx : xs ≠ [] := by intro e; subst e; simp at hu
  refine cell_grown hg (h.2.2.2 ad e j u hu) ?_
  rw [add_block]
  intro e2
  have := hne hx
  rw [e] at this
  exact this e2
theorem TxA.grown {w w' : World} {g g' : Option Nat} {v : Value} {xs : List UInt8} (h : TxA w g v xs) (hg : w.grownBy w' g) (hg' : g' = g ∨ g' = some w.heap.size) : TxA w' g' v xs := by
  obtain ⟨⟨A, n, c, rfl, h1, h2, h3⟩, h4⟩ := h
  have hm : ∀ k, (Value.slice A n c).ownBlock = k ↔ A.map (·.block) = k := by intro k; cases A <;> simp [Value.ownBlock]
  refine ⟨⟨A, n, c, rfl, h1, h2, h3.grown hg (fun hx e => h4 hx ((hm _).2 e))⟩, fun hx e => ?_⟩
  rcases hg' with rfl | rfl
  · exact h4 hx e
  · cases A with
    | none => simp [Value.ownBlock] at e
    | some ad =>
      have := h3.lt hx
      simp [Value.ownBlock] at e
      omega
theorem TxsA.grown {w w' : World} {g g' : Option Nat} {vs : List Value} {l : List (List UInt8)} (h : TxsA w g vs l) (hg : w.grownBy w' g) (hg' : g' = g ∨ g' = some w.heap.size) : TxsA w' g' vs l :=
  ⟨h.1, fun i v x hv hx => (h.2 i v x hv hx).grown hg hg'⟩
/-- What a call made is in no block that stood before it. -/
theorem own_txa {w : World} {base n : Nat} {e : TypeId} {v : Value} {xs : List UInt8} {g : Option Nat} (h : w.ownsRow base e 1 v n (xs.map encB)) (hg : ∀ k, g = some k → k < base) : TxA w g v xs := by
  refine ⟨own_tx h, fun hx e => ?_⟩
  rcases h.2 with ⟨rfl, h0⟩ | ⟨b, cap, cur, rfl, hb, _⟩
  · subst h0
    have := h.1
    simp at this
    exact hx this
  · have := hg b (e.symm.trans rfl)
    omega
/-- What lies in blocks below B is as it was, where only others are written. -/
theorem Bs.old {B : Nat} {w w' : World} {A : Option Addr} {n : Nat} {xs : List UInt8} (h : Bs w A n xs) (hA : xs ≠ [] → ∀ k, A.map (·.block) = some k → k < B) (hb : Below B w w') : Bs w' A n xs := by
  refine ⟨h.1, h.2.1, h.2.2.1, ?_⟩
  intro ad e j u hu
  have hx : xs ≠ [] := by intro e; subst e; simp at hu
  subst e
  have hk := hA hx ad.block rfl
  refine (hb.cell ?_).trans (h.2.2.2 ad rfl j u hu)
  rw [add_block]; exact hk
/-- 's[lo:]': the model's address of it. -/
theorem Bs.from_ {w : World} {A : Option Addr} {k c : Nat} {r : List UInt8} (h : Bs w A k r) (hkc : k ≤ c) (lo : Nat) (hlo : lo ≤ k) :
    Bs w (if c = lo then A else A.map (fun x : Addr => x.add lo)) (k - lo) (r.drop lo) ∧ (if c = lo then A else A.map (fun x : Addr => x.add lo)).map (·.block) = A.map (·.block) := by
  cases A with
  | none =>
    obtain rfl : k = 0 := h.2.2.1 rfl
    obtain rfl : r = [] := List.eq_nil_of_length_eq_zero h.len
    obtain rfl : lo = 0 := by omega
    refine ⟨?_, by split <;> rfl⟩
    have : (if c = 0 then (none : Option Addr) else Option.map (fun x : Addr => x.add 0) none) = none := by split <;> rfl
    rw [this]
    exact h
  | some ad =>
    by_cases hc : c = lo
    · rw [if_pos hc]
      refine ⟨?_, rfl⟩
      have hk : k - lo = 0 := by omega
      rw [hk, List.drop_eq_nil_of_le (by rw [h.len]; omega)]
      exact Bs.none_at rfl
    · rw [if_neg hc]
      exact ⟨h.rest lo hlo, by simp [add_block]⟩
end Go.Proofs.Ytapoechkbbklfaa
