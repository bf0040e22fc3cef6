import Derived.Test.YtapoechkbbklfaaCln
import Derived.Deep.MidRow
import Derived.Laws.Rows
import Derived.Deep.RegionWith
import Derived.Deep.RegionHeld3
import Derived.Maps.AppendAt
import Derived.Great.BuildSlice
namespace Go.Proofs.Ytapoechkbbklfaa
open Go.RowKit
/-! Structs as whole blocks, and as cells behind an address. -/
theorem blk_at {w : World} {b : Nat} {c : Array Value} {t : TypeId} {f : Nat × Nat} (h : w.heap[b]? = some (.cells c t f)) (j : Nat) (v : Value) (hv : c[j]? = some v) : w.cell? ⟨b, j, none⟩ = some v := by
  simp [World.cell?, h, hv]
theorem blk_free {w : World} {b : Nat} {c : Array Value} {t : TypeId} (h : w.heap[b]? = some (.cells c t (0, 0))) (j : Nat) : w.frozen? ⟨b, j, none⟩ = false := by
  simp [World.frozen?, h]
theorem blk_lt {w : World} {b : Nat} {o : Obj} (h : w.heap[b]? = some o) : b < w.heap.size := (Array.getElem?_eq_some_iff.1 h).1
theorem blk_set {w : World} {b : Nat} {c : Array Value} {t : TypeId} {f : Nat × Nat} (h : w.heap[b]? = some (.cells c t f)) (j : Nat) (v : Value) : (w.setCell ⟨b, j, none⟩ v).heap[b]? = some (.cells (c.setIfInBounds j v) t f) := by
  simp [World.setCell, Array.getElem?_modify, h]
theorem blk_other {w : World} {b k : Nat} {o : Obj} (h : w.heap[b]? = some o) (j : Nat) (v : Value) (hne : b ≠ k) : (w.setCell ⟨k, j, none⟩ v).heap[b]? = some o := by
  rw [Below.heap_setCell _ _ _ _ hne, h]
theorem blk_alloc {w : World} {b : Nat} {o : Obj} (h : w.heap[b]? = some o) (p : Obj) : (w.alloc p).heap[b]? = some o := by
  rw [Below.heap_alloc _ _ _ (blk_lt h), h]
theorem blk_below {w w' : World} {b B : Nat} {o : Obj} (h : w.heap[b]? = some o) (hb : Below B w w') (hlt : b < B) : w'.heap[b]? = some o := (hb.block b hlt).trans h
theorem blk_grown {w w' : World} {b : Nat} {o : Obj} {row : Option Nat} (h : w.heap[b]? = some o) (hg : w.grownBy w' row) (hne : some b ≠ row) : w'.heap[b]? = some o := (hg.block b (blk_lt h) hne).trans h
theorem Rd.drew {w : World} {ok : Nat → Prop} {s : Sh} {x : s.Ty} {cs : List Value} (h : Rd w ok s x cs) : Rd w.drew ok s x cs := h.of (w := w) (w' := w.drew) (fun _ _ _ h => h) (fun _ h _ => h)
theorem Rows.drew {w : World} {ok : Nat → Prop} {s : Sh} {A : Option Addr} {n : Nat} {l : List s.Ty} (h : Rows w ok s A n l) : Rows w.drew ok s A n l := h.of (w := w) (w' := w.drew) (fun _ _ _ h => h) (fun _ h _ => h)
theorem rd_slice {w : World} {ok : Nat → Prop} {e : Sh} {l : List e.Ty} {v : Value} (h : Rd w ok (.sl e) l [v]) : ∃ A c, v = .slice A l.length c := by
  obtain ⟨A, n, c, h1, h2, h3, h4, h5, h6⟩ := h
  simp at h1
  exact ⟨A, c, by rw [h1, ← h5]⟩
theorem At.add {w : World} {ad : Addr} {o : Nat} {cs : List Value} (h : At w ad o cs) : At w (ad.add o) 0 cs := fun j v hv => by
  rw [Nat.zero_add, add_add]
  exact h j v hv
theorem At.below {w w' : World} {ad : Addr} {o : Nat} {cs : List Value} (h : At w ad o cs) (hb : Below w.heap.size w w') : At w' ad o cs := fun j v hv => cell_below hb (h j v hv)
theorem At.blk {w : World} {b : Nat} {c : Array Value} {t : TypeId} {f : Nat × Nat} (h : w.heap[b]? = some (.cells c t f)) : At w ⟨b, 0, none⟩ 0 c.toList := fun j v hv => by
  rw [Nat.zero_add, add_plain, cell_of_row w b j c t f h, ← hv, Array.getElem?_toList]
/-- 's[lo:]' of what is read: the model's address of it. -/
theorem Rows.from_ {w : World} {ok : Nat → Prop} {s : Sh} {A : Option Addr} {n c : Nat} {l : List s.Ty} (h : Rows w ok s A n l) (hnc : n ≤ c) (lo : Nat) (hlo : lo ≤ n) :
    Rows w ok s (if c = lo then A else A.map (fun x : Addr => x.add (lo * s.size))) (n - lo) (l.drop lo) := by
  have hl := h.1
  refine ⟨by rw [List.length_drop, hl], ?_, ?_⟩
  · intro e
    have : A = none := by
      by_cases hc : c = lo
      · rwa [if_pos hc] at e
      · rw [if_neg hc] at e
        cases A with
        | none => rfl
        | some a => cases e
    have := h.2.1 this
    omega
  · intro ad e i x hx
    rw [List.getElem?_drop] at hx
    by_cases hc : c = lo
    · have := (List.getElem?_eq_some_iff.1 hx).1
      omega
    · rw [if_neg hc] at e
      cases A with
      | none => cases e
      | some a =>
        injection e with e
        subst e
        obtain ⟨cs, h1, h2, h3⟩ := h.2.2 a rfl (lo + i) x hx
        refine ⟨cs, fun hn => by rw [add_block]; exact h1 hn, fun j v hv => ?_, h3⟩
        rw [add_add]
        have := h2 j v hv
        rwa [show (lo + i) * s.size + j = lo * s.size + (i * s.size + j) by rw [Nat.add_mul]; omega] at this
section
variable {P : Program} {ops : Array Oper} {rest : List Oper} {o : Oper} {a : Act} {Q : Exit → Act → World → Prop}
/-- A struct is loaded from where it lies. -/
theorem wpL_load {W : World} (hgd : o.guard = none) (ty : TypeId) (x : Operand) (ho : o.op = .load ty x) (ad : Addr) (hx : a.eval x = .pointer (some ad)) (cs : List Value) (d : TypeDesc) (hc : At W ad 0 cs)
    (hu : P.underlying ty = some d) (hd : d.isRow = true) (hi : (P.info? ty).map (·.size) = some cs.length)
    (h : wpList P ops Q rest (a.put o.dst (.agg cs.toArray)) W) : wpList P ops Q (o :: rest) a W := by
  have hl : (loadCells ad cs.length).run P W = .ok cs.toArray W := run_loadCells_list (P := P) W ad cs (fun j v hv => by have := hc j v hv; rwa [Nat.zero_add] at this)
  refine wpList_plain hgd fun K hK => ?_
  cases hq : P.info? ty with
  | none => simp [hq] at hi
  | some i =>
    have hs : i.size = cs.length := by simpa [hq] using hi
    have hagg : (isAgg ty).run P W = .ok true W := by
      unfold isAgg
      rw [Sem.run_bind, run_underlying hu W]
      cases d <;> simp_all
    have hr : (loadVar ty ad).run P W = .ok (.agg cs.toArray) W := by simp [loadVar, Sem.run_bind, hagg, sizeOf, typeInfo, hq, hs, hl]
    unfold Oper.wp execOp
    simp only [ho, hx, Instr.loadAt, Instr.sureAddr, Sem.run_bind, Sem.run_pure, Result.andThen_ok, hr]
    exact hK _ _ h
theorem setCells_blk (b : Nat) (t : TypeId) : ∀ (vs : List Value) (k : Nat) (w : World) (c : Array Value), w.heap[b]? = some (.cells c t (0, 0)) → k + vs.length = c.size →
    (w.setCells b k vs).heap[b]? = some (.cells (c.toList.take k ++ vs).toArray t (0, 0)) ∧ (∀ i, i ≠ b → (w.setCells b k vs).heap[i]? = w.heap[i]?) ∧ (w.setCells b k vs).heap.size = w.heap.size ∧ (w.setCells b k vs).os = w.os ∧ (w.setCells b k vs).tape = w.tape ∧ (w.setCells b k vs).output = w.output
  | [], k, w, c, hg, hk => by
    refine ⟨?_, fun _ _ => rfl, rfl, rfl, rfl, rfl⟩
    show w.heap[b]? = _
    rw [hg, List.append_nil, List.take_of_length_le (by simp at hk ⊢; omega), Array.toArray_toList]
  | v :: vs, k, w, c, hg, hk => by
    simp only [List.length_cons] at hk
    have h1 := blk_set hg k v
    obtain ⟨i1, i2, i3, i4, i5, i6⟩ := setCells_blk b t vs (k + 1) (w.setCell ⟨b, k, none⟩ v) _ h1 (by simp; omega)
    refine ⟨?_, fun i hi => (i2 i hi).trans (Below.heap_setCell _ _ _ _ hi), i3.trans (by simp [World.setCell]), i4, i5, i6⟩
    rw [World.setCells, i1]
    congr 2
    rw [Array.toList_setIfInBounds, List.take_add_one, List.take_set_of_le (Nat.le_refl _), List.getElem?_set_self (by simp; omega)]
    simp
/-- A struct is stored into a block that is known whole. -/
theorem wpL_store {W : World} (hgd : o.guard = none) (ty : TypeId) (x y : Operand) (ho : o.op = .store ty x y) (b : Nat) (hx : a.eval x = .pointer (some ⟨b, 0, none⟩)) (c c0 : Array Value) (t : TypeId) (hy : a.eval y = .agg c)
    (hg : W.heap[b]? = some (.cells c0 t (0, 0))) (hs : c.size = c0.size) (hi : (P.info? ty).map (·.size) = some c.size) (h1 : ∀ v ∈ c.toList, v.oneCell' = true)
    (h : ∀ w1, w1.heap[b]? = some (.cells c t (0, 0)) → W.grownBy w1 (some b) → wpList P ops Q rest (a.put o.dst undef) w1) : wpList P ops Q (o :: rest) a W := by
  obtain ⟨i1, i2, i3, i4, i5, i6⟩ := setCells_blk b t c.toList 0 W c0 hg (by simpa using hs)
  refine wpList_store_mid hgd ty x y ho b 0 c hx hy (fun j hj => ?_) hi (Array.all_eq_true_iff_forall_mem.2 (fun v hv => h1 v (by simpa using hv))) (h _ ?_ ⟨i4, i5, i6, by rw [i3]; exact Nat.le_refl _, fun k _ hk => i2 k (fun e => hk (by rw [e]))⟩)
  · rw [Nat.zero_add]
    refine ⟨?_, blk_free hg j⟩
    rw [cell_of_row W b j c0 t (0, 0) hg, Array.getElem?_eq_getElem (by omega)]; rfl
  · rw [i1]; simp
end
theorem OwnG.lt {w : World} {ok : Nat → Prop} {base : Nat} {e : TypeId} {s : Sh} {v : Value} {l : List s.Ty} (h : OwnG w base ok e s v l) (k : Nat) (hk : v.ownBlock = some k) : k < w.heap.size := by
  obtain ⟨xs, ho, _⟩ := h
  exact own_lt ho k hk
theorem Own.base {w : World} {base B : Nat} {e : TypeId} {s : Sh} {v : Value} {l : List s.Ty} (h : Own w base e s v l) (hB : B ≤ base) : Own w B e s v l := by
  obtain ⟨xs, ⟨h1, h2 | ⟨g, cap, cur, hv, hg, hh, h3⟩⟩, hr⟩ := h
  · exact ⟨xs, ⟨h1, .inl h2⟩, hr.of (fun _ _ _ h => h) (fun k hk _ => ⟨Nat.le_trans hB hk.1, hk.2⟩)⟩
  · exact ⟨xs, ⟨h1, .inr ⟨g, cap, cur, hv, Nat.le_trans hB hg, hh, h3⟩⟩, hr.of (fun _ _ _ h => h) (fun k hk _ => ⟨Nat.le_trans hB hk.1, hk.2⟩)⟩
/-- What lies below the base is in no block of one's own. -/
theorem OwnG.old {w w0 w' : World} {ok : Nat → Prop} {base : Nat} {e : TypeId} {s S : Sh} {v : Value} {l : List s.Ty} {x : S.Ty} {cs : List Value} (h : OwnG w0 base ok e s v l) (hr : Rd w ok S x cs) (hb : w.heap.size ≤ base) (hw : Below w.heap.size w w') :
    Rd w' (fun k => ok k ∧ v.ownBlock ≠ some k) S x cs :=
  hr.of (fun _ _ _ hc => cell_below hw hc) (fun k hk hlt => ⟨hk, fun e => by obtain ⟨xs, ho, _⟩ := h; have := own_base ho k e; omega⟩)
theorem OwnG.oldL {w w0 w' : World} {ok : Nat → Prop} {base : Nat} {e : TypeId} {s S : Sh} {v : Value} {l : List s.Ty} {x : List S.Ty} {cs : List Value} (h : OwnG w0 base ok e s v l) (hr : RdL w ok S x cs) (hb : w.heap.size ≤ base) (hw : Below w.heap.size w w') :
    RdL w' (fun k => ok k ∧ v.ownBlock ≠ some k) S x cs :=
  hr.of (fun _ _ _ hc => cell_below hw hc) (fun k hk hlt => ⟨hk, fun e => by obtain ⟨xs, ho, _⟩ := h; have := own_base ho k e; omega⟩)
/-- What a later call made is one's own, and not in v's block. -/
theorem Own.apart {w w0 w' : World} {base B : Nat} {e : TypeId} {s S : Sh} {v : Value} {l : List s.Ty} {x : S.Ty} {cs : List Value} (h : Own w0 base e s v l) (hB : w0.heap.size ≤ B) (hb : base ≤ B) (hr : Rd w (fun k => B ≤ k) S x cs) (hw : Below w.heap.size w w') :
    Rd w' (fun k => base ≤ k ∧ v.ownBlock ≠ some k) S x cs :=
  hr.of (fun _ _ _ hc => cell_below hw hc) (fun k hk _ => ⟨Nat.le_trans hb hk, fun e => by have := OwnG.lt h k e; have h2 : B ≤ k := hk; omega⟩)
/-! ### In a region that draws its order: what is held by S is taken first -/
theorem take_in {P : Program} {L : List Oper} {Q : Exit → Act → World → Prop} {md : Region.Mode} {S : World → Prop} {i : Nat} {oi : Oper} {v : Value} {fuel : Nat} {listed : Array Bool} {a : Act} {w : World} (hi : L[i]? = some oi)
    (hs : Region.noSelect L.toArray = true) (hf : Region.free md L.toArray listed i = true) (hr : (Region.ready md L.toArray listed).contains i = true)
    (hQ : ∀ c a w, Q (.panic c) (a.put oi.dst v) w → Q (.panic c) a w) (hy : YieldsIf P L.toArray S oi v a) (hS : S w)
    (h : wpAnyH P md L.toArray Q S fuel (listed.setIfInBounds i true) (a.put oi.dst v) w) : wpAnyH P md L.toArray Q S (fuel + 1) listed a w :=
  wpAnyH_take (by rw [List.getElem?_toArray]; exact hi) hs hf hr hQ hy hS h
/-- One operation alone may come up: it is run, and S is shown anew. -/
theorem one_in {P : Program} {L : List Oper} {Q : Exit → Act → World → Prop} {md : Region.Mode} {S : World → Prop} {i : Nat} {o : Oper} {fuel : Nat} {listed : Array Bool} {a : Act} {w : World} (hi : L[i]? = some o)
    (hr : Region.ready md L.toArray listed = [i])
    (h : ∀ K' : Act → World → Prop, Shut (∀ a w, S w → (S w → wpAnyH P md L.toArray Q S fuel (listed.setIfInBounds i true) a w) → K' a w) → if Region.wanted o (yielded L.toArray a.tmps) = true then Oper.wp P o a w K' Q else K' (a.put o.dst undef) w) :
    wpAnyH P md L.toArray Q S (fuel + 1) listed a w :=
  wpAnyH_ready hr (by simp) (AllReadyH.cons (by rw [List.getElem?_toArray]; exact hi) h AllReadyH.nil)
section
variable {P : Program} {o : Oper} {a : Act} {K : Act → World → Prop} {Q : Exit → Act → World → Prop}
theorem run_loadS {W : World} {ad : Addr} {cs : List Value} {ty : TypeId} {d : TypeDesc} (hc : At W ad 0 cs) (hu : P.underlying ty = some d) (hd : d.isRow = true) (hi : (P.info? ty).map (·.size) = some cs.length) :
    (loadVar ty ad).run P W = .ok (.agg cs.toArray) W := by
  have hl : (loadCells ad cs.length).run P W = .ok cs.toArray W := run_loadCells_list (P := P) W ad cs (fun j v hv => by have := hc j v hv; rwa [Nat.zero_add] at this)
  cases hq : P.info? ty with
  | none => simp [hq] at hi
  | some i =>
    have hs : i.size = cs.length := by simpa [hq] using hi
    have hagg : (isAgg ty).run P W = .ok true W := by
      unfold isAgg
      rw [Sem.run_bind, run_underlying hu W]
      cases d <;> simp_all
    simp [loadVar, Sem.run_bind, hagg, sizeOf, typeInfo, hq, hs, hl]
theorem yields_load {ops : Array Oper} {S : World → Prop} (hw : Region.wanted o (yielded ops a.tmps) = true) (ty : TypeId) (x : Operand) (ho : o.op = .load ty x)
    (ad : Addr) (hx : a.eval x = .pointer (some ad)) (cs : List Value) (d : TypeDesc) (hS : ∀ w, S w → At w ad 0 cs)
    (hu : P.underlying ty = some d) (hd : d.isRow = true) (hi : (P.info? ty).map (·.size) = some cs.length) : YieldsIf P ops S o (.agg cs.toArray) a :=
  .inl ⟨hw, fun w hw' => by
    unfold execOp
    simp only [ho, hx, Instr.loadAt, Instr.sureAddr, Sem.run_bind, Sem.run_pure, Result.andThen_ok, run_loadS (hS w hw') hu hd hi]⟩
theorem wpo_appO {w0 W : World} {ok : Nat → Prop} {base m c bytes : Nat} {e t : TypeId} {S : Sh} {z v : Value} {l r : List S.Ty} {ys : List Value} {A : Option Addr} (s x : Operand)
    (ho : o.op = .call { callee := .builtin .append, args := #[s, x], argTypes := #[t, t] })
    (HO : OwnG W base ok e S v l) (hm : m = r.length) (hA : A = none → m = 0) (HR : ∀ ad, A = some ad → At W ad 0 ys) (HL : RdL W (fun k => ok k ∧ v.ownBlock ≠ some k) S r ys) (HB : Below base w0 W) (ht : P.underlying t = some (.slice e)) (hinfo : (P.info? e).map (fun i => (i.zero, i.size, i.bytes)) = some (some z, S.size, bytes)) (hzs : z.cells.size = S.size) (hsz : 0 < S.size)
    (hs : a.eval s = v) (hx : a.eval x = .slice A m c)
    (hl : (l.length + m) * bytes ≤ 140737488355328) (h63 : l.length + m ≤ 9223372036854775807) (hbase : base ≤ W.heap.size)
    (h : ∀ v1 w1, OwnG w1 base ok e S v1 (l ++ r) → Below base w0 w1 → W.grownBy w1 v.ownBlock → (v1.ownBlock = v.ownBlock ∨ v1.ownBlock = some W.heap.size) → K (a.put o.dst v1) w1) :
    Oper.wp P o a W K Q := by
  obtain ⟨xs, ho', hr⟩ := HO
  have hlen := HL.len
  obtain ⟨i0, hi, hzz⟩ := Option.map_eq_some_iff.1 hinfo
  simp only [Prod.mk.injEq] at hzz
  obtain ⟨hz0, hz1, hz2⟩ := hzz
  have hrun : ∃ v1 w1, (Builtin.append_ #[t, t] o.type #[v, .slice A m c]).run P W = .ok v1 w1 ∧ w1.ownsRow base e S.size v1 (l.length + m) (xs ++ ys) ∧ W.grownBy w1 v.ownBlock ∧ (v1.ownBlock = v.ownBlock ∨ v1.ownBlock = some W.heap.size) := by
    cases A with
    | none =>
      obtain rfl : m = 0 := hA rfl
      obtain rfl : ys = [] := List.eq_nil_of_length_eq_zero (by rw [hlen, ← hm, Nat.zero_mul])
      refine ⟨v, W, ?_, by simpa using ho', ⟨rfl, rfl, rfl, Nat.le_refl _, fun _ _ _ => rfl⟩, .inl rfl⟩
      rcases ho'.2 with ⟨rfl, hn⟩ | ⟨g, cap, cur, rfl, _, _, hnc, _⟩
      · simp [Builtin.append_, run_underlying ht, sizeOf, typeInfo, hi, Builtin.lenOf, Builtin.firstCells]
      · simp [Builtin.append_, run_underlying ht, sizeOf, typeInfo, hi, Builtin.lenOf, Builtin.firstCells, hnc, storeCells]
    | some ad =>
      obtain ⟨v1, w1, hr, h2, h3, _, h5⟩ := run_append_own_at (P := P) W base t o.type e i0 z S.size bytes ht hi hz0 hz1 hz2 hzs hsz v l.length xs ho' ad m c ys (by rw [hm]; exact hlen) (fun j u hu => by have := HR ad rfl j u hu; rwa [Nat.zero_add] at this) HL.one (by simp only [maxLen]; exact h63) hl hbase
      exact ⟨v1, w1, hr, h2, h3, h5⟩
  obtain ⟨v1, w1, hrr, h1, h3, h4⟩ := hrun
  unfold Oper.wp execOp
  simp only [ho, resolve, invoke, builtin, Sem.run_bind, Sem.run_pure, Result.andThen_ok, List.map_toArray, List.map_cons, List.map_nil, hs, hx, hrr]
  have hc : ∀ (b : Addr) (u : Value), (ok b.block ∧ v.ownBlock ≠ some b.block) → W.cell? b = some u → w1.cell? b = some u := fun b u hk hu => cell_grown h3 hu (fun e => hk.2 e.symm)
  have hk : ∀ k, (ok k ∧ v.ownBlock ≠ some k) → k < W.heap.size → (ok k ∧ v1.ownBlock ≠ some k) := by
    intro k hk hlt
    refine ⟨hk.1, ?_⟩
    rcases h4 with h4 | h4
    · rw [h4]; exact hk.2
    · rw [h4]; intro e; injection e with e; omega
  exact h v1 w1 ⟨xs ++ ys, by rw [List.length_append, ← hm]; exact h1, (hr.of hc hk).append (HL.of hc hk)⟩ (HB.grown h3 hbase (fun k hk => own_base ho' k hk)) h3 h4
theorem fold_all : ∀ (cs : List Value) (k : Nat) (z : Array Value), k + cs.length = z.size → (cs.zipIdx k).foldl (fun acc x => acc.setIfInBounds (0 + x.2) x.1) z = (z.toList.take k ++ cs).toArray
  | [], k, z, h => by
    rw [List.append_nil, List.take_of_length_le (by simp at h ⊢; omega), Array.toArray_toList]; rfl
  | v :: vs, k, z, h => by
    simp only [List.length_cons] at h
    rw [List.zipIdx_cons, List.foldl_cons, fold_all vs (k + 1) _ (by simp; omega)]
    congr 1
    rw [Nat.zero_add, Array.toList_setIfInBounds, List.take_add_one, List.take_set_of_le (Nat.le_refl _), List.getElem?_set_self (by simp; omega)]
    simp
theorem run_lit1 (w : World) {t e : TypeId} {cs : List Value} {z : Value} {sz bytes : Nat} (hu : P.underlying t = some (.slice e)) (hinfo : (P.info? e).map (fun i => (i.zero, i.size, i.bytes)) = some (some z, sz, bytes)) (hzs : z.cells.size = sz) (hsz : 0 < sz) (hsm : sz ≤ 16777216) (hs : cs.length = sz) :
    (Instr.buildSlice t 1 #[(0, .agg cs.toArray)]).run P w = .ok (.slice (some ⟨w.heap.size, 0, none⟩) 1 1) (w.alloc (.cells cs.toArray e)) := by
  obtain ⟨ie, hi, hzz⟩ := Option.map_eq_some_iff.1 hinfo
  simp only [Prod.mk.injEq] at hzz
  obtain ⟨hz0, hz1, hz2⟩ := hzz
  subst hz1
  refine run_buildSlice w t e 1 _ _ ie z hu hi hz0 (by omega) (by omega) ?_
  have hZ : ((Array.range (1 * ie.size)).map (z.cells[· % z.cells.size]!)).size = ie.size := by simp
  generalize (Array.range (1 * ie.size)).map (z.cells[· % z.cells.size]!) = Z at hZ
  have h1 : (Value.agg cs.toArray).cells = cs.toArray := rfl
  have := fold_all cs 0 Z (by omega)
  rw [List.take_zero, List.nil_append] at this
  simp only [Instr.fill, h1]
  rw [if_neg (by simp [hs, hZ])]
  congr 1
  refine Eq.trans ?_ this
  simp
theorem wpo_lit1 {W : World} {t e : TypeId} {cs : List Value} {z : Value} {sz bytes : Nat} (x : Operand) (ho : o.op = .buildSlice t 1 #[(0, x)]) (hx : a.eval x = .agg cs.toArray) (hu : P.underlying t = some (.slice e)) (hinfo : (P.info? e).map (fun i => (i.zero, i.size, i.bytes)) = some (some z, sz, bytes)) (hzs : z.cells.size = sz) (hsz : 0 < sz) (hsm : sz ≤ 16777216) (hs : cs.length = sz)
    (h : K (a.put o.dst (.slice (some ⟨W.heap.size, 0, none⟩) 1 1)) (W.alloc (.cells cs.toArray e))) : Oper.wp P o a W K Q := by
  unfold Oper.wp execOp
  have hr := run_lit1 (P := P) W hu hinfo hzs hsz hsm hs
  simp only [ho, Sem.run_bind, List.map_toArray, List.map_cons, List.map_nil, hx, hr, Result.andThen_ok]
  exact h
theorem wpL_lit1 {ops : Array Oper} {rest : List Oper} {W : World} {t e : TypeId} {cs : List Value} {z : Value} {sz bytes : Nat} {Q : Exit → Act → World → Prop} (hgd : o.guard = none) (x : Operand) (ho : o.op = .buildSlice t 1 #[(0, x)]) (hx : a.eval x = .agg cs.toArray) (hu : P.underlying t = some (.slice e)) (hinfo : (P.info? e).map (fun i => (i.zero, i.size, i.bytes)) = some (some z, sz, bytes)) (hzs : z.cells.size = sz) (hsz : 0 < sz) (hsm : sz ≤ 16777216) (hs : cs.length = sz)
    (h : wpList P ops Q rest (a.put o.dst (.slice (some ⟨W.heap.size, 0, none⟩) 1 1)) (W.alloc (.cells cs.toArray e))) : wpList P ops Q (o :: rest) a W :=
  wpList_plain hgd fun _ hK => wpo_lit1 x ho hx hu hinfo hzs hsz hsm hs (hK _ _ h)
theorem run_slice_from (w : World) {t e : TypeId} {A : Option Addr} {n c lo size : Nat} {k : IntKind} (hu : P.underlying t = some (.slice e)) (hs : (P.info? e).map (·.size) = some size) (h : lo ≤ n) :
    (Instr.slice t (.slice A n c) (some (.int k lo)) none none).run P w = .ok (.slice (if c = lo then A else A.map (fun x : Addr => x.add (lo * size))) (n - lo) (c - lo)) w := by
  obtain ⟨ie, hi, hzz⟩ := Option.map_eq_some_iff.1 hs
  subst hzz
  simp [Instr.slice, run_underlying hu, Instr.sliceBounds, Instr.sliceBound, asIntOf, sizeOf, typeInfo, hi, h]
theorem yields_slice {ops : Array Oper} {S : World → Prop} (hw : Region.wanted o (yielded ops a.tmps) = true) {t e : TypeId} {A : Option Addr} {n c size : Nat} {k : IntKind} (lo : Nat) (x : Operand) (ho : o.op = .slice t x (some (.const (.int k lo))) none none)
    (hx : a.eval x = .slice A n c) (hu : P.underlying t = some (.slice e)) (hs : (P.info? e).map (·.size) = some size) (h : lo ≤ n) : YieldsIf P ops S o (.slice (if c = lo then A else A.map (fun x : Addr => x.add (lo * size))) (n - lo) (c - lo)) a :=
  .inl ⟨hw, fun w _ => by
    unfold execOp
    have hr := run_slice_from (P := P) w (A := A) (c := c) (k := k) hu hs h
    have hc : a.eval (.const (.int k lo)) = .int k lo := rfl
    simp only [ho, hx, hc, Option.map_some, Option.map_none, Instr.sliceAt, run_underlying hu, hr, Sem.run_bind, Sem.run_pure, Result.andThen_ok]⟩
end
end Go.Proofs.Ytapoechkbbklfaa
