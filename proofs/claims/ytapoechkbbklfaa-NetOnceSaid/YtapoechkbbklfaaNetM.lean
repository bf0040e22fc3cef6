import Derived.Test.YtapoechkbbklfaaNetL
import Derived.Test.YtapoechkbbklfaaNetG
import Derived.RangeFuncBox
namespace Go.Proofs.Ytapoechkbbklfaa
open Go.RowKit Go.Shelf
set_option linter.unusedVariables false
set_option linter.unusedSimpArgs false
attribute [local go_sem] Oper.semAt_some
section
variable {P : Program} {o : Oper} {a : Act} {Q : Exit → Act → World → Prop} {K : Act → World → Prop} {F : Fence} {nn : Nat}
set_option maxRecDepth 100000 in
theorem run_appO {ok : Nat → Prop} {base m c bytes : Nat} {e t ty : TypeId} {S : Sh} {z v : Value} {l r : List S.Ty} {ys : List Value} {ad : Addr} {W : World}
    (HO : OwnG W base ok e S v l) (hm : m = r.length) (HR : At W ad 0 ys) (HL : RdL W (fun k => ok k ∧ v.ownBlock ≠ some k) S r ys) (ht : P.underlying t = some (.slice e)) (hinfo : (P.info? e).map (fun i => (i.zero, i.size, i.bytes)) = some (some z, S.size, bytes)) (hzs : z.cells.size = S.size) (hsz : 0 < S.size)
    (hl : (l.length + m) * bytes ≤ 140737488355328) (h63 : l.length + m ≤ 9223372036854775807) (hbase : base ≤ W.heap.size) :
    ∃ v1 w1, (Builtin.append_ #[t, t] ty #[v, .slice (some ad) m c]).run P W = .ok v1 w1 ∧ OwnG w1 base ok e S v1 (l ++ r) ∧ W.grownBy w1 v.ownBlock ∧ (v1.ownBlock = v.ownBlock ∨ v1.ownBlock = some W.heap.size) := by
  obtain ⟨xs, ho', hr⟩ := HO
  have hlen := HL.len
  obtain ⟨i0, hi, hzz⟩ := Option.map_eq_some_iff.1 hinfo
  simp only [Prod.mk.injEq] at hzz
  obtain ⟨hz0, hz1, hz2⟩ := hzz
  obtain ⟨v1, w1, hrr, h1, h3, _, h4⟩ := run_append_own_at (P := P) W base t ty e i0 z S.size bytes ht hi hz0 hz1 hz2 hzs hsz v l.length xs ho' ad m c ys (by rw [hm]; exact hlen) (fun j u hu => by have := HR j u hu; rwa [Nat.zero_add] at this) HL.one (by simp only [maxLen]; exact h63) hl hbase
  have hc : ∀ (b : Addr) (u : Value), (ok b.block ∧ v.ownBlock ≠ some b.block) → W.cell? b = some u → w1.cell? b = some u := fun b u hk hu => cell_grown h3 hu (fun e => hk.2 e.symm)
  have hk : ∀ k, (ok k ∧ v.ownBlock ≠ some k) → k < W.heap.size → (ok k ∧ v1.ownBlock ≠ some k) := by
    intro k hk hlt
    refine ⟨hk.1, ?_⟩
    rcases h4 with h4 | h4
    · rw [h4]; exact hk.2
    · rw [h4]; intro e; injection e with e; omega
  exact ⟨v1, w1, hrr, ⟨xs ++ ys, by rw [List.length_append, ← hm]; exact h1, (hr.of hc hk).append (HL.of hc hk)⟩, h3, h4⟩
set_option maxRecDepth 100000 in
theorem wpIn_appO {ops : Array Oper} {rest : List Oper} {ok : Nat → Prop} {base m c bytes : Nat} {e t : TypeId} {S : Sh} {z v : Value} {l r : List S.Ty} {ys : List Value} {ad : Addr} {W : World} (hgd : o.guard = none) (s x : Operand)
    (ho : o.op = .call { callee := .builtin .append, args := #[s, x], argTypes := #[t, t] }) (hs : a.eval s = v) (hx : a.eval x = .slice (some ad) m c)
    (HO : OwnG W base ok e S v l) (hm : m = r.length) (HR : At W ad 0 ys) (HL : RdL W (fun k => ok k ∧ v.ownBlock ≠ some k) S r ys) (ht : P.underlying t = some (.slice e)) (hinfo : (P.info? e).map (fun i => (i.zero, i.size, i.bytes)) = some (some z, S.size, bytes)) (hzs : z.cells.size = S.size) (hsz : 0 < S.size)
    (hl : (l.length + m) * bytes ≤ 140737488355328) (h63 : l.length + m ≤ 9223372036854775807) (hbase : base ≤ W.heap.size)
    (h : ∀ v1 w1, OwnG w1 base ok e S v1 (l ++ r) → W.grownBy w1 v.ownBlock → (v1.ownBlock = v.ownBlock ∨ v1.ownBlock = some W.heap.size) → wpListIn F nn P ops Q rest (a.put o.dst v1) w1) : wpListIn F nn P ops Q (o :: rest) a W := by
  refine wpListIn_plain hgd fun K hK => ?_
  obtain ⟨v1, w1, hr, h1, h2, h3⟩ := run_appO (P := P) (ty := o.type) (c := c) HO hm HR HL ht hinfo hzs hsz hl h63 hbase
  unfold Oper.wpIn
  refine ⟨?_, ?_⟩
  · simp [Oper.about, ho, resolve, Target.leads, Sem.run_pure]
  · rw [Oper.semAt_plain F _ _ (by rw [ho]; intro c hc'; cases hc')]
    simp only [execOp, ho, resolve, invoke, builtin, Sem.run_bind, Sem.run_pure, Result.andThen_ok, List.map_toArray, List.map_cons, List.map_nil, hs, hx, hr]
    exact hK _ _ (h v1 w1 h1 h2 h3)
set_option maxRecDepth 100000 in
theorem wpIn_lit1 {ops : Array Oper} {rest : List Oper} {W : World} {t e : TypeId} {cs : List Value} {z : Value} {sz bytes : Nat} (hgd : o.guard = none) (x : Operand) (ho : o.op = .buildSlice t 1 #[(0, x)]) (hx : a.eval x = .agg cs.toArray) (hu : P.underlying t = some (.slice e)) (hinfo : (P.info? e).map (fun i => (i.zero, i.size, i.bytes)) = some (some z, sz, bytes)) (hzs : z.cells.size = sz) (hsz : 0 < sz) (hsm : sz ≤ 16777216) (hs : cs.length = sz)
    (h : wpListIn F nn P ops Q rest (a.put o.dst (.slice (some ⟨W.heap.size, 0, none⟩) 1 1)) (W.alloc (.cells cs.toArray e))) : wpListIn F nn P ops Q (o :: rest) a W := by
  refine wpListIn_plain hgd fun K hK => ?_
  have hr := run_lit1 (P := P) W hu hinfo hzs hsz hsm hs
  unfold Oper.wpIn
  refine ⟨?_, ?_⟩
  · simp [Oper.about, ho]
  · rw [Oper.semAt_plain F _ _ (by rw [ho]; intro c hc'; cases hc')]
    simp only [execOp, ho, Sem.run_bind, List.map_toArray, List.map_cons, List.map_nil, hx, hr, Sem.run_pure, Result.andThen_ok]
    exact hK _ _ h
end
/-- What lies in cells abides the turn of a block that is none. -/
def NoCells (X : World) (row : Option Nat) : Prop := ∀ r, row = some r → ∃ o : Obj, X.heap[r]? = some o ∧ o.isCells = false
section
variable {X Y : World} {row : Option Nat}
set_option maxRecDepth 100000 in
theorem cells_kept (hg : X.grownBy Y row) (hr : NoCells X row) {g : Nat} {c : Array Value} {e : TypeId} {f : Nat × Nat} (h : X.heap[g]? = some (.cells c e f)) : Y.heap[g]? = some (.cells c e f) :=
  (hg.block g (blk_lt h) (fun e => by obtain ⟨o, ho, hc⟩ := hr g e.symm; rw [h] at ho; cases ho; cases hc)).trans h
set_option maxRecDepth 100000 in
theorem cellK (hg : X.grownBy Y row) (hr : NoCells X row) {a : Addr} {v : Value} (h : X.cell? a = some v) : Y.cell? a = some v := by
  refine cell_grown hg h (fun e => ?_)
  obtain ⟨o, ho, hc⟩ := hr a.block e.symm
  unfold World.cell? at h
  rw [ho] at h
  cases o <;> simp_all [Obj.isCells]
set_option maxRecDepth 100000 in
theorem Rd.kept {ok : Nat → Prop} {s : Sh} {x : s.Ty} {cs : List Value} (h : Rd X ok s x cs) (hg : X.grownBy Y row) (hr : NoCells X row) : Rd Y ok s x cs := h.of (fun a v _ hc => cellK hg hr hc) (fun _ h _ => h)
set_option maxRecDepth 100000 in
theorem OwnG.kept {base : Nat} {ok : Nat → Prop} {e : TypeId} {s : Sh} {v : Value} {l : List s.Ty} (h : OwnG X base ok e s v l) (hg : X.grownBy Y row) (hr : NoCells X row) : OwnG Y base ok e s v l := by
  obtain ⟨xs, ⟨h1, h2⟩, h3⟩ := h
  refine ⟨xs, ⟨h1, ?_⟩, h3.of (fun a v _ hc => cellK hg hr hc) (fun _ h _ => h)⟩
  rcases h2 with h2 | ⟨g, cap, cur, e, hb, hh, hrest⟩
  · exact .inl h2
  · exact .inr ⟨g, cap, cur, e, hb, cells_kept hg hr hh, hrest⟩
end
set_option maxRecDepth 100000 in
/-- What an own row of bytes holds lies in its own block alone. -/
theorem own_rd_own {w : World} {base : Nat} {e : TypeId} {s : Sh} {v : Value} {l : List s.Ty} (h : OwnG w base (fun _ => False) e s v l) : Rd w (fun k => v.ownBlock = some k) (.sl s) l [v] := by
  obtain ⟨A, c, rfl, h1, h2, h3, h4, xs, h5, h6⟩ := OwnG.rows h
  refine rd_sl.2 ⟨A, _, c, rfl, h1, h2, h3, ?_⟩
  cases A with
  | none => exact ⟨rfl, (fun e => by have := h3 e; omega), fun ad e => by cases e⟩
  | some ad =>
    obtain ⟨g, e1, e2, _⟩ := h4 ad rfl
    exact rows_of (h5.of (fun _ _ _ h => h) (fun k h _ => h.1.elim)) (fun _ => by rw [e2, e1]) (h6 ad rfl)
set_option maxRecDepth 100000 in
theorem own_ne {w : World} {base base' : Nat} {ok ok' : Nat → Prop} {e e' : TypeId} {s s' : Sh} {v v' : Value} {l : List s.Ty} {l' : List s'.Ty} (h : OwnG w base ok e s v l) (h' : OwnG w base' ok' e' s' v' l') (hne : e ≠ e') {k : Nat} (hk : v.ownBlock = some k) : v'.ownBlock ≠ some k := by
  intro hk'
  obtain ⟨xs, ⟨_, h2⟩, _⟩ := h
  obtain ⟨ys, ⟨_, h2'⟩, _⟩ := h'
  rcases h2 with ⟨rfl, _⟩ | ⟨g, cap, cur, rfl, _, hg, _⟩
  · cases hk
  · rcases h2' with ⟨rfl, _⟩ | ⟨g', cap', cur', rfl, _, hg', _⟩
    · cases hk'
    · have e1 : g = k := by have hk : some g = some k := hk; injection hk
      have e2 : g' = k := by have hk' : some g' = some k := hk'; injection hk'
      subst e1
      subst e2
      rw [hg] at hg'
      injection hg' with hg'
      injection hg' with _ h
      exact hne h
set_option maxRecDepth 100000 in
theorem vx_own (B n₁ : Nat) (l : List PKT.Ty) (pre : List XP) : OwnFrom B (VX n₁ l pre) := fun x X Y row h hg hr => ⟨h.1.kept hg (fun r e => (hr r e).2), Nat.le_trans h.2.1 hg.size, h.2.2⟩
set_option maxRecDepth 100000 in
theorem turn_put {X : World} {p : Nat → Prop} {r : Nat} {o : Obj} (hr : p r) : Turn p X (X.putObj r o) := ⟨rfl, rfl, rfl, by simp [World.putObj], fun k _ hn => World.putObj_heap_other (fun e => hn (e ▸ hr))⟩
set_option maxHeartbeats 4000000 in
set_option maxRecDepth 100000 in
theorem all_any (w : World) (b1 B : Nat) (room : Int) (sv : Value) (l : List PKT.Ty) (hN : NetR w b1 B room sv l) (hd : ∀ p ∈ l, (dataP p).length ≤ 100000) :
    Calls Try.prog 20 #[.pointer (some ⟨b1, 0, none⟩)] w fun e w' => ∃ A c, e = .returned (.slice A l.length c) ∧ Rd w' (fun k => w.heap.size ≤ k) (.sl PKT) l [.slice A l.length c] ∧ Below w.heap.size w w' := by
  have hlm := hN.2.2.2.2
  refine (callsIn_wide (n := 5)).1 (callsIn_of_wp_marks Try.func20 rfl trivial ?_ rfl)
  simp only [Try.ntmps20, List.size_toArray, List.length_cons, List.length_nil, Nat.reduceAdd, Nat.reduceSub, Array.replicate_succ, Array.replicate_zero, List.push_toArray, List.append_toArray, List.nil_append, List.cons_append]
  gi_wp2
  refine ⟨trivial, (callsIn_wide.2 (all_it _ _ (.inr ⟨b1, rfl⟩))).mono ?_⟩
  rintro e w' ⟨rfl, rfl⟩
  gi_wp2
  obtain ⟨w1, hw1⟩ : ∃ w1, (w.alloc (.cells #[.slice none 0 0] 27)).alloc (.cells #[.pointer (some ⟨b1, 0, none⟩)] 24) = w1 := ⟨_, rfl⟩
  have hz : w1.heap.size = w.heap.size + 2 := by rw [← hw1]; simp
  have hb01 : Below w.heap.size w w1 := by rw [← hw1]; exact (below_alloc1 w _).alloc (by simp) _
  have bO : Boxed w1 w.heap.size 27 (.slice none 0 0) := by rw [← hw1]; exact (Boxed.new w _ _).alloc _
  have bN : w1.cell? ⟨w.heap.size + 1, 0, none⟩ = some (.pointer (some ⟨b1, 0, none⟩)) := by
    rw [← hw1]
    have := (Boxed.new (w.alloc (.cells #[.slice none 0 0] 27)) 24 (.pointer (some ⟨b1, 0, none⟩))).cell
    rwa [World.size_alloc] at this
  rw [hw1]
  clear hw1
  refine wpIn_rangeV rfl (by decide) (gf := 41) (lb := #[.pointer (some ⟨w.heap.size + 1, 0, none⟩)]) rfl trivial (enters_of Try.func41 (by kernel_rfl) rfl)
    (encs := encX) (V := VX (w.heap.size + 6) l) (Kp := Turn (pK (w.heap.size + 6) w.heap.size (w.heap.size + 3))) (S := fun xs => xs.map XP.pk = l) (Sp := fun pre => pre.map XP.pk <+: l)
    (fun W hbW hzW => by
      have h := all1_seq 4 w W b1 B w.heap.size (w.heap.size + 1) (w.heap.size + 3) room sv l hN (hb01.trans (hbW.mono hb01.size)) hd (Nat.le_refl _) (by omega) (by omega) ((hbW.cell (p := ⟨w.heap.size + 1, 0, none⟩) (by show w.heap.size + 1 < w1.heap.size; omega)).trans bN)
      have e : W.heap.size + 2 = w.heap.size + 6 := by omega
      rw [e] at h
      exact h)
    (fun pre => vx_own _ _ _ pre) (fun h k => h.trans k (fun _ _ h => h)) (fun W o _ => turn_put (by rw [hz]; exact .inr (.inl rfl))) (fun x => rfl)
    (fun pre X => (∃ v, Boxed X w.heap.size 27 v ∧ OwnG X (w.heap.size + 6) (fun k => w.heap.size + 6 ≤ k) 37 PKT v (pre.map XP.pk)) ∧ Below w.heap.size w X)
    (fun _ _ _ => False)
    (OwnFrom.and (fun pre X Y row ⟨v, h1, h2⟩ hg hr => ⟨v, cells_kept hg (fun r e => (hr r e).2) h1, h2.kept hg (fun r e => (hr r e).2)⟩) (ownFrom_below (Nat.le_refl _) (by omega)))
    (fun _ _ _ _ _ hs _ _ => hs)
    ⟨⟨_, bO, ⟨[], own_nil _ _ _ _, rfl⟩⟩, hb01⟩
    (fun x a' X => ∃ Bx, a' = { tmps := #[.pointer (some ⟨b1, 0, none⟩), undef, .slice none 0 0, .pointer (some ⟨w.heap.size, 0, none⟩), .pointer (some ⟨Bx, 0, none⟩), .pointer (some ⟨b1, 0, none⟩), .func (.func 41) #[] #[.pointer (some ⟨w.heap.size + 1, 0, none⟩)], .agg #[Value.int .i64 x.t, Value.int .i64 x.f, Value.slice x.A x.d.length x.c], undef, undef, undef, undef, undef], defers := [] } ∧ X.heap[Bx]? = some (.cells #[Value.int .i64 x.t, Value.int .i64 x.f, Value.slice x.A x.d.length x.c] 37 (0, 0)) ∧ w.heap.size + 6 ≤ Bx)
    (fun x a' X Y row ⟨Bx, h1, h2, h3⟩ hg hr => ⟨Bx, h1, cells_kept hg (fun r e => (hr r e).2) h2, h3⟩)
    ?assign ?body ?done ?stop
  case assign =>
    rintro ll pre x X K ⟨⟨v, hv, ho⟩, hB⟩ hV hK
    dsimp only [encX]
    gi_wp2
    have hal := World.grownBy_alloc X (.cells #[Value.int .i64 x.t, Value.int .i64 x.f, Value.slice x.A x.d.length x.c] 37) none
    have hno : NoCells X none := fun r e => by cases e
    exact hK _ _ ((KeepsOthers.alloc _ _).from _) (Turn.of_below (below_alloc1 X _)) ⟨⟨v, cells_kept hal hno hv, ho.kept hal hno⟩, hB.trans ((below_alloc1 X _).mono hB.size)⟩ (vx_own 0 _ _ _ _ X _ none hV hal (fun r e => by cases e)) ⟨X.heap.size, rfl, heap_alloc_new X _, hV.2.1⟩
  case body =>
    rintro ll pre x a' X ⟨⟨v, hv, ho⟩, hB⟩ hV ⟨Bx, rfl, hbx, hge⟩
    obtain ⟨hVo, hVs, hVok, hVp⟩ := hV
    obtain ⟨m, hm⟩ : ∃ m, pre.length = m := ⟨_, rfl⟩
    have hlen : m + 1 ≤ 10000 := by
      have := hVp.length_le
      simp at this
      omega
    have HLx := Lib.hid (At.blk hbx)
    obtain ⟨X1, hX1⟩ : ∃ X1, X.alloc (.cells [Value.int .i64 x.t, Value.int .i64 x.f, Value.slice x.A x.d.length x.c].toArray 37) = X1 := ⟨_, rfl⟩
    have hb1X : Below X.heap.size X X1 := by rw [← hX1]; exact below_alloc1 X _
    have hL1 : X1.heap[X.heap.size]? = some (.cells [Value.int .i64 x.t, Value.int .i64 x.f, Value.slice x.A x.d.length x.c].toArray 37 (0, 0)) := by rw [← hX1]; exact heap_alloc_new X _
    have hs1 : w.heap.size + 6 ≤ X1.heap.size := Nat.le_trans hVs hb1X.size
    have hal : X.grownBy X1 none := grown_below hb1X
    have hno : NoCells X none := fun r e => by cases e
    have HR1 := Lib.hid (show RdL X1 (fun k => w.heap.size + 6 ≤ k ∧ v.ownBlock ≠ some k) PKT [x.pk] [Value.int .i64 x.t, Value.int .i64 x.f, Value.slice x.A x.d.length x.c] from RdL.single (rd_pkt_mk hVok ((own_rd_own (hVo.kept hal hno)).weak (fun k hk _ => ⟨by obtain ⟨zs, hz, _⟩ := hVo; exact own_base hz k hk, own_ne hVo ho (by decide) hk⟩))))
    obtain ⟨Av, cv, rfl, _⟩ := OwnG.rows ho
    have hml : (pre.map XP.pk).length = m := by rw [List.length_map, hm]
    have HO1 := Lib.hid (ho.kept hal hno)
    rw [hml] at HO1 hv HR1
    have HV1 := Lib.hid (cells_kept hal hno hv)
    have HM := Lib.hid hml
    have HX := Lib.hid (And.intro hv hb1X)
    have hc := hv.cell
    have hc1 := (show Boxed X1 w.heap.size 27 (.slice Av m cv) from HV1.out).cell
    have hown : ∀ k, (Value.slice Av m cv).ownBlock = some k → w.heap.size + 6 ≤ k ∧ k < X.heap.size := fun k e => by rw [← hml] at e; obtain ⟨zs, hz, _⟩ := ho; exact ⟨own_base hz k e, own_lt hz k e⟩
    have HOwn := Lib.hid hown
    have HL1 := Lib.hid (At.blk hL1)
    clear hal hno hL1 hVo ho hVok hVp hown hml hm hb1X
    gi_wp2_with (first
      | (refine wpIn_load rfl 37 _ rfl _ rfl _ _ HLx.out Try.underlying37 rfl rfl ?_)
      | (refine wpIn_lit1 rfl (cs := [Value.int .i64 x.t, Value.int .i64 x.f, Value.slice x.A x.d.length x.c]) (.tmp 9) rfl rfl Try.underlying27 info_pkt rfl (by decide) (by decide) rfl ?_; rw [hX1])
      | (gi_at_builtin
         refine wpIn_appO (m := 1) (r := [x.pk]) rfl (.tmp 8) (.tmp 10) rfl rfl rfl HO1.out rfl HL1.out HR1.out Try.underlying27 info_pkt rfl (by decide) (by rw [HM.out]; omega) (by rw [HM.out]; omega) hs1 ?_
         intro v2 X2 ho2 hg2 hv2
         have HO2 := Lib.hid ho2
         have HG2 := Lib.hid hg2
         obtain ⟨A5, c5, rfl, _⟩ := OwnG.rows ho2
         have hBx2 : Boxed X2 w.heap.size 27 (.slice Av m cv) := (show Boxed X1 w.heap.size 27 (.slice Av m cv) from HV1.out).kept hg2 (fun e => by have := (HOwn.out _ e.symm).1; omega)
         have HB2 := Lib.hid hBx2
         have hc2 := hBx2.cell
         have hf2 := hBx2.frozen
         clear ho2 hg2 hv2 hBx2))
    have hmap : (pre ++ [x]).map XP.pk = pre.map XP.pk ++ [x.pk] := by rw [List.map_append]; rfl
    have hlen2 : (pre.map XP.pk ++ [x.pk]).length = pre.length + 1 := by simp
    have ho3 := HO2.out
    rw [hlen2] at ho3
    have hge : ∀ k, (Value.slice A5 (pre.length + 1) c5).ownBlock = some k → w.heap.size + 6 ≤ k := fun k e => by obtain ⟨zs, hz, _⟩ := ho3; exact own_base hz k e
    have hcell : ∀ (j : Nat) (o : Obj), (Value.slice Av m cv).ownBlock = some j → X1.heap[j]? = some o → o.isCells = true := fun j o e ho => by
      obtain ⟨zs, ⟨_, h2⟩, _⟩ := HO1.out
      rcases h2 with ⟨e2, _⟩ | ⟨g, cap, cur, e2, _, hg, _⟩
      · rw [e2] at e; cases e
      · rw [e2] at e
        have e : some g = some j := e
        injection e with e
        subst e
        rw [hg] at ho
        cases ho
        rfl
    refine ⟨(((KeepsOthers.of_grownBy (grown_below (r := none) HX.out.2) (fun j o e => by cases e)).trans (KeepsOthers.of_grownBy HG2.out hcell)).trans (KeepsOthers.setCell _ _ _)).from _, ?_, ⟨_, HB2.out.set _, ?_⟩, ?_⟩
    · exact (((Turn.of_below HX.out.2).trans (Turn.of_grown (p := pK (w.heap.size + 6) w.heap.size (w.heap.size + 3)) HG2.out (fun k e => .inr (.inr (HOwn.out k e).1))) (fun _ _ h => h)).set (fun _ => .inl rfl))
    · rw [hmap]
      exact ho3.turn (p := fun k => k = w.heap.size) ((Turn.refl _ _).set (fun _ => rfl)) (fun k e h => by have := hge k e; omega) (fun k _ hk => by omega)
    · have hs := HX.out.2.size
      exact (hB.trans ((HX.out.2.mono (by omega)).grown HG2.out (by omega) (fun k e => by have := (HOwn.out k e).1; omega))).setCell (p := ⟨w.heap.size, 0, none⟩) (Nat.le_refl _) _
  case done =>
    rintro D ys X hD hS ⟨⟨v, hv, ho⟩, hB⟩ hK
    rw [show ys.map XP.pk = l from hS] at ho
    obtain ⟨Av, cv, rfl, _⟩ := OwnG.rows ho
    have hc := hv.cell
    have HO := Lib.hid ho
    have HB := Lib.hid hB
    clear ho hB hv
    gi_wp2
    refine ⟨by simp, .inl ⟨_, _, rfl, run_takeDeferred hK, ?_⟩⟩
    have hg := grownBy_putObj' X D (.deferred none)
    have hno : NoCells X (some D) := fun r e => by cases e; exact ⟨_, hK, rfl⟩
    exact ⟨_, results_tmp rfl _ _ _, Av, cv, rfl, (own_rd_ok (ok' := fun k => w.heap.size ≤ k) HO.out (fun k h => by omega) (fun k h => by omega)).kept hg hno, HB.out.trans (belowK_b (w := w) (Nat.le_refl _) X D _ _ (by omega) hK rfl rfl)⟩
  case stop =>
    rintro D c pre X _ _ h _
    exact h.elim
end Go.Proofs.Ytapoechkbbklfaa
