import Derived.Test.YtfjnpiahloncmaaDifF
namespace Go.Proofs.Ytfjnpiahloncmaa
open Go.RowKit FP
set_option linter.unusedVariables false
set_option linter.unusedSimpArgs false
attribute [local go_sem] run_store_float
abbrev GL : List Value := [.int .u64 1, .string ⟨#[108]⟩]
abbrev GT : List Value := [.int .u64 1, .int .u64 1, .string ⟨#[97]⟩, .bool false, .float .f64 0, .float .f64 0, .slice none 0 0]
abbrev glist : LIST.Ty := (1, ⟨#[108]⟩, ())
abbrev gtask : TASK.Ty := (1, 1, ⟨#[97]⟩, false, 0, 0, [], ())
set_option maxRecDepth 20000 in
theorem g_rows (w : World) (e : Sh) : Rows w anyB e none 0 [] := ⟨rfl, fun _ => rfl, fun ad e => by cases e⟩
set_option maxRecDepth 20000 in
theorem g_nil (w : World) (ok : Nat → Prop) (e : Sh) : Rd w ok (.sl e) ([] : List e.Ty) [.slice none 0 0] := rd_sl.2 ⟨none, 0, 0, rfl, by omega, by omega, fun _ => rfl, rfl, fun _ => rfl, fun ad e => by cases e⟩
set_option maxRecDepth 20000 in
theorem g_list : (Try.prog.info? 37).map (fun i => (i.zero, i.size, i.bytes)) = some (some (.agg #[Value.int .u64 0, Value.string ⟨#[]⟩]), 2, (Try.prog.bytesOf 37)) := by kernel_rfl
set_option maxRecDepth 20000 in
theorem g_task : (Try.prog.info? 41).map (fun i => (i.zero, i.size, i.bytes)) = some (some (.agg #[Value.int .u64 0, Value.int .u64 0, Value.string ⟨#[]⟩, Value.bool false, Value.float .f64 0, Value.float .f64 0, Value.slice none 0 0]), 7, (Try.prog.bytesOf 41)) := by kernel_rfl
set_option maxRecDepth 20000 in
theorem firsts_one {α : Type} {key : α → Int} {x : α} : Firsts key [x] [x] := fun y => by
  rw [List.find?_cons]
  constructor
  · intro h
    obtain rfl := List.mem_singleton.1 h
    simp
  · intro h
    by_cases e : (key x == key y) = true
    · rw [e] at h; injection h with h; subst h; exact List.mem_singleton_self _
    · rw [Bool.eq_false_iff.2 e] at h; cases h
set_option maxRecDepth 20000 in
theorem rises_one {α : Type} {key : α → Int} {x : α} : Rises key [x] := List.pairwise_singleton _ _
set_option maxRecDepth 20000 in
theorem neL_one : neL glist glist = false := by decide
set_option maxHeartbeats 4000000 in
set_option maxRecDepth 20000 in
theorem dif_awake (w : World) : Calls Try.prog 4 #[] w fun e w' => e = .returned (.bool true) ∧ Below w.heap.size w w' := by
  obtain ⟨w1, hw1⟩ : ∃ w1, w.alloc (.cells GL.toArray 37) = w1 := ⟨_, rfl⟩
  have s1 : w1.heap.size = w.heap.size + 1 := by rw [← hw1]; simp
  obtain ⟨w2, hw2⟩ : ∃ w2, w1.alloc (.cells #[.slice (some ⟨w.heap.size, 0, none⟩) 1 1, .slice none 0 0] 25) = w2 := ⟨_, rfl⟩
  have s2 : w2.heap.size = w.heap.size + 2 := by rw [← hw2]; simp [s1]
  obtain ⟨w3, hw3⟩ : ∃ w3, w2.alloc (.cells GT.toArray 41) = w3 := ⟨_, rfl⟩
  have s3 : w3.heap.size = w.heap.size + 3 := by rw [← hw3]; simp [s2]
  obtain ⟨w4, hw4⟩ : ∃ w4, w3.alloc (.cells #[.slice (some ⟨w.heap.size, 0, none⟩) 1 1, .slice (some ⟨w.heap.size + 2, 0, none⟩) 1 1] 25) = w4 := ⟨_, rfl⟩
  have s4 : w4.heap.size = w.heap.size + 4 := by rw [← hw4]; simp [s3]
  have b1 : Below w.heap.size w w1 := by rw [← hw1]; exact below_alloc1 w _
  have b2 : Below w1.heap.size w1 w2 := by rw [← hw2]; exact below_alloc1 w1 _
  have b3 : Below w2.heap.size w2 w3 := by rw [← hw3]; exact below_alloc1 w2 _
  have b4 : Below w3.heap.size w3 w4 := by rw [← hw4]; exact below_alloc1 w3 _
  have p1 : w1.heap[w.heap.size]? = some (.cells GL.toArray 37 (0, 0)) := by rw [← hw1]; exact heap_alloc_new w _
  have p2 : w2.heap[w.heap.size + 1]? = some (.cells #[.slice (some ⟨w.heap.size, 0, none⟩) 1 1, .slice none 0 0] 25 (0, 0)) := by rw [← hw2, ← s1]; exact heap_alloc_new w1 _
  have p3 : w3.heap[w.heap.size + 2]? = some (.cells GT.toArray 41 (0, 0)) := by rw [← hw3, ← s2]; exact heap_alloc_new w2 _
  have p4 : w4.heap[w.heap.size + 3]? = some (.cells #[.slice (some ⟨w.heap.size, 0, none⟩) 1 1, .slice (some ⟨w.heap.size + 2, 0, none⟩) 1 1] 25 (0, 0)) := by rw [← hw4, ← s3]; exact heap_alloc_new w3 _
  have b34 := b3.trans (b4.mono b3.size)
  have b24 := b2.trans (b34.mono b2.size)
  have rl : Rd w1 anyB LIST glist GL := rd_lst_mk ⟨⟨by decide, by decide⟩, by decide⟩
  have rt : Rd w3 anyB TASK gtask GT := rd_task_mk ⟨⟨by decide, by decide⟩, ⟨by decide, by decide⟩, by decide, by decide, by decide⟩ (g_nil _ _ _)
  have HL := Lib.hid ((rows_of (ad := ⟨w.heap.size, 0, none⟩) (RdL.single rl) (fun _ => trivial) (At.blk p1)).below b24)
  have HT := Lib.hid ((rows_of (ad := ⟨w.heap.size + 2, 0, none⟩) (RdL.single rt) (fun _ => trivial) (At.blk p3)).below b4)
  have HS2 := Lib.hid p2
  have HSa := Lib.hid (blk_below p2 b34 (by omega))
  have HSb := Lib.hid p4
  have HB := Lib.hid (b1.trans (b24.mono b1.size))
  clear rl rt b1 b2 b3 b4 p1 p2 p3 p4 b34 b24
  subst hw1 hw2 hw3 hw4
  go_enter Try.func4, Try.ntmps4
  go_wp2_with (first
    | (refine wpL_lit1 rfl (cs := GL) (.tmp 3) rfl rfl Try.underlying22 g_list rfl (by decide) (by decide) rfl ?_)
    | (refine wpL_lit1 rfl (cs := GT) (.tmp 8) rfl rfl Try.underlying23 g_task rfl (by decide) (by decide) rfl ?_)
    | (refine wpL_load rfl 25 (.tmp 1) rfl ⟨w.heap.size + 1, 0, none⟩ rfl _ _ (At.blk HS2.out) Try.underlying25 rfl rfl ?_))
  obtain ⟨sB, hsB⟩ : ∃ sB : TASK.Ty → TASK.Ty → Bool, ∀ x y, sB x y = true ↔ SameT x y := ⟨fun x y => @decide (SameT x y) (Classical.propDecidable _), fun x y => by simp⟩
  refine (diff_any sB hsB _ (some ⟨w.heap.size, 0, none⟩) none (some ⟨w.heap.size, 0, none⟩) (some ⟨w.heap.size + 2, 0, none⟩) 1 1 0 0 1 1 1 1 [glist] [glist] [] [gtask] HL.out (g_rows _ _) HL.out HT.out (by decide) (by decide) (by decide) (by decide) (fun t ht => by cases ht) (fun t ht => by obtain rfl := List.mem_singleton.1 ht; decide)).mono ?_
  rintro e v4 ⟨P0, P1, P2, P3, p0, p1, p2, p3, u0, u1, u2, u3, rfl, aL, aT, bL, bT, hca, hcb, r0, r1, r2, r3, hb4⟩
  obtain rfl : aL = [glist] := can_uniq hca.1 hca.2.1 firsts_one rises_one
  obtain rfl : bL = [glist] := can_uniq hcb.1 hcb.2.1 firsts_one rises_one
  obtain rfl : aT = [] := can_uniq hca.2.2.1 hca.2.2.2 firsts_nil List.Pairwise.nil
  obtain rfl : bT = [ownT gtask] := can_uniq hcb.2.2.1 hcb.2.2.2 firsts_one rises_one
  have e0 : 0 = p0 := r0.1
  have e1 : 1 = p1 := r1.1
  have e2 : 0 = p2 := r2.1
  have e3 : 0 = p3 := r3.1
  subst e0 e1 e2 e3
  have HB4 := Lib.hid (HB.out.trans (hb4.mono HB.out.size))
  clear hca hcb r0 r1 r2 r3 hb4
  go_wp2_with fail
  refine (size_any v4 P0 P1 P2 P3 0 1 0 0 u0 u1 u2 u3 (by decide) (by decide) (by decide) (by decide)).mono ?_
  rintro e v5 ⟨rfl, hb5⟩
  have HB5 := Lib.hid (HB4.out.trans (hb5.mono HB4.out.size))
  clear hb5
  go_wp2_with fail
  go_ret
  exact ⟨rfl, HB5.out⟩
set_option maxRecDepth 20000 in
theorem w_DiffOf (a : STATE.Ty) (ca : List Value) (b : STATE.Ty) (cb : List Value) (w : World) (ha : Rd w anyB STATE a ca) (hb : Rd w anyB STATE b cb) :
    Calls Try.prog 3 #[.agg ca.toArray, .agg cb.toArray] w fun e w' => e = .returned (.bool true) ∧ Below w.heap.size w w' := by
  obtain ⟨l1, t1, A, n1, B, n2, rfl, rfl, _, h1, h2⟩ := rd_state ha
  obtain ⟨l2, t2, C, n3, D, n4, rfl, rfl, _, h3, h4⟩ := rd_state hb
  have k1 := rd_rowsN h1
  have k2 := rd_rowsN h2
  have k3 := rd_rowsN h3
  have k4 := rd_rowsN h4
  exact x_DiffOf dif_awake l1 l2 t1 t2 A B C D _ n1 _ n2 _ n3 _ n4 w k1.2.2.2 k2.2.2.2 k3.2.2.2 k4.2.2.2 (by omega) (by omega) (by omega) (by omega)
end Go.Proofs.Ytfjnpiahloncmaa
