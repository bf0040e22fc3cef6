import Derived.Test.YtaagldmgbdiomaaDedL
namespace Go.Proofs.Ytaagldmgbdiomaa
open Go.RowKit
open Go.Maps
/-- Deeds that are read. -/
def Deeds (w : World) (A : Option Addr) (n : Nat) (l : List (Int × Int × Bool)) : Prop :=
  l.length = n ∧ (A = none → n = 0) ∧ ∀ ad, A = some ad → ∀ j i d b, l[j]? = some (i, d, b) →
    w.cell? (ad.add (j * 3)) = some (.int .u64 i) ∧ w.cell? ⟨(ad.add (j * 3)).block, (ad.add (j * 3)).off + 1, none⟩ = some (.int .u64 d) ∧ w.cell? ⟨(ad.add (j * 3)).block, (ad.add (j * 3)).off + 2, none⟩ = some (.bool b) ∧
    (0 ≤ i ∧ i < 18446744073709551616) ∧ (0 ≤ d ∧ d < 18446744073709551616)
theorem askV_ok (f : Int → Int) (i d : Int) (hi : i ≠ 0) (hf : 0 ≤ f i) : askV f i d = 0 ↔ d = f i + 1 := by
  unfold askV
  by_cases h1 : i = 0 ∨ d = 0
  · rw [if_pos h1]
    constructor
    · intro h; exact absurd h (by decide)
    · intro h; rcases h1 with h1 | h1 <;> omega
  · rw [if_neg h1]
    by_cases h2 : d ≤ f i
    · rw [if_pos h2]
      constructor
      · intro h; exact absurd h (by decide)
      · intro h; omega
    · rw [if_neg h2]
      by_cases h3 : d = f i + 1
      · rw [if_pos h3]; exact ⟨fun _ => h3, fun _ => rfl⟩
      · rw [if_neg h3]
        constructor
        · intro h; exact absurd h (by decide)
        · intro h; exact absurd h h3
set_option maxRecDepth 20000 in
theorem w_DedupOnce (a : Option Addr) (n cap : Nat) (l : List (Int × Int × Bool)) (ident : Int) (hi0 : 0 ≤ ident) (hi1 : ident < 18446744073709551616) (w : World) (ha : Deeds w a n l) (hn : n ≤ 9223372036854775807) :
    Calls Try.prog 3 #[.slice a n cap, .int .u64 ident] w fun e w' => e = .returned (.bool true) ∧ Below w.heap.size w w' := by
  by_cases hn6 : 60 < n
  · go_enter Try.func3, Try.ntmps3
    go_wp2_with (go_at_call 13; refine (ded_awake _).mono ?_; rintro e w1 ⟨rfl, hb1⟩)
    go_ret
    exact ⟨rfl, hb1⟩
  · go_enter Try.func3, Try.ntmps3
    go_wp2_with (first
      | (go_at_call 13; refine (ded_awake _).mono ?_; rintro e w1 ⟨rfl, hb1⟩)
      | (go_at_call 14; refine (new_nil _).mono ?_; rintro e w2 ⟨v, rfl, ht2, hb2⟩))
    go_loopw [6, 18] (fun x i wr => ∃ (k : Nat) (nx : Int) (f : Int → Int), k ≤ n ∧ i = .int .i64 k ∧ x = .int .u64 nx ∧ Tab wr v w1.heap.size k f ∧ Bd f ∧ Below w1.heap.size w1 wr ∧ (ident ≠ 0 → nx = f ident + 1) ∧ 1 ≤ nx ∧ nx ≤ k + 1) (fun _ i _ => n - (intOf i).toNat)
    case atStart => exact ⟨0, 1, f0, by omega, rfl, rfl, ht2, f0_bd, hb2, fun _ => rfl, by omega, by omega⟩
    case round =>
      obtain ⟨k, nx, f, hk, rfl, rfl, ht, hf, hbel, hnx, h1, hnk⟩ := hrel
      by_cases hlt : k < n
      · have hll := ha.1
        obtain ⟨⟨i, d, b⟩, hx⟩ : ∃ p, l[k]? = some p := ⟨l[k]'(by omega), List.getElem?_eq_getElem (by omega)⟩
        obtain ⟨ad, rfl⟩ : ∃ ad, a = some ad := by cases a with
          | none => exact absurd (ha.2.1 rfl) (by omega)
          | some ad => exact ⟨ad, rfl⟩
        obtain ⟨c0, c1, c2, hi, hd⟩ := ha.2.2 ad rfl k i d b hx
        replace c0 := cell_below (hb1.trans (hbel.mono hb1.size)) c0
        replace c1 := cell_below (hb1.trans (hbel.mono hb1.size)) c1
        replace c2 := cell_below (hb1.trans (hbel.mono hb1.size)) c2
        have i0 : (0 : Int) ≤ (k : Int) := by omega
        have i1 : (k : Int) < (n : Int) := by omega
        go_wp2_with fail
        have hz := hbel.size
        have l0 := World.cell?_alloc_mark wr (#[.int .u64 i, .int .u64 d, .bool b]) 28 (0, 0) 0
        have l1 := World.cell?_alloc_mark wr (#[.int .u64 i, .int .u64 d, .bool b]) 28 (0, 0) 1
        have hbA : Below w1.heap.size w1 (wr.alloc (.cells #[.int .u64 i, .int .u64 d, .bool b] 28)) := hbel.alloc hz _
        refine (take_bd _ _ _ _ f ⟨ht.alloc _, hf⟩ i d hi hd hbA.size (by omega) (askV f i d) rfl).mono ?_
        rintro e w3 ⟨rfl, ⟨ht3, hf3⟩, hb3, hk3⟩
        replace l0 := hk3 _ _ l0
        replace l1 := hk3 _ _ l1
        have hbC := hbA.trans hb3
        have hok := askV_ok f i d
        have hfi := hf i
        clear c0 c1 c2 ht hf hbel ha hbA hk3 hb3 hx
        by_cases hid : i = ident
        · subst hid
          by_cases hi0' : i = 0
          · have HT := Lib.hid ht3
            have HF := Lib.hid hf3
            subst hi0'
            generalize askV f 0 d = r at *
            clear ht3 hf3 hok
            go_wp2_with fail
            go_roundw
            case rel => exact ⟨k + 1, nx, _, by omega, by go_num, rfl, HT.out, HF.out, hbC, fun h => absurd rfl h, h1, by omega⟩
            case measure => simp [intOf]; omega
          · have hnx' := hnx hi0'
            by_cases hd' : d = nx
            · have hr := (hok hi0' hfi.1).2 (by omega)
              have htk : takeF f i d i = d := by unfold takeF; rw [if_pos hr]; exact if_pos rfl
              have HT := Lib.hid ht3
              have HF := Lib.hid hf3
              have HTK := Lib.hid htk
              rw [hr] at *
              subst hd'
              clear ht3 hf3 htk hok hr hnx' hnx
              go_wp2_with fail
              go_roundw
              case rel => exact ⟨k + 1, d + 1, _, by omega, by go_num, rfl, HT.out, HF.out, hbC, fun h => (by rw [HTK.out]), by omega, by omega⟩
              case measure => simp [intOf]; omega
            · have hr : askV f i d ≠ 0 := fun h => hd' (by have := (hok hi0' hfi.1).1 h; omega)
              have htk : takeF f i d i = f i := by unfold takeF; rw [if_neg hr]
              have HT := Lib.hid ht3
              have HF := Lib.hid hf3
              have HTK := Lib.hid htk
              have hdn : (d == nx) = false := by rw [beq_eq_false_iff_ne]; exact hd'
              have hrn : (askV f i d == 0) = false := by rw [beq_eq_false_iff_ne]; exact hr
              have HN := Lib.hid hnx'
              generalize askV f i d = r at *
              clear ht3 hf3 htk hok hnx' hnx
              go_wp2_with fail
              go_roundw
              case rel => exact ⟨k + 1, nx, _, by omega, by go_num, rfl, HT.out, HF.out, hbC, fun h => HN.out.trans (by rw [HTK.out]), h1, by omega⟩
              case measure => simp [intOf]; omega
        · have htk : takeF f i d ident = f ident := by
            unfold takeF
            split
            · exact if_neg (fun e => hid e.symm)
            · rfl
          have HT := Lib.hid ht3
          have HF := Lib.hid hf3
          have HTK := Lib.hid htk
          generalize askV f i d = r at *
          clear ht3 hf3 htk hok
          go_wp2_with fail
          go_roundw
          case rel => exact ⟨k + 1, nx, _, by omega, by go_num, rfl, HT.out, HF.out, hbC, fun h => (hnx h).trans (by rw [HTK.out]), h1, by omega⟩
          case measure => simp [intOf]; omega
      · obtain rfl : k = n := by omega
        have hbE := hb1.trans (hbel.mono hb1.size)
        have hfi := hf ident
        by_cases hid : ident = 0
        · subst hid
          clear hf hnx ha
          go_wp2_with fail
          go_ret
          exact ⟨rfl, hbE⟩
        · have hnx' := hnx hid
          subst hnx'
          have HL := Lib.hid (last_any wr v _ _ f ht ident hi0 hi1)
          clear ht hf hnx ha
          generalize f ident = c at *
          go_wp2_with (go_at_call 16; refine HL.out.mono ?_; rintro e w' ⟨rfl, rfl⟩)
          go_ret
          exact ⟨rfl, hbE⟩
end Go.Proofs.Ytaagldmgbdiomaa
