import Derived.Test.YtapoechkbbklfaaLst
import Derived.ChangeSlices
import Derived.ChangeShapes
import Derived.LaidMore
import Derived.Maps.AppendAt
namespace Go.Proofs.Ytapoechkbbklfaa
open Go.RowKit
/-! Data of any type that has no pointers and no maps, read: shapes, what is of a shape, and how it lies in cells. -/
inductive Sh where
  | int (k : IntKind) | bool | f64 | str | byte | sl (e : Sh) | nil | cons (a b : Sh)
abbrev Sh.Ty : Sh → Type
  | .int _ => Int
  | .bool => Bool
  | .f64 => Nat
  | .str => ByteArray
  | .byte => UInt8
  | .sl e => List e.Ty
  | .nil => Unit
  | .cons a b => a.Ty × b.Ty
def Sh.size : Sh → Nat
  | .nil => 0
  | .cons a b => a.size + b.size
  | _ => 1
def Sh.chain : Sh → Bool
  | .nil => true
  | .cons _ _ => true
  | _ => false
/-- Cells that lie behind an address, from a place on. -/
def At (w : World) (ad : Addr) (o : Nat) (cs : List Value) : Prop := ∀ j v, cs[j]? = some v → w.cell? (ad.add (o + j)) = some v
/-- How a datum lies in cells; what its slices hold lies in blocks that are 'ok'. -/
def Rd (w : World) (ok : Nat → Prop) : (s : Sh) → s.Ty → List Value → Prop
  | .int k, (n : Int), cs => cs = [.int k n] ∧ (Lit.int k n).wf = true
  | .bool, (b : Bool), cs => cs = [.bool b]
  | .f64, (b : Nat), cs => cs = [.float .f64 b] ∧ b < 18446744073709551616
  | .str, (s : ByteArray), cs => cs = [.string s] ∧ s.size ≤ 9223372036854775807
  | .byte, (x : UInt8), cs => cs = [encB x]
  | .sl e, l, cs => ∃ A n c, cs = [.slice A n c] ∧ n ≤ c ∧ c ≤ 9223372036854775807 ∧ (A = none → c = 0) ∧ (show List e.Ty from l).length = n ∧
      ∀ ad, A = some ad → ∀ (i : Nat) (x : e.Ty), (show List e.Ty from l)[i]? = some x → ∃ cs', (cs' ≠ [] → ok ad.block) ∧ At w ad (i * e.size) cs' ∧ Rd w ok e x cs'
  | .nil, _, cs => cs = []
  | .cons a b, p, cs => ∃ c1 c2, cs = c1 ++ c2 ∧ Rd w ok a (show a.Ty × b.Ty from p).1 c1 ∧ Rd w ok b (show a.Ty × b.Ty from p).2 c2
/-- A row of what is read. -/
def Rows (w : World) (ok : Nat → Prop) (e : Sh) (A : Option Addr) (n : Nat) (l : List e.Ty) : Prop :=
  l.length = n ∧ (A = none → n = 0) ∧ ∀ ad, A = some ad → ∀ (i : Nat) (x : e.Ty), l[i]? = some x → ∃ cs, (cs ≠ [] → ok ad.block) ∧ At w ad (i * e.size) cs ∧ Rd w ok e x cs
section
variable {w w' : World} {ok ok' : Nat → Prop}
theorem rd_sl {e : Sh} {l : List e.Ty} {cs : List Value} : Rd w ok (.sl e) l cs ↔ ∃ A n c, cs = [.slice A n c] ∧ n ≤ c ∧ c ≤ 9223372036854775807 ∧ (A = none → c = 0) ∧ Rows w ok e A n l := by
  show (∃ A n c, cs = [.slice A n c] ∧ n ≤ c ∧ c ≤ 9223372036854775807 ∧ (A = none → c = 0) ∧ l.length = n ∧
      ∀ ad, A = some ad → ∀ (i : Nat) (x : e.Ty), l[i]? = some x → ∃ cs', (cs' ≠ [] → ok ad.block) ∧ At w ad (i * e.size) cs' ∧ Rd w ok e x cs') ↔ _
  constructor
  · rintro ⟨A, n, c, h1, h2, h3, h4, h5, h6⟩
    exact ⟨A, n, c, h1, h2, h3, h4, h5, (fun e => by have := h4 e; omega), h6⟩
  · rintro ⟨A, n, c, h1, h2, h3, h4, h5, _, h6⟩
    exact ⟨A, n, c, h1, h2, h3, h4, h5, h6⟩
theorem rd_cons {a b : Sh} {x : a.Ty} {y : b.Ty} {cs : List Value} : Rd w ok (.cons a b) (x, y) cs ↔ ∃ c1 c2, cs = c1 ++ c2 ∧ Rd w ok a x c1 ∧ Rd w ok b y c2 := Iff.rfl
theorem At.lt {ad : Addr} {o : Nat} {cs : List Value} (h : At w ad o cs) (hn : cs ≠ []) : ad.block < w.heap.size := by
  cases cs with
  | nil => exact absurd rfl hn
  | cons x xs =>
    have h2 := World.block_lt_of_cell? w _ (h 0 x rfl)
    unfold Addr.add at h2
    simp only [Nat.add_zero] at h2
    split at h2 <;> exact h2
theorem At.of {ad : Addr} {o : Nat} {cs : List Value} (h : At w ad o cs) (hk : cs ≠ [] → ok ad.block) (hw : ∀ a v, ok a.block → w.cell? a = some v → w'.cell? a = some v) : At w' ad o cs := by
  intro j v hv
  refine hw _ _ ?_ (h j v hv)
  rw [add_block]
  exact hk (by intro e; subst e; simp at hv)
/-- The one law: what is read stays so, where the cells of its blocks stay; blocks may be told of less, or more where it lies in w. -/
theorem Rd.of (hw : ∀ a v, ok a.block → w.cell? a = some v → w'.cell? a = some v) (hok : ∀ k, ok k → k < w.heap.size → ok' k) : ∀ {s : Sh} {x : s.Ty} {cs : List Value}, Rd w ok s x cs → Rd w' ok' s x cs
  | .int _, _, _, h => h
  | .bool, _, _, h => h
  | .f64, _, _, h => h
  | .str, _, _, h => h
  | .byte, _, _, h => h
  | .sl e, l, cs, h => by
    obtain ⟨A, n, c, h1, h2, h3, h4, h5, h6⟩ := h
    refine ⟨A, n, c, h1, h2, h3, h4, h5, fun ad ha i x hx => ?_⟩
    obtain ⟨cs', h0, h7, h8⟩ := h6 ad ha i x hx
    exact ⟨cs', fun hn => hok _ (h0 hn) (h7.lt hn), h7.of h0 hw, Rd.of hw hok h8⟩
  | .nil, _, _, h => h
  | .cons a b, p, cs, h => by
    obtain ⟨c1, c2, h1, h2, h3⟩ := h
    exact ⟨c1, c2, h1, Rd.of hw hok h2, Rd.of hw hok h3⟩
theorem Rows.of {e : Sh} {A : Option Addr} {n : Nat} {l : List e.Ty} (h : Rows w ok e A n l) (hw : ∀ a v, ok a.block → w.cell? a = some v → w'.cell? a = some v) (hok : ∀ k, ok k → k < w.heap.size → ok' k) : Rows w' ok' e A n l := by
  refine ⟨h.1, h.2.1, fun ad ha i x hx => ?_⟩
  obtain ⟨cs', h0, h7, h8⟩ := h.2.2 ad ha i x hx
  exact ⟨cs', fun hn => hok _ (h0 hn) (h7.lt hn), h7.of h0 hw, h8.of hw hok⟩
abbrev anyB : Nat → Prop := fun _ => True
theorem Rd.below {s : Sh} {x : s.Ty} {cs : List Value} (h : Rd w ok s x cs) (hb : Below w.heap.size w w') : Rd w' ok s x cs := h.of (fun _ _ _ hc => cell_below hb hc) (fun _ h _ => h)
theorem Rows.below {e : Sh} {A : Option Addr} {n : Nat} {l : List e.Ty} (h : Rows w ok e A n l) (hb : Below w.heap.size w w') : Rows w' ok e A n l := h.of (fun _ _ _ hc => cell_below hb hc) (fun _ h _ => h)
theorem Rd.weak {s : Sh} {x : s.Ty} {cs : List Value} (h : Rd w ok s x cs) (hok : ∀ k, ok k → k < w.heap.size → ok' k) : Rd w ok' s x cs := h.of (fun _ _ _ hc => hc) hok
theorem Rows.weak {e : Sh} {A : Option Addr} {n : Nat} {l : List e.Ty} (h : Rows w ok e A n l) (hok : ∀ k, ok k → k < w.heap.size → ok' k) : Rows w ok' e A n l := h.of (fun _ _ _ hc => hc) hok
theorem Rd.any {s : Sh} {x : s.Ty} {cs : List Value} (h : Rd w ok s x cs) : Rd w anyB s x cs := h.weak fun _ _ _ => trivial
theorem Rows.any {e : Sh} {A : Option Addr} {n : Nat} {l : List e.Ty} (h : Rows w ok e A n l) : Rows w anyB e A n l := h.weak fun _ _ _ => trivial
theorem Rd.len : ∀ {s : Sh} {x : s.Ty} {cs : List Value}, Rd w ok s x cs → cs.length = s.size
  | .int _, _, _, h => by rw [h.1]; rfl
  | .bool, _, _, h => by rw [show _ = _ from h]; rfl
  | .f64, _, _, h => by rw [h.1]; rfl
  | .str, _, _, h => by rw [h.1]; rfl
  | .byte, _, _, h => by rw [show _ = _ from h]; rfl
  | .sl e, l, cs, h => by
    obtain ⟨A, n, c, h1, _⟩ := h
    rw [h1]; rfl
  | .nil, _, _, h => by rw [show _ = _ from h]; rfl
  | .cons a b, p, cs, h => by
    obtain ⟨c1, c2, h1, h2, h3⟩ := h
    rw [h1, List.length_append, h2.len, h3.len]; rfl
theorem Rd.one : ∀ {s : Sh} {x : s.Ty} {cs : List Value}, Rd w ok s x cs → ∀ v ∈ cs, v.oneCell' = true
  | .int _, _, _, h => by rw [h.1]; intro v hv; simp at hv; subst hv; rfl
  | .bool, _, _, h => by rw [show _ = _ from h]; intro v hv; simp at hv; subst hv; rfl
  | .f64, _, _, h => by rw [h.1]; intro v hv; simp at hv; subst hv; rfl
  | .str, _, _, h => by rw [h.1]; intro v hv; simp at hv; subst hv; rfl
  | .byte, _, _, h => by rw [show _ = _ from h]; intro v hv; simp at hv; subst hv; rfl
  | .sl e, l, cs, h => by
    obtain ⟨A, n, c, h1, _⟩ := h
    rw [h1]; intro v hv; simp at hv; subst hv; rfl
  | .nil, _, _, h => by rw [show _ = _ from h]; intro v hv; simp at hv
  | .cons a b, p, cs, h => by
    obtain ⟨c1, c2, h1, h2, h3⟩ := h
    rw [h1]; intro v hv
    rcases List.mem_append.1 hv with hv | hv
    · exact h2.one v hv
    · exact h3.one v hv
theorem rd_byte {x : UInt8} {cs : List Value} : Rd w ok .byte x cs ↔ cs = [encB x] := Iff.rfl
theorem rows_bytes {A : Option Addr} {n : Nat} {l : List UInt8} (hn : n ≤ 9223372036854775807) (h : Rows w ok .byte A n l) : Bs w A n l := by
  obtain ⟨h1, h2, h3⟩ := h
  refine ⟨hn, by simpa using h1, h2, fun ad e j u hu => ?_⟩
  rw [List.getElem?_map, Option.map_eq_some_iff] at hu
  obtain ⟨x, hx, rfl⟩ := hu
  obtain ⟨cs, _, hc, hr⟩ := h3 ad e j x hx
  rw [rd_byte] at hr
  subst hr
  have := hc 0 _ rfl
  simpa [Sh.size] using this
theorem rows_of_bytes {A : Option Addr} {n : Nat} {l : List UInt8} (h : Bs w A n l) (hk : l ≠ [] → ∀ ad, A = some ad → ok ad.block) : Rows w ok .byte A n l := by
  refine ⟨h.len, h.2.2.1, fun ad e j x hx => ⟨[encB x], fun _ => hk (by intro e; subst e; simp at hx) ad e, fun i v hv => ?_, rfl⟩⟩
  match i with
  | 0 =>
    simp at hv
    subst hv
    have := h.2.2.2 ad e j (encB x) (by rw [List.getElem?_map, hx]; rfl)
    simpa [Sh.size] using this
  | i + 1 => simp at hv
/-- Elements of one cell each, in cells. -/
theorem Rows.rc {e : Sh} {enc : e.Ty → Value} (he : ∀ w ok x cs, Rd w ok e x cs → cs = [enc x]) (hs : e.size = 1) {A : Option Addr} {n : Nat} {l : List e.Ty} (h : Rows w ok e A n l) : Rc w A n (l.map enc) := by
  refine ⟨by simpa using h.1, h.2.1, fun ad e j u hu => ?_⟩
  rw [List.getElem?_map, Option.map_eq_some_iff] at hu
  obtain ⟨x, hx, rfl⟩ := hu
  obtain ⟨cs, _, hc, hr⟩ := h.2.2 ad e j x hx
  have := he _ _ _ _ hr
  subst this
  have := hc 0 _ rfl
  rw [hs] at this
  simpa using this
theorem Rows.of_rc {e : Sh} {enc : e.Ty → Value} (he : ∀ x, Rd w ok e x [enc x]) (hs : e.size = 1) {A : Option Addr} {n : Nat} {l : List e.Ty} (h : Rc w A n (l.map enc)) (hk : l ≠ [] → ∀ ad, A = some ad → ok ad.block) : Rows w ok e A n l := by
  refine ⟨by simpa using h.1, h.2.1, fun ad e1 j x hx => ⟨[enc x], fun _ => hk (by intro e; subst e; simp at hx) ad e1, fun i v hv => ?_, he x⟩⟩
  match i with
  | 0 =>
    simp at hv
    subst hv
    have := h.2.2 ad e1 j (enc x) (by rw [List.getElem?_map, hx]; rfl)
    rw [hs]
    simpa using this
  | i + 1 => simp at hv
end
/-! ### Rows of one's own -/
/-- Cells of elements, one behind the other. -/
def RdL (w : World) (ok : Nat → Prop) (s : Sh) : List s.Ty → List Value → Prop
  | [], cs => cs = []
  | x :: l, cs => ∃ c1 c2, cs = c1 ++ c2 ∧ Rd w ok s x c1 ∧ RdL w ok s l c2
section
variable {w w' : World} {ok ok' : Nat → Prop} {s : Sh}
theorem RdL.of (hw : ∀ a v, ok a.block → w.cell? a = some v → w'.cell? a = some v) (hok : ∀ k, ok k → k < w.heap.size → ok' k) : ∀ {l : List s.Ty} {cs : List Value}, RdL w ok s l cs → RdL w' ok' s l cs
  | [], _, h => h
  | x :: l, cs, h => by
    obtain ⟨c1, c2, h1, h2, h3⟩ := h
    exact ⟨c1, c2, h1, h2.of hw hok, RdL.of hw hok h3⟩
theorem RdL.append : ∀ {l m : List s.Ty} {cs ds : List Value}, RdL w ok s l cs → RdL w ok s m ds → RdL w ok s (l ++ m) (cs ++ ds)
  | [], m, cs, ds, h, k => by rw [show cs = [] from h]; exact k
  | x :: l, m, cs, ds, h, k => by
    obtain ⟨c1, c2, h1, h2, h3⟩ := h
    exact ⟨c1, c2 ++ ds, by rw [h1, List.append_assoc], h2, h3.append k⟩
theorem RdL.len : ∀ {l : List s.Ty} {cs : List Value}, RdL w ok s l cs → cs.length = l.length * s.size
  | [], cs, h => by rw [show cs = [] from h]; simp
  | x :: l, cs, h => by
    obtain ⟨c1, c2, h1, h2, h3⟩ := h
    rw [h1, List.length_append, h2.len, h3.len, List.length_cons, Nat.add_mul]; omega
theorem RdL.one : ∀ {l : List s.Ty} {cs : List Value}, RdL w ok s l cs → ∀ v ∈ cs, v.oneCell' = true
  | [], cs, h => by rw [show cs = [] from h]; intro v hv; simp at hv
  | x :: l, cs, h => by
    obtain ⟨c1, c2, h1, h2, h3⟩ := h
    rw [h1]; intro v hv
    rcases List.mem_append.1 hv with hv | hv
    · exact h2.one v hv
    · exact h3.one v hv
theorem RdL.single {x : s.Ty} {cs : List Value} (h : Rd w ok s x cs) : RdL w ok s [x] cs := ⟨cs, [], by simp, h, rfl⟩
theorem RdL.at_ : ∀ {l : List s.Ty} {cs : List Value}, RdL w ok s l cs → ∀ (i : Nat) (x : s.Ty), l[i]? = some x → ∃ c, (∀ j v, c[j]? = some v → cs[i * s.size + j]? = some v) ∧ Rd w ok s x c
  | [], _, _, i, x, hx => by simp at hx
  | y :: l, cs, h, 0, x, hx => by
    obtain ⟨c1, c2, h1, h2, h3⟩ := h
    simp at hx
    subst hx
    refine ⟨c1, fun j v hv => ?_, h2⟩
    rw [h1, Nat.zero_mul, Nat.zero_add, List.getElem?_append_left (List.getElem?_eq_some_iff.1 hv).1, hv]
  | y :: l, cs, h, i + 1, x, hx => by
    obtain ⟨c1, c2, h1, h2, h3⟩ := h
    obtain ⟨c, hc, hr⟩ := h3.at_ i x (by simpa using hx)
    refine ⟨c, fun j v hv => ?_, hr⟩
    rw [h1, List.getElem?_append_right (by rw [h2.len, Nat.add_mul]; omega), h2.len]
    rw [show (i + 1) * s.size + j - s.size = i * s.size + j by rw [Nat.add_mul]; omega]
    exact hc j v hv
/-- Cells that lie in a row of what is read. -/
theorem Rows.cells {A : Option Addr} {n : Nat} : ∀ {l : List s.Ty}, Rows w ok s A n l → ∃ cs, RdL w ok s l cs ∧ ∀ ad, A = some ad → (cs ≠ [] → ok ad.block) ∧ At w ad 0 cs := by
  intro l h
  cases A with
  | none =>
    have hn := h.2.1 rfl
    have : l = [] := List.eq_nil_of_length_eq_zero (by rw [h.1, hn])
    subst this
    exact ⟨[], rfl, fun ad e => by cases e⟩
  | some ad =>
    have h3 := h.2.2 ad rfl
    clear h
    suffices hs : ∀ (o : Nat) (l : List s.Ty), (∀ (i : Nat) (x : s.Ty), l[i]? = some x → ∃ cs, (cs ≠ [] → ok ad.block) ∧ At w ad ((o + i) * s.size) cs ∧ Rd w ok s x cs) → ∃ cs, RdL w ok s l cs ∧ (cs ≠ [] → ok ad.block) ∧ At w ad (o * s.size) cs by
      obtain ⟨cs, h1, h2, h4⟩ := hs 0 l (by simpa using h3)
      refine ⟨cs, h1, fun ad' e => ?_⟩
      injection e with e
      subst e
      exact ⟨h2, by simpa using h4⟩
    intro o l
    induction l generalizing o with
    | nil => intro _; exact ⟨[], rfl, fun h => absurd rfl h, fun j v hv => by simp at hv⟩
    | cons x l ih =>
      intro h
      obtain ⟨c, hc1, hc2, hc3⟩ := h 0 x rfl
      obtain ⟨cs, h1, h2, h4⟩ := ih (o + 1) (fun i y hy => by have := h (i + 1) y (by simpa using hy); rwa [show o + (i + 1) = o + 1 + i by omega] at this)
      refine ⟨c ++ cs, ⟨c, cs, rfl, hc3, h1⟩, fun hn => ?_, fun j v hv => ?_⟩
      · by_cases hc : c = []
        · subst hc; exact h2 (by simpa using hn)
        · exact hc1 hc
      · by_cases hj : j < c.length
        · rw [List.getElem?_append_left hj] at hv
          simpa using hc2 j v hv
        · rw [List.getElem?_append_right (by omega)] at hv
          have h5 := h4 _ v hv
          have hcl := hc3.len
          rwa [show (o + 1) * s.size + (j - c.length) = o * s.size + j by rw [Nat.add_mul, hcl]; omega] at h5
theorem rows_of {ad : Addr} {l : List s.Ty} {cs : List Value} (h : RdL w ok s l cs) (hk : cs ≠ [] → ok ad.block) (ha : At w ad 0 cs) : Rows w ok s (some ad) l.length l := by
  refine ⟨rfl, (fun e => by cases e), fun ad' e i x hx => ?_⟩
  injection e with e
  subst e
  obtain ⟨c, hc, hr⟩ := h.at_ i x hx
  refine ⟨c, fun hn => hk ?_, fun j v hv => ?_, hr⟩
  · intro e
    subst e
    cases c with
    | nil => exact hn rfl
    | cons a c => have := hc 0 a rfl; simp at this
  · have := ha _ v (hc j v hv)
    simpa using this
/-- A slice of one's own, of what is read; what its elements' slices hold lies elsewhere, in blocks that are 'ok'. -/
def OwnG (w : World) (base : Nat) (ok : Nat → Prop) (e : TypeId) (s : Sh) (v : Value) (l : List s.Ty) : Prop :=
  ∃ xs, w.ownsRow base e s.size v l.length xs ∧ RdL w (fun k => ok k ∧ v.ownBlock ≠ some k) s l xs
abbrev Own (w : World) (base : Nat) (e : TypeId) (s : Sh) (v : Value) (l : List s.Ty) : Prop := OwnG w base (fun k => base ≤ k) e s v l
theorem OwnG.nil (w : World) (base : Nat) (ok : Nat → Prop) (e : TypeId) (s : Sh) : OwnG w base ok e s (.slice none 0 0) [] := ⟨[], own_nil w base e s.size, rfl⟩
theorem Own.nil (w : World) (base : Nat) (e : TypeId) (s : Sh) : Own w base e s (.slice none 0 0) [] := OwnG.nil _ _ _ _ _
theorem OwnG.form {base : Nat} {e : TypeId} {v : Value} {l : List s.Ty} (h : OwnG w base ok e s v l) : ∃ A c, v = .slice A l.length c ∧ l.length ≤ c ∧ c ≤ 9223372036854775807 ∧ (A = none → c = 0) ∧ Rows w (fun k => base ≤ k ∨ ok k) s A l.length l := by
  obtain ⟨xs, ho, hr⟩ := h
  rcases ho.2 with ⟨rfl, h0⟩ | ⟨g, cap, cur, rfl, hb, hg, hnc, hcm, _⟩
  · have : l = [] := List.eq_nil_of_length_eq_zero h0
    subst this
    exact ⟨none, 0, rfl, by simp, by omega, fun _ => rfl, rfl, fun _ => rfl, fun ad e => by cases e⟩
  · simp only [maxLen] at hcm
    refine ⟨_, cap, rfl, hnc, by omega, (fun e => by cases e), rows_of (hr.of (fun _ _ _ h => h) (fun k h _ => .inr h.1)) (fun _ => .inl hb) fun j v hv => ?_⟩
    rw [Nat.zero_add]
    exact ho.cells (g := g) rfl j v hv
theorem Own.form {base : Nat} {e : TypeId} {v : Value} {l : List s.Ty} (h : Own w base e s v l) : ∃ A c, v = .slice A l.length c ∧ l.length ≤ c ∧ c ≤ 9223372036854775807 ∧ (A = none → c = 0) ∧ Rows w (fun k => base ≤ k) s A l.length l := by
  obtain ⟨A, c, h1, h2, h3, h4, h5⟩ := OwnG.form h
  exact ⟨A, c, h1, h2, h3, h4, h5.weak (fun k hk _ => hk.elim id id)⟩
theorem Own.rd {base : Nat} {e : TypeId} {v : Value} {l : List s.Ty} (h : Own w base e s v l) : Rd w (fun k => base ≤ k) (.sl s) l [v] := by
  obtain ⟨A, c, rfl, h1, h2, h3, h4⟩ := h.form
  exact rd_sl.2 ⟨A, _, c, rfl, h1, h2, h3, h4⟩
theorem OwnG.rd {base : Nat} {e : TypeId} {v : Value} {l : List s.Ty} (h : OwnG w base ok e s v l) : Rd w anyB (.sl s) l [v] := by
  obtain ⟨A, c, rfl, h1, h2, h3, h4⟩ := h.form
  exact rd_sl.2 ⟨A, _, c, rfl, h1, h2, h3, h4.any⟩
theorem OwnG.below {base : Nat} {e : TypeId} {v : Value} {l : List s.Ty} (h : OwnG w base ok e s v l) (hb : Below w.heap.size w w') : OwnG w' base ok e s v l := by
  obtain ⟨xs, ho, hr⟩ := h
  exact ⟨xs, own_below ho hb, hr.of (fun _ _ _ hc => cell_below hb hc) (fun _ h _ => h)⟩
theorem Own.below {base : Nat} {e : TypeId} {v : Value} {l : List s.Ty} (h : Own w base e s v l) (hb : Below w.heap.size w w') : Own w' base e s v l := OwnG.below h hb
end
section
variable {P : Program} {ops : Array Oper} {rest : List Oper} {o : Oper} {a : Act} {Q : Exit → Act → World → Prop}
/-- 'append(v, ys...)': elements of any size. -/
theorem wp_appS {w0 W : World} {base n m c bytes sz : Nat} {e t : TypeId} {z v : Value} {xs ys : List Value} {A : Option Addr} (hgd : o.guard = none) (s x : Operand)
    (ho : o.op = .call { callee := .builtin .append, args := #[s, x], argTypes := #[t, t] })
    (HO : W.ownsRow base e sz v n xs) (hys : ys.length = m * sz) (hA : A = none → m = 0) (HR : ∀ ad, A = some ad → At W ad 0 ys) (HB : Below base w0 W) (ht : P.underlying t = some (.slice e)) (hinfo : (P.info? e).map (fun i => (i.zero, i.size, i.bytes)) = some (some z, sz, bytes)) (hzs : z.cells.size = sz) (hsz : 0 < sz)
    (hs : a.eval s = v) (hx : a.eval x = .slice A m c) (h1 : ∀ u ∈ ys, u.oneCell' = true)
    (hl : (n + m) * bytes ≤ 140737488355328) (h63 : n + m ≤ 9223372036854775807) (hbase : base ≤ W.heap.size)
    (h : ∀ v1 w1, w1.ownsRow base e sz v1 (n + m) (xs ++ ys) → Below base w0 w1 → W.grownBy w1 v.ownBlock → (v1.ownBlock = v.ownBlock ∨ v1.ownBlock = some W.heap.size) → wpList P ops Q rest (a.put o.dst v1) w1) :
    wpList P ops Q (o :: rest) a W := by
  obtain ⟨i0, hi, hzz⟩ := Option.map_eq_some_iff.1 hinfo
  simp only [Prod.mk.injEq] at hzz
  obtain ⟨hz0, hz1, hz2⟩ := hzz
  have hbase' : ∀ k, v.ownBlock = some k → base ≤ k := own_base HO
  have hrun : ∃ v1 w1, (Builtin.append_ #[t, t] o.type #[v, .slice A m c]).run P W = .ok v1 w1 ∧ w1.ownsRow base e sz v1 (n + m) (xs ++ ys) ∧ W.grownBy w1 v.ownBlock ∧ (v1.ownBlock = v.ownBlock ∨ v1.ownBlock = some W.heap.size) := by
    cases A with
    | none =>
      obtain rfl : m = 0 := hA rfl
      obtain rfl : ys = [] := List.eq_nil_of_length_eq_zero (by simpa using hys)
      refine ⟨v, W, ?_, by simpa using HO, ⟨rfl, rfl, rfl, Nat.le_refl _, fun _ _ _ => rfl⟩, .inl rfl⟩
      rcases HO.2 with ⟨rfl, hn⟩ | ⟨g, cap, cur, rfl, _, _, hnc, _⟩
      · subst hn
        simp [Builtin.append_, run_underlying ht, sizeOf, typeInfo, hi, Builtin.lenOf, Builtin.firstCells]
      · simp [Builtin.append_, run_underlying ht, sizeOf, typeInfo, hi, Builtin.lenOf, Builtin.firstCells, hnc, storeCells]
    | some ad =>
      obtain ⟨v1, w1, hr, h2, h3, _, h5⟩ := run_append_own_at (P := P) W base t o.type e i0 z sz bytes ht hi hz0 hz1 hz2 hzs hsz v n xs HO ad m c ys hys (fun j u hu => by have := HR ad rfl j u hu; rwa [Nat.zero_add] at this) h1 (by simp only [maxLen]; exact h63) hl hbase
      exact ⟨v1, w1, hr, h2, h3, h5⟩
  obtain ⟨v1, w1, hr, hown, hg, hat⟩ := hrun
  refine wpList_plain hgd fun K hK => ?_
  unfold Oper.wp execOp
  simp only [ho, resolve, invoke, builtin, Sem.run_bind, Sem.run_pure, Result.andThen_ok, List.map_toArray, List.map_cons, List.map_nil, hs, hx, hr]
  exact hK _ _ (h v1 w1 hown (HB.grown hg hbase (fun k hk => hbase' k hk)) hg hat)
/-- 'append(v, ys...)', v one's own, of data that are read: what they hold lies in blocks of one's own, other than v's. -/
theorem wp_appO {w0 W : World} {ok : Nat → Prop} {base m c bytes : Nat} {e t : TypeId} {S : Sh} {z v : Value} {l r : List S.Ty} {ys : List Value} {A : Option Addr} (hgd : o.guard = none) (s x : Operand)
    (ho : o.op = .call { callee := .builtin .append, args := #[s, x], argTypes := #[t, t] })
    (HO : OwnG W base ok e S v l) (hm : m = r.length) (hA : A = none → m = 0) (HR : ∀ ad, A = some ad → At W ad 0 ys) (HL : RdL W (fun k => ok k ∧ v.ownBlock ≠ some k) S r ys) (HB : Below base w0 W) (ht : P.underlying t = some (.slice e)) (hinfo : (P.info? e).map (fun i => (i.zero, i.size, i.bytes)) = some (some z, S.size, bytes)) (hzs : z.cells.size = S.size) (hsz : 0 < S.size)
    (hs : a.eval s = v) (hx : a.eval x = .slice A m c)
    (hl : (l.length + m) * bytes ≤ 140737488355328) (h63 : l.length + m ≤ 9223372036854775807) (hbase : base ≤ W.heap.size)
    (h : ∀ v1 w1, OwnG w1 base ok e S v1 (l ++ r) → Below base w0 w1 → W.grownBy w1 v.ownBlock → (v1.ownBlock = v.ownBlock ∨ v1.ownBlock = some W.heap.size) → wpList P ops Q rest (a.put o.dst v1) w1) :
    wpList P ops Q (o :: rest) a W := by
  obtain ⟨xs, ho', hr⟩ := HO
  have hlen := HL.len
  refine wp_appS (xs := xs) (ys := ys) (A := A) hgd s x ho ho' (by rw [hm]; exact hlen) hA HR HB ht hinfo hzs hsz hs hx HL.one hl h63 hbase ?_
  intro v1 w1 h1 h2 h3 h4
  have hc : ∀ (b : Addr) (u : Value), (ok b.block ∧ v.ownBlock ≠ some b.block) → W.cell? b = some u → w1.cell? b = some u := fun b u hk hu => cell_grown h3 hu (fun e => hk.2 e.symm)
  have hk : ∀ k, (ok k ∧ v.ownBlock ≠ some k) → k < W.heap.size → (ok k ∧ v1.ownBlock ≠ some k) := by
    intro k hk hlt
    refine ⟨hk.1, ?_⟩
    rcases h4 with h4 | h4
    · rw [h4]; exact hk.2
    · rw [h4]; intro e; injection e with e; omega
  exact h v1 w1 ⟨xs ++ ys, by rw [List.length_append, ← hm]; exact h1, (hr.of hc hk).append (HL.of hc hk)⟩ h2 h3 h4
end
/-! ### What came in -/
def fl (P : Program) (s : Sh) (t : TypeId) : Option (List Field) :=
  if s.chain then (match P.underlying t with | some (.struct fs) => if P.cellsOf t = s.size then some fs.toList else none | _ => none) else some []
def fitB (P : Program) : Sh → TypeId → List Field → Nat → Bool
  | .int k, t, _, _ => match P.underlying t with | some (.int k') => k' == k | _ => false
  | .bool, t, _, _ => match P.underlying t with | some .bool => true | _ => false
  | .f64, t, _, _ => match P.underlying t with | some (.float .f64) => true | _ => false
  | .str, t, _, _ => match P.underlying t with | some .string => true | _ => false
  | .byte, t, _, _ => match P.underlying t with | some (.int .u8) => true | _ => false
  | .sl e, t, _, _ => match P.underlying t with | some (.slice u) => P.cellsOf u == e.size && (match fl P e u with | some fs => fitB P e u fs 0 | none => false) | _ => false
  | .nil, _, fs, _ => fs.isEmpty
  | .cons a b, t, fs, o => match fs with | [] => false | f :: fs => f.offset == o && P.cellsOf f.type == a.size && (match fl P a f.type with | some gs => fitB P a f.type gs 0 | none => false) && b.chain && fitB P b t fs (o + a.size)
def fits (P : Program) (s : Sh) (t : TypeId) : Bool := match fl P s t with | some fs => fitB P s t fs 0 | none => false
theorem rd_list {α : Type} {Pr : Nat → α → Prop} : ∀ {n : Nat}, (∀ i, i < n → ∃ x, Pr i x) → ∃ l : List α, l.length = n ∧ ∀ i x, l[i]? = some x → Pr i x
  | 0, _ => ⟨[], rfl, fun i x h => by simp at h⟩
  | n + 1, h => by
    obtain ⟨l, hl, hp⟩ := rd_list (n := n) (fun i hi => h i (by omega))
    obtain ⟨x, hx⟩ := h n (by omega)
    refine ⟨l ++ [x], by simp [hl], fun i y hy => ?_⟩
    by_cases hi : i < l.length
    · rw [List.getElem?_append_left hi] at hy; exact hp i y hy
    · rw [List.getElem?_append_right (by omega)] at hy
      by_cases h0 : i - l.length = 0
      · rw [h0] at hy
        simp at hy
        subst hy
        rwa [show i = n from by omega]
      · rw [List.getElem?_eq_none (by simp; omega)] at hy; cases hy
section
variable {H : Type} {enc : TypeId × Value → H} {P : Program} {w : World} {base : Nat} {spare : Nat → Bool} {held : Bool}
theorem rd_f64 {t : TypeId} {fuel : Nat} {cs : List Value} {x : DataW H × List MemPlace} (ht : P.underlying t = some (.float .f64)) (h : DataW.trod enc P w base spare held fuel t cs = some x) : ∃ n, cs = [.float .f64 n] ∧ (Lit.float .f64 n).wf = true := by
  cases fuel with
  | zero => simp [DataW.trod] at h
  | succ n =>
    unfold DataW.trod at h
    rw [ht] at h
    split at h <;> simp_all
def Opn1 (enc : TypeId × Value → H) (P : Program) (w : World) (base : Nat) (spare : Nat → Bool) (held : Bool) (s : Sh) : Prop :=
  ∀ (t : TypeId) (fuel : Nat) (cs : List Value) (x : DataW H × List MemPlace), fits P s t = true → DataW.trod enc P w base spare held fuel t cs = some x → ∃ d, Rd w (fun k => base ≤ k) s d cs
def Opn2 (enc : TypeId × Value → H) (P : Program) (w : World) (base : Nat) (spare : Nat → Bool) (held : Bool) (s : Sh) : Prop :=
  ∀ (t : TypeId) (fs : List Field) (o n : Nat) (cs : List Value) (xs : List (DataW H × List MemPlace)), s.chain = true → fitB P s t fs o = true → xs.length = fs.length → cs.length = o + s.size →
    (∀ (i : Nat) (f : Field), fs[i]? = some f → DataW.trod enc P w base spare held n f.type ((cs.drop f.offset).take (P.cellsOf f.type)) = xs[i]?) → ∃ d, Rd w (fun k => base ≤ k) s d (cs.drop o)
theorem opn_struct {s : Sh} (hs : s.chain = true) (h2 : Opn2 enc P w base spare held s) : Opn1 enc P w base spare held s := by
  intro t fuel cs x hf h
  unfold fits fl at hf
  rw [if_pos hs] at hf
  split at hf
  next fs hfs =>
    split at hfs
    next gs hu =>
      split at hfs
      next hc =>
        injection hfs with hfs
        subst hfs
        obtain ⟨xs, n, _, _, hl, hxl, hg⟩ := DataW.trod_struct hu h
        have := h2 t gs.toList 0 n cs xs hs hf (by simpa using hxl) (by rw [hl, hc]; omega) (fun i f hif => hg i f (by simpa using hif))
        simpa using this
      · cases hfs
    · cases hfs
  · cases hf
theorem opn_both : ∀ s : Sh, Opn1 enc P w base spare held s ∧ Opn2 enc P w base spare held s
  | .int k => ⟨(fun t fuel cs x hf h => by
      simp only [fits, fl, Sh.chain, fitB, Bool.false_eq_true, if_false] at hf
      split at hf
      next k' hu =>
        obtain ⟨n, hcs, _, hw⟩ := DataW.trod_int hu h
        have : k' = k := by simpa using hf
        subst this
        exact ⟨n, hcs, hw⟩
      · cases hf), fun _ _ _ _ _ _ hs => by cases hs⟩
  | .bool => ⟨(fun t fuel cs x hf h => by
      simp only [fits, fl, Sh.chain, fitB, Bool.false_eq_true, if_false] at hf
      split at hf
      next hu =>
        obtain ⟨n, hcs, _⟩ := DataW.trod_bool hu h
        exact ⟨n, hcs⟩
      · cases hf), fun _ _ _ _ _ _ hs => by cases hs⟩
  | .f64 => ⟨(fun t fuel cs x hf h => by
      simp only [fits, fl, Sh.chain, fitB, Bool.false_eq_true, if_false] at hf
      split at hf
      next hu =>
        obtain ⟨n, hcs, hw⟩ := rd_f64 hu h
        have : n < 2 ^ 64 := by simpa [Lit.wf] using hw
        exact ⟨n, hcs, this⟩
      · cases hf), fun _ _ _ _ _ _ hs => by cases hs⟩
  | .str => ⟨(fun t fuel cs x hf h => by
      simp only [fits, fl, Sh.chain, fitB, Bool.false_eq_true, if_false] at hf
      split at hf
      next hu =>
        obtain ⟨n, hcs, _, hw⟩ := DataW.trod_string hu h
        simp only [maxLen] at hw
        exact ⟨n, hcs, by omega⟩
      · cases hf), fun _ _ _ _ _ _ hs => by cases hs⟩
  | .byte => ⟨(fun t fuel cs x hf h => by
      simp only [fits, fl, Sh.chain, fitB, Bool.false_eq_true, if_false] at hf
      split at hf
      next hu =>
        obtain ⟨n, hcs, _, hw⟩ := DataW.trod_int hu h
        have hw' : 0 ≤ n ∧ n ≤ 2 ^ 8 - 1 := by simpa [Lit.wf, IntKind.min, IntKind.max, IntKind.bits, IntKind.signed] using hw
        refine ⟨(UInt8.ofNat n.toNat : UInt8), ?_⟩
        show cs = [encB (UInt8.ofNat n.toNat)]
        rw [hcs]
        show [Value.int .u8 n] = [Value.int .u8 ((UInt8.ofNat n.toNat).toNat : Int)]
        rw [UInt8.toNat_ofNat', show ((n.toNat % 2 ^ 8 : Nat) : Int) = n by omega]
      · cases hf), fun _ _ _ _ _ _ hs => by cases hs⟩
  | .sl e => ⟨(fun t fuel cs x hf h => by
      have hf' : fitB P (.sl e) t [] 0 = true := hf
      unfold fitB at hf'
      split at hf'
      next u hu =>
        obtain ⟨hc, hfu⟩ := Bool.and_eq_true_iff.1 hf'
        have hc : P.cellsOf u = e.size := by simpa using hc
        rcases DataW.trod_slice hu h with ⟨hcs, _⟩ | ⟨a, len, cap, elems, rest, n, _, hcs, _, hba, hl, hm, hlen, hel, _, _⟩
        · exact ⟨([] : List e.Ty), none, 0, 0, hcs, by omega, by omega, fun _ => rfl, rfl, fun ad e => by cases e⟩
        · simp only [maxLen] at hm
          have each : ∀ i, i < len → ∃ y : e.Ty, ∃ cs', (cs' ≠ [] → base ≤ a.block) ∧ At w a (i * e.size) cs' ∧ Rd w (fun k => base ≤ k) e y cs' := by
            intro i hi
            have h1 := hel i hi
            obtain ⟨y, hy⟩ : ∃ y, elems[i]? = some y := ⟨elems[i]'(by omega), List.getElem?_eq_getElem (by omega)⟩
            rw [hy, hc, Option.bind_eq_some_iff] at h1
            obtain ⟨c1, hc1, hy1⟩ := h1
            obtain ⟨_, hl1, hat⟩ := World.cells?_some hc1
            obtain ⟨d, hd⟩ := (opn_both e).1 u n c1 y hfu hy1
            refine ⟨d, c1, fun _ => hba, fun j v hv => ?_, hd⟩
            have hj : j < e.size := by
              have := (List.getElem?_eq_some_iff.1 hv).1
              omega
            rw [← add_add, hat j hj, hv]
          obtain ⟨ps, hpl, hp⟩ := rd_list each
          refine ⟨(ps : List e.Ty), some a, len, cap, hcs, hl, by omega, (fun e => by cases e), hpl, ?_⟩
          intro ad e1 i y hy
          injection e1 with e1
          subst e1
          exact hp i y hy
      · cases hf'), fun _ _ _ _ _ _ hs => by cases hs⟩
  | .nil =>
      have h2 : Opn2 enc P w base spare held .nil := fun t fs o n cs xs _ _ _ hl _ => ⟨(), by
        show cs.drop o = []
        refine List.drop_eq_nil_of_le ?_
        have : (Sh.nil).size = 0 := rfl
        omega⟩
      ⟨opn_struct rfl h2, h2⟩
  | .cons a b =>
      have h2 : Opn2 enc P w base spare held (.cons a b) := by
        intro t fs o n cs xs _ hf hxl hl hg
        unfold fitB at hf
        match fs, xs, hxl with
        | [], _, _ => cases hf
        | f :: fs, [], hxl => simp at hxl
        | f :: fs, x :: xs, hxl =>
          simp only [Bool.and_eq_true] at hf
          obtain ⟨⟨⟨⟨ho, hc⟩, hfa⟩, hb⟩, hfb⟩ := hf
          have ho : f.offset = o := by simpa using ho
          have hc : P.cellsOf f.type = a.size := by simpa using hc
          have hsz : (Sh.cons a b).size = a.size + b.size := rfl
          have h0 := hg 0 f rfl
          rw [ho, hc] at h0
          obtain ⟨d, hd⟩ := (opn_both a).1 f.type n _ x hfa h0
          obtain ⟨d', hd'⟩ := (opn_both b).2 t fs (o + a.size) n cs xs hb hfb (by simpa using hxl) (by omega) (fun i g hi => hg (i + 1) g (by simpa using hi))
          refine ⟨(d, d'), (cs.drop o).take a.size, cs.drop (o + a.size), ?_, hd, hd'⟩
          rw [← List.drop_drop, List.take_append_drop]
      ⟨opn_struct rfl h2, h2⟩
theorem open_rd {s : Sh} {t : TypeId} {fuel : Nat} {cs : List Value} {x : DataW H × List MemPlace} (hf : fits P s t = true) (h : DataW.trod enc P w base spare held fuel t cs = some x) : ∃ d, Rd w (fun k => base ≤ k) s d cs := (opn_both s).1 t fuel cs x hf h
end
end Go.Proofs.Ytapoechkbbklfaa
