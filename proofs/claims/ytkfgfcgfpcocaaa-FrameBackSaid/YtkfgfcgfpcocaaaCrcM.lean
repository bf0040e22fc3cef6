-- pure CRC maths over BitVec 32
namespace CrcM
abbrev B := BitVec 32
def poly : B := 0x04c11db7#32
def rnd (c : B) : B := (c <<< 1) ^^^ (if c.msb then poly else 0#32)
theorem rnd_xor (a b : B) : rnd (a ^^^ b) = rnd a ^^^ rnd b := by
  unfold rnd
  rw [BitVec.shiftLeft_xor_distrib, BitVec.msb_xor]
  cases a.msb <;> cases b.msb <;> simp
  · ac_rfl
  · ac_rfl
  · rw [show a <<< 1 ^^^ poly ^^^ (b <<< 1 ^^^ poly) = (a <<< 1 ^^^ b <<< 1) ^^^ (poly ^^^ poly) from by ac_rfl, BitVec.xor_self, BitVec.xor_zero]
theorem rnd_zero : rnd 0#32 = 0#32 := by decide
theorem rnd_ne (a : B) (h : rnd a = 0#32) : a = 0#32 := by
  unfold rnd at h
  have h0 : ((a <<< 1) ^^^ (if a.msb then poly else 0#32)).getLsbD 0 = false := by rw [h]; rfl
  cases hm : a.msb with
  | true => rw [hm] at h0; simp [poly] at h0
  | false =>
    rw [hm] at h
    simp at h
    apply BitVec.eq_of_getLsbD_eq
    intro i hi
    rcases Nat.lt_or_ge i 31 with h31 | h31
    · have := congrArg (fun v : B => v.getLsbD (i + 1)) h
      simp at this
      have := this (by omega)
      simpa using this
    · obtain rfl : i = 31 := by omega
      rw [BitVec.msb_eq_getLsbD_last] at hm
      simpa using hm
theorem rnd_inj (a b : B) (h : rnd a = rnd b) : a = b := by
  have : rnd (a ^^^ b) = 0#32 := by rw [rnd_xor, h, BitVec.xor_self]
  have := rnd_ne _ this
  exact BitVec.xor_eq_zero_iff.1 this
def it : Nat → B → B
  | 0, c => c
  | k + 1, c => it k (rnd c)
theorem it_inj : ∀ (k : Nat) (a b : B), it k a = it k b → a = b
  | 0, _, _, h => h
  | k + 1, _, _, h => rnd_inj _ _ (it_inj k _ _ h)
theorem it_succ : ∀ (k : Nat) (c : B), it (k + 1) c = rnd (it k c)
  | 0, _ => rfl
  | k + 1, c => it_succ k (rnd c)
/-- A byte in the highest eight bits. -/
def up (x : UInt8) : B := BitVec.ofNat 32 (x.toNat * 16777216)
theorem up_inj (x y : UInt8) (h : up x = up y) : x = y := by
  unfold up at h
  have h1 := congrArg BitVec.toNat h
  rw [BitVec.toNat_ofNat, BitVec.toNat_ofNat] at h1
  have := x.toNat_lt
  have := y.toNat_lt
  apply UInt8.toNat_inj.1
  omega
/-- Step. -/
def step (c : B) (x : UInt8) : B := it 8 (c ^^^ up x)
theorem step_inj_l (a b : B) (x : UInt8) (h : step a x = step b x) : a = b := by
  have := it_inj _ _ _ h
  exact (BitVec.xor_left_inj _).1 this
theorem step_inj_r (c : B) (x y : UInt8) (h : step c x = step c y) : x = y := by
  have := it_inj _ _ _ h
  exact up_inj _ _ ((BitVec.xor_right_inj _).1 this)
/-- More, Sum. -/
def more (c : B) (l : List UInt8) : B := l.foldl step c
def sum (l : List UInt8) : B := more (BitVec.allOnes 32) l
theorem more_append (c : B) (a b : List UInt8) : more c (a ++ b) = more (more c a) b := List.foldl_append
theorem more_inj : ∀ (l : List UInt8) (a b : B), more a l = more b l → a = b
  | [], _, _, h => h
  | x :: l, _, _, h => step_inj_l _ _ x (more_inj l _ _ h)
/-- Lists that are unlike at one place alone have unlike sums. -/
theorem more_set (c : B) (l : List UInt8) (i : Nat) (hi : i < l.length) (y : UInt8) (h : more c (l.set i y) = more c l) : y = l[i] := by
  induction l generalizing c i with
  | nil => simp at hi
  | cons x l ih =>
    cases i with
    | zero =>
      have := more_inj l _ _ h
      exact step_inj_r c _ _ this
    | succ i => exact ih (step c x) i (by simpa using hi) h
/-! ### Bit by bit, as the document has it -/
def rbit (c : B) (b : Bool) : B := (c <<< 1) ^^^ (if (b ^^ c.msb) then poly else 0#32)
theorem rbit_rnd (c y : B) : rnd (c ^^^ y) = rbit c y.msb ^^^ (y <<< 1) := by
  unfold rnd rbit
  rw [BitVec.shiftLeft_xor_distrib, BitVec.msb_xor, Bool.xor_comm]
  ac_rfl
def rIt (x : UInt8) : Nat → B → B
  | 0, c => c
  | k + 1, c => rbit (rIt x k c) (x.toNat.testBit (7 - k))
theorem up_msb (x : UInt8) (k : Nat) (hk : k < 8) : (up x <<< k).msb = x.toNat.testBit (7 - k) := by
  rw [BitVec.msb_eq_getLsbD_last, BitVec.getLsbD_shiftLeft]
  have h1 : decide (32 - 1 < 32) = true := rfl
  have h2 : decide (32 - 1 < k) = false := decide_eq_false (by omega)
  rw [h1, h2]
  simp only [Bool.not_false, Bool.true_and]
  unfold up
  rw [BitVec.getLsbD_ofNat]
  have h3 : decide (32 - 1 - k < 32) = true := decide_eq_true (by omega)
  rw [h3, Bool.true_and, show (16777216 : Nat) = 2 ^ 24 from rfl, Nat.testBit_mul_two_pow]
  have h4 : decide (32 - 1 - k ≥ 24) = true := decide_eq_true (by omega)
  rw [h4, Bool.true_and]
  congr 1
  omega
theorem it_rIt (c : B) (x : UInt8) : ∀ k, k ≤ 8 → it k (c ^^^ up x) = rIt x k c ^^^ (up x <<< k)
  | 0, _ => by simp [it, rIt]
  | k + 1, h => by
    rw [it_succ, it_rIt c x k (by omega), rbit_rnd, up_msb x k (by omega)]
    show _ = rbit (rIt x k c) (x.toNat.testBit (7 - k)) ^^^ _
    rw [← BitVec.shiftLeft_add]
theorem step_rIt (c : B) (x : UInt8) : step c x = rIt x 8 c := by
  unfold step
  rw [it_rIt c x 8 (Nat.le_refl _)]
  have : up x <<< 8 = 0#32 := by
    unfold up
    apply BitVec.eq_of_toNat_eq
    rw [BitVec.toNat_shiftLeft, BitVec.toNat_ofNat, Nat.shiftLeft_eq, BitVec.toNat_ofNat]
    omega
  rw [this, BitVec.xor_zero]
end CrcM
