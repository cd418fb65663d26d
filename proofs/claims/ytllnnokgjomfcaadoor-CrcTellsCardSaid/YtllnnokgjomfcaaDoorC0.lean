/- Sums of 32 bits (CRC-32C), as functions of numbers and lists of bytes: the step by four bits is four steps by one; steps are linear and lose nothing. Plain Lean, no program. -/
namespace Go.Proofs.YtllnnokgjomfcaaDoor

/-- A step by a bit. -/
def bs (c : Nat) : Nat := c / 2 ^^^ (if c % 2 = 1 then 2197175160 else 0)
def bsN : Nat → Nat → Nat
  | 0, c => c
  | n + 1, c => bsN n (bs c)

theorem bs_lt {c : Nat} (h : c < 4294967296) : bs c < 4294967296 := by
  unfold bs
  have h1 : c / 2 < 2 ^ 32 := by omega
  have h2 : (if c % 2 = 1 then 2197175160 else 0) < 2 ^ 32 := by split <;> omega
  exact Nat.xor_lt_two_pow h1 h2
theorem bsN_lt (n : Nat) : ∀ {c : Nat}, c < 4294967296 → bsN n c < 4294967296 := by
  induction n with
  | zero => intro c h; exact h
  | succ n ih => intro c h; exact ih (bs_lt h)
theorem bsN_add (m n : Nat) : ∀ c : Nat, bsN (m + n) c = bsN n (bsN m c) := by
  induction m with
  | zero => intro c; rw [Nat.zero_add]; rfl
  | succ m ih => intro c; rw [Nat.succ_add]; exact ih (bs c)

theorem xor_half (a b : Nat) : (a ^^^ b) / 2 = a / 2 ^^^ b / 2 := Nat.xor_div_two
theorem xor_four (a b c d : Nat) : (a ^^^ b) ^^^ (c ^^^ d) = (a ^^^ c) ^^^ (b ^^^ d) := by
  rw [Nat.xor_assoc, Nat.xor_assoc, ← Nat.xor_assoc b c d, Nat.xor_comm b c, Nat.xor_assoc]
theorem bs_xor (a b : Nat) : bs (a ^^^ b) = bs a ^^^ bs b := by
  unfold bs
  rw [xor_half, xor_four]
  congr 1
  have h : (a ^^^ b) % 2 = a % 2 ^^^ b % 2 := by
    have := Nat.xor_mod_two_pow (a := a) (b := b) (n := 1); simpa using this
  rw [h]
  have ha : a % 2 = 0 ∨ a % 2 = 1 := by omega
  have hb : b % 2 = 0 ∨ b % 2 = 1 := by omega
  rcases ha with ha | ha <;> rcases hb with hb | hb <;> rw [ha, hb] <;> rfl
theorem bsN_xor (n : Nat) : ∀ a b : Nat, bsN n (a ^^^ b) = bsN n a ^^^ bsN n b := by
  induction n with
  | zero => intro a b; rfl
  | succ n ih => intro a b; show bsN n (bs (a ^^^ b)) = _; rw [bs_xor]; exact ih _ _
theorem bs_zero : bs 0 = 0 := by decide
theorem bsN_zero (n : Nat) : bsN n 0 = 0 := by
  induction n with
  | zero => rfl
  | succ n ih => show bsN n (bs 0) = 0; rw [bs_zero]; exact ih
theorem bs_double (x : Nat) : bs (2 * x) = x := by
  unfold bs
  rw [if_neg (by omega), Nat.xor_zero]; omega
theorem bsN_pow (n : Nat) : ∀ x : Nat, bsN n (2 ^ n * x) = x := by
  induction n with
  | zero => intro x; rw [Nat.pow_zero, Nat.one_mul]; rfl
  | succ n ih => intro x; show bsN n (bs (2 ^ (n + 1) * x)) = x; rw [Nat.pow_succ, Nat.mul_comm (2 ^ n), Nat.mul_assoc, bs_double]; exact ih x
theorem split_xor (n c : Nat) : 2 ^ n * (c / 2 ^ n) ^^^ c % 2 ^ n = c := by
  have h : c % 2 ^ n < 2 ^ n := Nat.mod_lt _ (Nat.two_pow_pos n)
  have h2 := Nat.two_pow_add_eq_or_of_lt h (c / 2 ^ n)
  rw [Nat.div_add_mod] at h2
  apply Nat.eq_of_testBit_eq
  intro i
  rw [Nat.testBit_xor, Nat.testBit_two_pow_mul, Nat.testBit_mod_two_pow, Nat.testBit_div_two_pow]
  by_cases hi : i < n
  · simp [hi, Nat.not_le.2 hi]
  · have : n ≤ i := by omega
    simp [hi, this, Nat.sub_add_cancel this]

/-- What four bits make. -/
def four : List Nat := [0, 274646895, 549293790, 820201905, 1098587580, 1361435347, 1640403810, 1905808397, 2197175160, 2460548119, 2722870694, 2987750089, 3280807620, 3553878443, 3811616794, 4084100981]
def nib (c : Nat) : Nat := c / 16 ^^^ four.getD (c % 16) 0

theorem four_eq : ∀ r, r < 16 → four.getD r 0 = bsN 4 r := by decide
theorem nib_eq (c : Nat) : nib c = bsN 4 c := by
  have h := split_xor 4 c
  have e : bsN 4 c = bsN 4 (2 ^ 4 * (c / 2 ^ 4)) ^^^ bsN 4 (c % 2 ^ 4) := by rw [← bsN_xor, h]
  rw [e, bsN_pow]
  unfold nib
  rw [four_eq _ (Nat.mod_lt _ (by omega))]

/-- A step by a byte. -/
def stepN (c b : Nat) : Nat := bsN 8 (c ^^^ b)
theorem step_nib (c b : Nat) : nib (nib (c ^^^ b)) = stepN c b := by
  rw [nib_eq, nib_eq]; exact (bsN_add 4 4 _).symm
theorem nib_lt {c : Nat} (h : c < 4294967296) : nib c < 4294967296 := by rw [nib_eq]; exact bsN_lt 4 h
theorem stepN_lt {c b : Nat} (h : c < 4294967296) (hb : b < 256) : stepN c b < 4294967296 :=
  bsN_lt 8 (Nat.xor_lt_two_pow (n := 32) h (by omega))
theorem stepN_xor (a b x y : Nat) : stepN (a ^^^ b) (x ^^^ y) = stepN a x ^^^ stepN b y := by
  unfold stepN; rw [xor_four, bsN_xor]

/-- Steps by each byte of a list. -/
def run (c : Nat) (l : List UInt8) : Nat := l.foldl (fun c b => stepN c b.toNat) c
theorem run_lt (l : List UInt8) : ∀ {c : Nat}, c < 4294967296 → run c l < 4294967296 := by
  induction l with
  | nil => intro c h; exact h
  | cons b l ih => intro c h; exact ih (stepN_lt h b.toNat_lt)
theorem run_append (c : Nat) (l m : List UInt8) : run c (l ++ m) = run (run c l) m := List.foldl_append
theorem run_snoc (c : Nat) (l : List UInt8) (b : UInt8) : run c (l ++ [b]) = stepN (run c l) b.toNat := by rw [run_append]; rfl

def turn (c : Nat) : Nat := c ^^^ 4294967295
theorem turn_turn (c : Nat) : turn (turn c) = c := by unfold turn; rw [Nat.xor_assoc, Nat.xor_self, Nat.xor_zero]
theorem turn_lt {c : Nat} (h : c < 4294967296) : turn c < 4294967296 := Nat.xor_lt_two_pow (n := 32) h (by omega)
/-- Going on from c over a list. -/
def upd (c : Nat) (l : List UInt8) : Nat := turn (run (turn c) l)
theorem upd_lt {c : Nat} (l : List UInt8) (h : c < 4294967296) : upd c l < 4294967296 := turn_lt (run_lt l (turn_lt h))
theorem upd_append (c : Nat) (l m : List UInt8) : upd c (l ++ m) = upd (upd c l) m := by unfold upd; rw [run_append, turn_turn]

/-- A step loses nothing. -/
theorem bs_inj {a b : Nat} (ha : a < 4294967296) (hb : b < 4294967296) (h : bs a = bs b) : a = b := by
  have h0 : bs (a ^^^ b) = 0 := by rw [bs_xor, h, Nat.xor_self]
  have hl : a ^^^ b < 4294967296 := Nat.xor_lt_two_pow (n := 32) ha hb
  have hz : a ^^^ b = 0 := by
    generalize a ^^^ b = x at *
    unfold bs at h0
    split at h0
    · rename_i h1
      have h2 : x / 2 = 2197175160 := by
        have : x / 2 ^^^ 2197175160 ^^^ 2197175160 = 0 ^^^ 2197175160 := by rw [h0]
        rw [Nat.xor_assoc, Nat.xor_self, Nat.xor_zero, Nat.zero_xor] at this; exact this
      omega
    · rw [Nat.xor_zero] at h0; omega
  have : a ^^^ b ^^^ b = 0 ^^^ b := by rw [hz]
  rwa [Nat.xor_assoc, Nat.xor_self, Nat.xor_zero, Nat.zero_xor] at this
theorem bsN_inj (n : Nat) : ∀ {a b : Nat}, a < 4294967296 → b < 4294967296 → bsN n a = bsN n b → a = b := by
  induction n with
  | zero => intro a b _ _ h; exact h
  | succ n ih => intro a b ha hb h; exact bs_inj ha hb (ih (bs_lt ha) (bs_lt hb) h)
theorem xor_right_inj {a b c : Nat} (h : a ^^^ c = b ^^^ c) : a = b := by
  have : a ^^^ c ^^^ c = b ^^^ c ^^^ c := by rw [h]
  rwa [Nat.xor_assoc, Nat.xor_self, Nat.xor_zero, Nat.xor_assoc, Nat.xor_self, Nat.xor_zero] at this
theorem stepN_inj {a b x : Nat} (ha : a < 4294967296) (hb : b < 4294967296) (hx : x < 256) (h : stepN a x = stepN b x) : a = b :=
  xor_right_inj (bsN_inj 8 (Nat.xor_lt_two_pow (n := 32) ha (by omega)) (Nat.xor_lt_two_pow (n := 32) hb (by omega)) h)
theorem run_inj (l : List UInt8) : ∀ {a b : Nat}, a < 4294967296 → b < 4294967296 → run a l = run b l → a = b := by
  induction l with
  | nil => intro a b _ _ h; exact h
  | cons x l ih => intro a b ha hb h; exact stepN_inj ha hb x.toNat_lt (ih (stepN_lt ha x.toNat_lt) (stepN_lt hb x.toNat_lt) h)
theorem turn_inj {a b : Nat} (h : turn a = turn b) : a = b := xor_right_inj h
theorem upd_inj (l : List UInt8) {a b : Nat} (ha : a < 4294967296) (hb : b < 4294967296) (h : upd a l = upd b l) : a = b :=
  turn_inj (run_inj l (turn_lt ha) (turn_lt hb) (turn_inj h))

/-- A byte 0 is a linear map. -/
def zeroN (c : Nat) : Nat := stepN c 0
def zerosN : Nat → Nat → Nat
  | 0, c => c
  | n + 1, c => zerosN n (zeroN c)
theorem zeroN_xor (a b : Nat) : zeroN (a ^^^ b) = zeroN a ^^^ zeroN b := by
  have := stepN_xor a b 0 0; rw [Nat.xor_self] at this; exact this
theorem zeroN_lt {c : Nat} (h : c < 4294967296) : zeroN c < 4294967296 := stepN_lt h (by omega)
theorem zerosN_xor (n : Nat) : ∀ a b : Nat, zerosN n (a ^^^ b) = zerosN n a ^^^ zerosN n b := by
  induction n with
  | zero => intro a b; rfl
  | succ n ih => intro a b; show zerosN n (zeroN (a ^^^ b)) = _; rw [zeroN_xor]; exact ih _ _
theorem zerosN_lt (n : Nat) : ∀ {c : Nat}, c < 4294967296 → zerosN n c < 4294967296 := by
  induction n with
  | zero => intro c h; exact h
  | succ n ih => intro c h; exact ih (zeroN_lt h)
theorem zerosN_add (m n : Nat) : ∀ c : Nat, zerosN (m + n) c = zerosN n (zerosN m c) := by
  induction m with
  | zero => intro c; rw [Nat.zero_add]; rfl
  | succ m ih => intro c; rw [Nat.succ_add]; exact ih _
theorem zerosN_zero (n : Nat) : zerosN n 0 = 0 := by
  have h := zerosN_xor n 0 0
  rw [Nat.xor_self, Nat.xor_self] at h
  exact h
theorem run_zeros (n : Nat) : ∀ c : Nat, run c (List.replicate n 0) = zerosN n c := by
  induction n with
  | zero => intro c; rfl
  | succ n ih => intro c; rw [List.replicate_succ]; exact ih _

/-- Two runs over one list, from two numbers: what parts them goes as over bytes 0. -/
theorem run_apart (l : List UInt8) : ∀ a b : Nat, run a l ^^^ run b l = zerosN l.length (a ^^^ b) := by
  induction l with
  | nil => intro a b; rfl
  | cons x l ih =>
    intro a b
    show run (stepN a x.toNat) l ^^^ run (stepN b x.toNat) l = _
    rw [ih, ← stepN_xor, Nat.xor_self]; rfl

/-- Join of two numbers over n bytes. -/
def joinN (a b n : Nat) : Nat := zerosN n a ^^^ b
/-- The document's: Update of a by n bytes 0, with b, and with the sum of n bytes 0. -/
theorem join_ref (a b n : Nat) : upd a (List.replicate n 0) ^^^ b ^^^ upd 0 (List.replicate n 0) = joinN a b n := by
  have h := run_apart (List.replicate n 0) (turn a) (turn 0)
  rw [List.length_replicate] at h
  have e : turn a ^^^ turn 0 = a := by
    unfold turn
    rw [Nat.zero_xor, Nat.xor_assoc, Nat.xor_self, Nat.xor_zero]
  rw [e] at h
  unfold upd joinN
  rw [← h]
  unfold turn
  generalize run (a ^^^ 4294967295) (List.replicate n 0) = x
  generalize run (0 ^^^ 4294967295) (List.replicate n 0) = y
  have e2 : x ^^^ 4294967295 ^^^ b ^^^ (y ^^^ 4294967295) = x ^^^ y ^^^ b ^^^ (4294967295 ^^^ 4294967295) := by ac_rfl
  rw [e2, Nat.xor_self, Nat.xor_zero]
/-- Join of the sums of two texts is that of both. -/
theorem join_sums (l m : List UInt8) : joinN (upd 0 l) (upd 0 m) m.length = upd 0 (l ++ m) := by
  rw [upd_append]
  unfold joinN
  generalize upd 0 l = a
  have h := run_apart m (turn a) (turn 0)
  have e : turn a ^^^ turn 0 = a := by
    unfold turn
    rw [Nat.zero_xor, Nat.xor_assoc, Nat.xor_self, Nat.xor_zero]
  rw [e] at h
  rw [← h]
  unfold upd
  unfold turn
  generalize run (a ^^^ 4294967295) m = x
  generalize run (0 ^^^ 4294967295) m = y
  have e2 : x ^^^ y ^^^ (y ^^^ 4294967295) = x ^^^ 4294967295 ^^^ (y ^^^ y) := by ac_rfl
  rw [e2, Nat.xor_self, Nat.xor_zero]
end Go.Proofs.YtllnnokgjomfcaaDoor
