/- Parts of the proofs of the statements of this seat: AmTieMask, MaskPop, MaskBit, MaskW, MaskLow, MaskW2, MaskW3, MaskRank, MaskW4, MaskW5, MaskRun, MaskW6. No conditions. -/
import Derived.Test.YtmkoplmgefaheaaDoorRows
import Derived.Test.YtmkoplmgefaheaaDoorPart3
set_option linter.unusedVariables false
set_option linter.unusedSimpArgs false

/- The table of the layer mask is as the program has it. Printed by lawgen.py. -/
namespace Go.Am
open Go.Proofs
set_option maxRecDepth 100000

theorem hmix : Tryd.prog.follows .mixedOrders = true := by kernel_rfl
theorem E.law04_MaskRounds : EntOk Tryd.prog G F.law04_MaskRounds (.rc RC.law04_MaskRounds) := ⟨Tryd.f3, by unfold F.law04_MaskRounds; exact Tryd.func3, by kernel_rfl, by kernel_rfl⟩
theorem E.law04_MaskRuns : EntOk Tryd.prog G F.law04_MaskRuns (.rc RC.law04_MaskRuns) := ⟨Tryd.f4, by unfold F.law04_MaskRuns; exact Tryd.func4, by kernel_rfl, by kernel_rfl⟩
theorem E.law04_MaskApart : EntOk Tryd.prog G F.law04_MaskApart (.rc RC.law04_MaskApart) := ⟨Tryd.f5, by unfold F.law04_MaskApart; exact Tryd.func5, by kernel_rfl, by kernel_rfl⟩
theorem E.law04_MaskSets : EntOk Tryd.prog G F.law04_MaskSets (.rc RC.law04_MaskSets) := ⟨Tryd.f6, by unfold F.law04_MaskSets; exact Tryd.func6, by kernel_rfl, by kernel_rfl⟩
theorem E.law04_MaskEnds : EntOk Tryd.prog G F.law04_MaskEnds (.rc RC.law04_MaskEnds) := ⟨Tryd.f7, by unfold F.law04_MaskEnds; exact Tryd.func7, by kernel_rfl, by kernel_rfl⟩
theorem E.mask_Round : EntOk Tryd.prog G F.mask_Round (.rc RC.mask_Round) := ⟨Tryd.f8, by unfold F.mask_Round; exact Tryd.func8, by kernel_rfl, by kernel_rfl⟩
theorem E.ref04_Round : EntOk Tryd.prog G F.ref04_Round (.rc RC.ref04_Round) := ⟨Tryd.f9, by unfold F.ref04_Round; exact Tryd.func9, by kernel_rfl, by kernel_rfl⟩
theorem E.mask_Turn : EntOk Tryd.prog G F.mask_Turn (.rc RC.mask_Turn) := ⟨Tryd.f10, by unfold F.mask_Turn; exact Tryd.func10, by kernel_rfl, by kernel_rfl⟩
theorem E.ref04_Turn : EntOk Tryd.prog G F.ref04_Turn (.rc RC.ref04_Turn) := ⟨Tryd.f11, by unfold F.ref04_Turn; exact Tryd.func11, by kernel_rfl, by kernel_rfl⟩
theorem E.law04_awake : EntOk Tryd.prog G F.law04_awake (.rc RC.law04_awake) := ⟨Tryd.f12, by unfold F.law04_awake; exact Tryd.func12, by kernel_rfl, by kernel_rfl⟩
theorem E.mask_Runs : EntOk Tryd.prog G F.mask_Runs (.rc RC.mask_Runs) := ⟨Tryd.f13, by unfold F.mask_Runs; exact Tryd.func13, by kernel_rfl, by kernel_rfl⟩
theorem E.ref04_Runs : EntOk Tryd.prog G F.ref04_Runs (.rc RC.ref04_Runs) := ⟨Tryd.f14, by unfold F.ref04_Runs; exact Tryd.func14, by kernel_rfl, by kernel_rfl⟩
theorem E.ref04_With : EntOk Tryd.prog G F.ref04_With (.rc RC.ref04_With) := ⟨Tryd.f15, by unfold F.ref04_With; exact Tryd.func15, by kernel_rfl, by kernel_rfl⟩
theorem E.mask_Count : EntOk Tryd.prog G F.mask_Count (.rc RC.mask_Count) := ⟨Tryd.f16, by unfold F.mask_Count; exact Tryd.func16, by kernel_rfl, by kernel_rfl⟩
theorem E.mask_All : EntOk Tryd.prog G F.mask_All (.rc RC.mask_All) := ⟨Tryd.f17, by unfold F.mask_All; exact Tryd.func17, by kernel_rfl, by kernel_rfl⟩
theorem E.ref04_All : EntOk Tryd.prog G F.ref04_All (.rc RC.ref04_All) := ⟨Tryd.f18, by unfold F.ref04_All; exact Tryd.func18, by kernel_rfl, by kernel_rfl⟩
theorem E.mask_Has : EntOk Tryd.prog G F.mask_Has (.rc RC.mask_Has) := ⟨Tryd.f19, by unfold F.mask_Has; exact Tryd.func19, by kernel_rfl, by kernel_rfl⟩
theorem E.ref04_Has : EntOk Tryd.prog G F.ref04_Has (.rc RC.ref04_Has) := ⟨Tryd.f20, by unfold F.ref04_Has; exact Tryd.func20, by kernel_rfl, by kernel_rfl⟩
theorem E.ref04_Count : EntOk Tryd.prog G F.ref04_Count (.rc RC.ref04_Count) := ⟨Tryd.f21, by unfold F.ref04_Count; exact Tryd.func21, by kernel_rfl, by kernel_rfl⟩
theorem E.ref03_Same : EntOk Tryd.prog G F.ref03_Same (.rc RC.ref03_Same) := ⟨Tryd.f22, by unfold F.ref03_Same; exact Tryd.func22, by kernel_rfl, by kernel_rfl⟩
theorem E.mask_Ticks : EntOk Tryd.prog G F.mask_Ticks (.rc RC.mask_Ticks) := ⟨Tryd.f23, by unfold F.mask_Ticks; exact Tryd.func23, by kernel_rfl, by kernel_rfl⟩
theorem E.ref04_Ticks : EntOk Tryd.prog G F.ref04_Ticks (.rc RC.ref04_Ticks) := ⟨Tryd.f24, by unfold F.ref04_Ticks; exact Tryd.func24, by kernel_rfl, by kernel_rfl⟩
theorem E.mask_Of : EntOk Tryd.prog G F.mask_Of (.rc RC.mask_Of) := ⟨Tryd.f25, by unfold F.mask_Of; exact Tryd.func25, by kernel_rfl, by kernel_rfl⟩
theorem E.ref04_Of : EntOk Tryd.prog G F.ref04_Of (.rc RC.ref04_Of) := ⟨Tryd.f26, by unfold F.ref04_Of; exact Tryd.func26, by kernel_rfl, by kernel_rfl⟩
theorem E.mask_Next : EntOk Tryd.prog G F.mask_Next (.rc RC.mask_Next) := ⟨Tryd.f27, by unfold F.mask_Next; exact Tryd.func27, by kernel_rfl, by kernel_rfl⟩
theorem E.ref04_Next : EntOk Tryd.prog G F.ref04_Next (.rc RC.ref04_Next) := ⟨Tryd.f28, by unfold F.ref04_Next; exact Tryd.func28, by kernel_rfl, by kernel_rfl⟩
theorem E.mask_Lowest : EntOk Tryd.prog G F.mask_Lowest (.rc RC.mask_Lowest) := ⟨Tryd.f29, by unfold F.mask_Lowest; exact Tryd.func29, by kernel_rfl, by kernel_rfl⟩
theorem E.ref04_Lowest : EntOk Tryd.prog G F.ref04_Lowest (.rc RC.ref04_Lowest) := ⟨Tryd.f30, by unfold F.ref04_Lowest; exact Tryd.func30, by kernel_rfl, by kernel_rfl⟩
theorem E.mask_Highest : EntOk Tryd.prog G F.mask_Highest (.rc RC.mask_Highest) := ⟨Tryd.f31, by unfold F.mask_Highest; exact Tryd.func31, by kernel_rfl, by kernel_rfl⟩
theorem E.ref04_Highest : EntOk Tryd.prog G F.ref04_Highest (.rc RC.ref04_Highest) := ⟨Tryd.f32, by unfold F.ref04_Highest; exact Tryd.func32, by kernel_rfl, by kernel_rfl⟩
theorem E.mask_frame : EntOk Tryd.prog G F.mask_frame (.rc RC.mask_frame) := ⟨Tryd.f33, by unfold F.mask_frame; exact Tryd.func33, by kernel_rfl, by kernel_rfl⟩
theorem E.ref04_Frame : EntOk Tryd.prog G F.ref04_Frame (.rc RC.ref04_Frame) := ⟨Tryd.f34, by unfold F.ref04_Frame; exact Tryd.func34, by kernel_rfl, by kernel_rfl⟩
theorem E.ref04_Later : EntOk Tryd.prog G F.ref04_Later (.rc RC.ref04_Later) := ⟨Tryd.f35, by unfold F.ref04_Later; exact Tryd.func35, by kernel_rfl, by kernel_rfl⟩
theorem E.mask_place : EntOk Tryd.prog G F.mask_place (.rc RC.mask_place) := ⟨Tryd.f36, by unfold F.mask_place; exact Tryd.func36, by kernel_rfl, by kernel_rfl⟩
theorem E.math_bits_OnesCount64 : EntOk Tryd.prog G F.math_bits_OnesCount64 (.rc RC.math_bits_OnesCount64) := ⟨Tryd.f37, by unfold F.math_bits_OnesCount64; exact Tryd.func37, by kernel_rfl, by kernel_rfl⟩
theorem E.math_bits_TrailingZeros64 : EntOk Tryd.prog G F.math_bits_TrailingZeros64 (.ext X.tz) := ⟨⟨Tryd.f38, by unfold F.math_bits_TrailingZeros64; exact Tryd.func38, by kernel_rfl, by kernel_rfl⟩, X.tz_frame, by unfold F.math_bits_TrailingZeros64; exact X.tz_sim⟩
theorem ents : EntsOk Tryd.prog G tab0 := ⟨E.law04_MaskRounds, E.law04_MaskRuns, E.law04_MaskApart, E.law04_MaskSets, E.law04_MaskEnds, E.mask_Round, E.ref04_Round, E.mask_Turn, E.ref04_Turn, E.law04_awake, E.mask_Runs, E.ref04_Runs, E.ref04_With, E.mask_Count, E.mask_All, E.ref04_All, E.mask_Has, E.ref04_Has, E.ref04_Count, E.ref03_Same, E.mask_Ticks, E.ref04_Ticks, E.mask_Of, E.ref04_Of, E.mask_Next, E.ref04_Next, E.mask_Lowest, E.ref04_Lowest, E.mask_Highest, E.ref04_Highest, E.mask_frame, E.ref04_Frame, E.ref04_Later, E.mask_place, E.math_bits_OnesCount64, E.math_bits_TrailingZeros64, trivial⟩
theorem tabOk0 : TabOk Tryd.prog G R0 := TabOk.of ents
theorem C.law04_awake : EntOk Tryd.prog G F.law04_awake (.ext X.ok) := X.ok_sim (const_sim hmix tabOk0 (n := 1000) (by kernel_rfl))
theorem tabOk : TabOk Tryd.prog G R := TabOk.of (l := tab) (⟨C.law04_awake, ents⟩)
end Go.Am


/- Counting the bits of a word by halves, as math/bits does: what it comes to. -/
namespace Go.Am

/-- How many of the first n bits are set. -/
def popN : Nat → Nat → Nat
  | 0, _ => 0
  | n + 1, x => x % 2 + popN n (x / 2)

theorem and_split (a b : Nat) : a &&& b = ((a % 256) &&& (b % 256)) + 256 * ((a / 256) &&& (b / 256)) := by
  have h1 : (a &&& b) % 256 = (a % 256) &&& (b % 256) := by
    have := Nat.and_mod_two_pow (a := a) (b := b) (n := 8)
    simpa using this
  have h2 : (a &&& b) / 256 = (a / 256) &&& (b / 256) := by
    have := Nat.and_div_two_pow (a := a) (b := b) (n := 8)
    simpa using this
  rw [← h1, ← h2]; omega

def rep (m : Nat) : Nat → Nat
  | 0 => 0
  | n + 1 => m + 256 * rep m n

def halves (s m n x : Nat) : Nat := ((x / 2 ^ s) &&& rep m n) + (x &&& rep m n)

theorem halves_step {s m n d x : Nat} (hd : d < 256) (hm : m < 256) (hs : s < 8) (hlow : ∀ c, c < 2 ^ s → ∀ d, d < 256 → ((d / 2 ^ s + 2 ^ (8 - s) * c) &&& m) = (d / 2 ^ s) &&& m) :
    halves s m (n + 1) (d + 256 * x) = halves s m 1 d + 256 * halves s m n x := by
  have e256 : (256 : Nat) = 2 ^ s * 2 ^ (8 - s) := by rw [← Nat.pow_add, show s + (8 - s) = 8 by omega]
  have hp : 0 < 2 ^ s := Nat.pow_pos (by omega)
  have hq : 0 < 2 ^ (8 - s) := Nat.pow_pos (by omega)
  have hdq : d / 2 ^ s < 2 ^ (8 - s) := by
    rw [Nat.div_lt_iff_lt_mul hp, Nat.mul_comm, ← e256]; exact hd
  have hdiv : (d + 256 * x) / 2 ^ s = (d / 2 ^ s + 2 ^ (8 - s) * (x % 2 ^ s)) + 256 * (x / 2 ^ s) := by
    have hx : x = x % 2 ^ s + 2 ^ s * (x / 2 ^ s) := (Nat.mod_add_div x (2 ^ s)).symm
    have : d + 256 * x = d + 2 ^ s * (2 ^ (8 - s) * x) := by rw [← Nat.mul_assoc, ← e256]
    rw [this, Nat.add_mul_div_left _ _ hp]
    conv => lhs; rw [hx]
    rw [Nat.mul_add, ← Nat.mul_assoc, Nat.mul_comm (2 ^ (8 - s)) (2 ^ s), ← e256]; omega
  have hlo : d / 2 ^ s + 2 ^ (8 - s) * (x % 2 ^ s) < 256 := by
    have : x % 2 ^ s < 2 ^ s := Nat.mod_lt _ hp
    have h2 : 2 ^ (8 - s) * (x % 2 ^ s) + 2 ^ (8 - s) ≤ 256 := by
      rw [e256, Nat.mul_comm (2 ^ s), ← Nat.mul_succ]; exact Nat.mul_le_mul_left _ this
    omega
  unfold halves
  simp only [rep, Nat.mul_zero, Nat.add_zero]
  rw [hdiv, and_split (_ + 256 * (x / 2 ^ s)), and_split (d + 256 * x)]
  rw [Nat.add_mul_mod_self_left, Nat.add_mul_mod_self_left, Nat.mod_eq_of_lt hlo, Nat.mod_eq_of_lt hm, Nat.add_mul_mod_self_left, Nat.mod_eq_of_lt hd]
  rw [Nat.add_mul_div_left _ _ (by omega), Nat.add_mul_div_left _ _ (by omega), Nat.add_mul_div_left _ _ (by omega), Nat.div_eq_of_lt hlo, Nat.div_eq_of_lt hm, Nat.div_eq_of_lt hd]
  simp only [Nat.zero_add]
  rw [hlow _ (Nat.mod_lt _ hp) _ hd]
  omega

/-- The third step: one sum, then the mask. -/
def thirds (n x : Nat) : Nat := (x / 16 + x) &&& rep 15 n

theorem thirds_step {n d x : Nat} (hd : d % 16 ≤ 4 ∧ d / 16 ≤ 4) (hx : x % 16 ≤ 4) : thirds (n + 1) (d + 256 * x) = (d / 16 + d % 16) + 256 * thirds n x := by
  unfold thirds
  simp only [rep]
  have h1 : (d + 256 * x) / 16 + (d + 256 * x) = (d / 16 + 16 * (x % 16) + d) + 256 * (x / 16 + x) := by omega
  have h2 : d / 16 + 16 * (x % 16) + d < 256 := by omega
  rw [h1, and_split, Nat.add_mul_mod_self_left, Nat.mod_eq_of_lt h2, Nat.add_mul_div_left _ _ (by omega), Nat.div_eq_of_lt h2]
  rw [show (15 + 256 * rep 15 n) % 256 = 15 by omega, show (15 + 256 * rep 15 n) / 256 = rep 15 n by omega]
  have h3 : (d / 16 + 16 * (x % 16) + d) &&& 15 = (d / 16 + 16 * (x % 16) + d) % 16 := Nat.and_two_pow_sub_one_eq_mod _ 4
  rw [h3, Nat.zero_add]
  omega

/-- The bytes of a number, each counted. -/
def counted : Nat → Nat → Nat
  | 0, _ => 0
  | n + 1, x => popN 8 (x % 256) + 256 * counted n (x / 256)

theorem byte_fact : ∀ d, d < 256 → halves 2 51 1 (halves 1 85 1 d) / 16 + halves 2 51 1 (halves 1 85 1 d) % 16 = popN 8 d ∧ halves 1 85 1 d < 256 ∧
    halves 2 51 1 (halves 1 85 1 d) < 256 ∧ halves 2 51 1 (halves 1 85 1 d) % 16 ≤ 4 ∧ halves 2 51 1 (halves 1 85 1 d) / 16 ≤ 4 := by decide +kernel

theorem low1 : ∀ c, c < 2 ^ 1 → ∀ d, d < 256 → ((d / 2 ^ 1 + 2 ^ (8 - 1) * c) &&& 85) = (d / 2 ^ 1) &&& 85 := by decide +kernel
theorem low2 : ∀ c, c < 2 ^ 2 → ∀ d, d < 256 → ((d / 2 ^ 2 + 2 ^ (8 - 2) * c) &&& 51) = (d / 2 ^ 2) &&& 51 := by decide +kernel

theorem bytes_all : ∀ (n x : Nat), thirds n (halves 2 51 n (halves 1 85 n x)) = counted n x ∧ (0 < n → halves 2 51 n (halves 1 85 n x) % 16 ≤ 4)
  | 0, x => by simp [thirds, halves, rep, counted]
  | n + 1, x => by
    have hd : x % 256 < 256 := Nat.mod_lt _ (by omega)
    obtain ⟨f1, f2, f3, f4, f5⟩ := byte_fact _ hd
    have hx : x = x % 256 + 256 * (x / 256) := by omega
    obtain ⟨i1, i2⟩ := bytes_all n (x / 256)
    have h1 := halves_step (s := 1) (m := 85) (n := n) (x := x / 256) hd (by omega) (by omega) low1
    have h2 := halves_step (s := 2) (m := 51) (n := n) (x := halves 1 85 n (x / 256)) f2 (by omega) (by omega) low2
    rw [← hx] at h1
    rw [h1, h2]
    have hm : halves 2 51 n (halves 1 85 n (x / 256)) % 16 ≤ 4 := by
      cases n with
      | zero => simp [halves, rep]
      | succ n => exact i2 (by omega)
    refine ⟨?_, fun _ => by omega⟩
    rw [thirds_step ⟨f4, f5⟩ hm, i1, f1]
    rfl

theorem popN_le : ∀ (n x : Nat), popN n x ≤ n
  | 0, _ => Nat.le_refl _
  | n + 1, x => by have := popN_le n (x / 2); simp only [popN]; omega

theorem popN_add : ∀ (a b x : Nat), popN (a + b) x = popN a x + popN b (x / 2 ^ a)
  | 0, b, x => by simp [popN]
  | a + 1, b, x => by
    rw [show a + 1 + b = (a + b) + 1 by omega]
    simp only [popN]
    rw [popN_add a b (x / 2), Nat.div_div_eq_div_mul, Nat.pow_succ, Nat.mul_comm 2]
    omega

theorem popN_mod : ∀ (n x : Nat), popN n (x % 2 ^ n) = popN n x
  | 0, _ => rfl
  | n + 1, x => by
    simp only [popN]
    have h1 : x % 2 ^ (n + 1) % 2 = x % 2 := Nat.mod_mod_of_dvd _ ⟨2 ^ n, by rw [Nat.pow_succ, Nat.mul_comm]⟩
    have h2 : x % 2 ^ (n + 1) / 2 = x / 2 % 2 ^ n := by rw [Nat.pow_succ, Nat.mul_comm, Nat.mod_mul_right_div_self]
    rw [h1, h2, popN_mod n]

theorem pop_bytes (x : Nat) : popN 64 x = popN 8 (x % 256) + (popN 8 (x / 256 % 256) + (popN 8 (x / 65536 % 256) + (popN 8 (x / 16777216 % 256) + (popN 8 (x / 4294967296 % 256) + (popN 8 (x / 1099511627776 % 256) + (popN 8 (x / 281474976710656 % 256) + popN 8 (x / 72057594037927936 % 256))))))) := by
  have m : ∀ y, popN 8 (y % 256) = popN 8 y := fun y => popN_mod 8 y
  rw [m, m, m, m, m, m, m, m]
  have h (b y : Nat) : popN (8 + b) y = popN 8 y + popN b (y / 256) := popN_add 8 b y
  have h1 := h 56 x
  have h2 := h 48 (x / 256)
  have h3 := h 40 (x / 65536)
  have h4 := h 32 (x / 16777216)
  have h5 := h 24 (x / 4294967296)
  have h6 := h 16 (x / 1099511627776)
  have h7 := h 8 (x / 281474976710656)
  rw [Nat.div_div_eq_div_mul] at h2 h3 h4 h5 h6 h7
  rw [h1, h2, h3, h4, h5, h6, h7]

theorem sum_nums {c0 c1 c2 c3 c4 c5 c6 c7 y1 y2 : Nat} (p0 : c0 ≤ 8) (p1 : c1 ≤ 8) (p2 : c2 ≤ 8) (p3 : c3 ≤ 8) (p4 : c4 ≤ 8) (p5 : c5 ≤ 8) (p6 : c6 ≤ 8) (p7 : c7 ≤ 8)
    (h1 : y1 = (c0 + 256 * c1 + 65536 * c2 + 16777216 * c3 + 4294967296 * c4 + 1099511627776 * c5 + 281474976710656 * c6 + 72057594037927936 * c7) + (c1 + 256 * c2 + 65536 * c3 + 16777216 * c4 + 4294967296 * c5 + 1099511627776 * c6 + 281474976710656 * c7))
    (h2 : y2 = y1 + y1 / 65536) : (y2 + y2 / 4294967296) % 128 = c0 + c1 + c2 + c3 + c4 + c5 + c6 + c7 ∧ y1 < 18446744073709551616 ∧ y2 < 18446744073709551616 ∧ y2 + y2 / 4294967296 < 18446744073709551616 := by
  have a2 : y1 / 65536 = (c2 + c3) + 256 * (c3 + c4) + 65536 * (c4 + c5) + 16777216 * (c5 + c6) + 4294967296 * (c6 + c7) + 1099511627776 * c7 := by omega
  rw [a2] at h2
  have a3 : y2 / 4294967296 = (c4 + c5 + c6 + c7) + 256 * (c5 + c6 + c7) + 65536 * (c6 + c7) + 16777216 * c7 := by omega
  rw [a3]
  refine ⟨?_, ?_, ?_, ?_⟩
  · clear a2 a3; subst h1; subst h2; omega
  · omega
  · omega
  · omega

def pop (x : BitVec 64) : Nat := popN 64 x.toNat

theorem rep85 : rep 85 8 = 6148914691236517205 := by decide
theorem rep51 : rep 51 8 = 3689348814741910323 := by decide
theorem rep15 : rep 15 8 = 1085102592571150095 := by decide

theorem pop1 (x : BitVec 64) : ((x >>> 1 &&& 6148914691236517205#64) + (x &&& 6148914691236517205#64)).toNat = halves 1 85 8 x.toNat := by
  unfold halves
  rw [rep85]
  have h1 : (x.toNat / 2 ^ 1) &&& 6148914691236517205 ≤ 6148914691236517205 := Nat.and_le_right
  have h2 : x.toNat &&& 6148914691236517205 ≤ 6148914691236517205 := Nat.and_le_right
  rw [BitVec.toNat_add, BitVec.toNat_and, BitVec.toNat_and, BitVec.toNat_ushiftRight, Nat.shiftRight_eq_div_pow]
  exact Nat.mod_eq_of_lt (by simp only [BitVec.toNat_ofNat, Nat.reducePow, Nat.reduceMod] at *; omega)

theorem pop2 (x : BitVec 64) : ((x >>> 2 &&& 3689348814741910323#64) + (x &&& 3689348814741910323#64)).toNat = halves 2 51 8 x.toNat := by
  unfold halves
  rw [rep51]
  have h1 : (x.toNat / 2 ^ 2) &&& 3689348814741910323 ≤ 3689348814741910323 := Nat.and_le_right
  have h2 : x.toNat &&& 3689348814741910323 ≤ 3689348814741910323 := Nat.and_le_right
  rw [BitVec.toNat_add, BitVec.toNat_and, BitVec.toNat_and, BitVec.toNat_ushiftRight, Nat.shiftRight_eq_div_pow]
  exact Nat.mod_eq_of_lt (by simp only [BitVec.toNat_ofNat, Nat.reducePow, Nat.reduceMod] at *; omega)

theorem pop3 (x : BitVec 64) (hx : x.toNat ≤ 2 * rep 51 8) : ((x >>> 4 + x) &&& 1085102592571150095#64).toNat = thirds 8 x.toNat := by
  unfold thirds
  rw [rep15]
  rw [rep51] at hx
  rw [BitVec.toNat_and, BitVec.toNat_add, BitVec.toNat_ushiftRight, Nat.shiftRight_eq_div_pow, Nat.mod_eq_of_lt (by omega)]
  rfl

theorem add_shr (x : BitVec 64) (k q : Nat) (hq : 2 ^ k = q) (h : x.toNat + x.toNat / q < 18446744073709551616) : (x + x >>> k).toNat = x.toNat + x.toNat / q := by
  subst hq
  rw [BitVec.toNat_add, BitVec.toNat_ushiftRight, Nat.shiftRight_eq_div_pow]
  exact Nat.mod_eq_of_lt h

theorem counted8 (y : Nat) : counted 8 y = popN 8 (y % 256) + 256 * (popN 8 (y / 256 % 256) + 256 * (popN 8 (y / 65536 % 256) + 256 * (popN 8 (y / 16777216 % 256) + 256 * (popN 8 (y / 4294967296 % 256) + 256 * (popN 8 (y / 1099511627776 % 256) + 256 * (popN 8 (y / 281474976710656 % 256) + 256 * popN 8 (y / 72057594037927936 % 256))))))) := by
  simp only [counted, Nat.div_div_eq_div_mul, Nat.reduceMul, Nat.mul_zero, Nat.add_zero]

theorem final_nums {c0 c1 c2 c3 c4 c5 c6 c7 : Nat} {c d e f : BitVec 64} (p0 : c0 ≤ 8) (p1 : c1 ≤ 8) (p2 : c2 ≤ 8) (p3 : c3 ≤ 8) (p4 : c4 ≤ 8) (p5 : c5 ≤ 8) (p6 : c6 ≤ 8) (p7 : c7 ≤ 8)
    (h4 : c.toNat = c0 + 256 * (c1 + 256 * (c2 + 256 * (c3 + 256 * (c4 + 256 * (c5 + 256 * (c6 + 256 * c7)))))))
    (hd : d = c + c >>> 8) (he : e = d + d >>> 16) (hf : f = e + e >>> 32) : f.toNat % 128 = c0 + (c1 + (c2 + (c3 + (c4 + (c5 + (c6 + c7)))))) := by
  obtain ⟨cn, hcn⟩ : ∃ n, n = c.toNat := ⟨_, rfl⟩
  obtain ⟨y1, hy1⟩ : ∃ n, n = cn + cn / 256 := ⟨_, rfl⟩
  obtain ⟨y2, hy2⟩ : ∃ n, n = y1 + y1 / 65536 := ⟨_, rfl⟩
  obtain ⟨y3, hy3⟩ : ∃ n, n = y2 + y2 / 4294967296 := ⟨_, rfl⟩
  have e0 : y1 = (c0 + 256 * c1 + 65536 * c2 + 16777216 * c3 + 4294967296 * c4 + 1099511627776 * c5 + 281474976710656 * c6 + 72057594037927936 * c7) + (c1 + 256 * c2 + 65536 * c3 + 16777216 * c4 + 4294967296 * c5 + 1099511627776 * c6 + 281474976710656 * c7) := by omega
  obtain ⟨s1, s2, s3, s4⟩ := sum_nums p0 p1 p2 p3 p4 p5 p6 p7 e0 hy2
  have hd2 : d.toNat = y1 := by
    have := add_shr c 8 256 rfl (by rw [← hcn, ← hy1]; exact s2)
    rw [← hd, ← hcn, ← hy1] at this; exact this
  have he2 : e.toNat = y2 := by
    have := add_shr d 16 65536 rfl (by rw [hd2, ← hy2]; exact s3)
    rw [← he, hd2, ← hy2] at this; exact this
  have hf2 : f.toNat = y3 := by
    have := add_shr e 32 4294967296 rfl (by rw [he2]; exact s4)
    rw [← hf, he2, ← hy3] at this; exact this
  rw [hf2, hy3, s1]
  simp only [Nat.add_assoc]

attribute [local irreducible] popN counted halves thirds rep

/-- What math/bits computes: the number of the bits. -/
theorem pop_word (x : BitVec 64) (a b c d e f : BitVec 64) (ha : a = (x >>> 1 &&& 6148914691236517205#64) + (x &&& 6148914691236517205#64)) (hb : b = (a >>> 2 &&& 3689348814741910323#64) + (a &&& 3689348814741910323#64))
    (hc : c = (b >>> 4 + b) &&& 1085102592571150095#64) (hd : d = c + c >>> 8) (he : e = d + d >>> 16) (hf : f = e + e >>> 32) : f.toNat % 128 = pop x := by
  have h1 : a.toNat = halves 1 85 8 x.toNat := by rw [ha]; exact pop1 x
  have h2 : b.toNat = halves 2 51 8 a.toNat := by rw [hb]; exact pop2 a
  have h3 : c.toNat = thirds 8 b.toNat := by
    rw [hc]; refine pop3 b ?_
    rw [h2]; unfold halves
    have h4 : (a.toNat / 2 ^ 2) &&& rep 51 8 ≤ rep 51 8 := Nat.and_le_right
    have h5 : a.toNat &&& rep 51 8 ≤ rep 51 8 := Nat.and_le_right
    omega
  have h4 : c.toNat = counted 8 x.toNat := by rw [h3, h2, h1]; exact (bytes_all 8 x.toNat).1
  rw [counted8] at h4
  unfold pop
  rw [pop_bytes]
  have p := fun y => popN_le 8 y
  exact final_nums (p _) (p _) (p _) (p _) (p _) (p _) (p _) (p _) h4 hd he hf
end Go.Am


/- Words as sets of numbers below 64: plain facts. -/
set_option linter.unusedVariables false
namespace Go.Am

theorem word_ext {x y : BitVec 64} (h : ∀ i, i < 64 → x.getLsbD i = y.getLsbD i) : x = y := BitVec.eq_of_getLsbD_eq fun i hi => h i hi

/-- The numbers below n. -/
def allB (n : Nat) : BitVec 64 := BitVec.ofNat 64 (2 ^ n - 1)

theorem allB_bit (n i : Nat) : (allB n).getLsbD i = (decide (i < 64) && decide (i < n)) := by
  unfold allB
  rw [BitVec.getLsbD_ofNat, Nat.testBit_two_pow_sub_one]

theorem allB_64 : allB 64 = 18446744073709551615#64 := by decide

theorem allB_shl {n : Nat} (h : n < 64) : (1#64 <<< n) - 1#64 = allB n := by
  unfold allB
  apply BitVec.eq_of_toNat_eq
  have h1 : 2 ^ n < 2 ^ 64 := Nat.pow_lt_pow_right (by omega) h
  have h0 : 0 < 2 ^ n := Nat.pow_pos (by omega)
  rw [BitVec.toNat_sub, BitVec.toNat_shiftLeft, BitVec.toNat_ofNat, Nat.shiftLeft_eq, BitVec.toNat_ofNat]
  simp only [Nat.reducePow, Nat.reduceMod, Nat.one_mul] at *
  rw [Nat.mod_eq_of_lt h1, Nat.mod_eq_of_lt (by omega : 2 ^ n - 1 < _)]
  omega

/-- One more. -/
def setB (x : BitVec 64) (t : Nat) : BitVec 64 := x ||| (1#64 <<< t)

theorem one_bit {t i : Nat} (ht : t < 64) : (1#64 <<< t).getLsbD i = decide (i = t) := by
  rw [BitVec.getLsbD_shiftLeft]
  by_cases h : i = t
  · subst h; simp [ht]
  · by_cases h2 : i < t
    · simp [h, h2]
    · have : i - t ≠ 0 := by omega
      simp [h, this]

theorem setB_bit {x : BitVec 64} {t i : Nat} (ht : t < 64) : (setB x t).getLsbD i = (x.getLsbD i || decide (i = t)) := by
  unfold setB
  rw [BitVec.getLsbD_or, one_bit ht]

theorem setB_add {x : BitVec 64} {t : Nat} (ht : t < 64) (h : x.getLsbD t = false) : x + (1#64 <<< t) = setB x t := by
  unfold setB
  refine BitVec.add_eq_or_of_and_eq_zero _ _ (word_ext fun i hi => ?_)
  rw [BitVec.getLsbD_and, one_bit ht]
  by_cases e : i = t
  · subst e; simp [h]
  · simp [e]

theorem setB_same {x : BitVec 64} {t : Nat} (ht : t < 64) (h : x.getLsbD t = true) : setB x t = x := by
  refine word_ext fun i hi => ?_
  rw [setB_bit ht]
  by_cases e : i = t
  · subst e; simp [h]
  · simp [e]

/-- Whether a number is in a word. -/
def inB (x : BitVec 64) (t : Int) : Bool := decide (0 ≤ t) && decide (t < 64) && x.getLsbD t.toNat

theorem shr_bit {x : BitVec 64} {t : Nat} : (x >>> t &&& 1#64) = (if x.getLsbD t then 1#64 else 0#64) := by
  refine word_ext fun i hi => ?_
  rw [BitVec.getLsbD_and, BitVec.getLsbD_ushiftRight]
  by_cases e : i = 0
  · subst e
    cases x.getLsbD t <;> simp
  · split <;> simp [e]

theorem umod_bit {x : BitVec 64} : x % 2#64 = x &&& 1#64 := by
  apply BitVec.eq_of_toNat_eq
  rw [BitVec.toNat_umod, BitVec.toNat_and]
  exact (Nat.and_two_pow_sub_one_eq_mod x.toNat 1).symm

def withB (x : BitVec 64) (t : Int) : BitVec 64 := if 0 ≤ t ∧ t < 64 then setB x t.toNat else x

theorem withB_bit {x : BitVec 64} {t : Int} {i : Nat} (hi : i < 64) : (withB x t).getLsbD i = (x.getLsbD i || decide ((i : Int) = t)) := by
  unfold withB
  split
  · rw [setB_bit (by omega)]
    congr 1
    rw [Bool.eq_iff_iff]; simp only [decide_eq_true_eq]; omega
  · have : ¬ (i : Int) = t := by omega
    simp [this]
end Go.Am


/- The functions of the masks that keep no memory: what each computes. -/
set_option linter.unusedVariables false
set_option linter.unusedSimpArgs false
namespace Go.Am

variable {m : Mem}

def fr (f : Int) : Int := min (max f 0) 64

theorem mask_frame_spec {f : Int} : WC R F.mask_frame [.int .i64 f] m fun v m' => v = .int .i64 (fr f) ∧ m' = m := by
  refine WC.of R.mask_frame rfl ?_
  simp only [RC.mask_frame, go_sem, not_true_eq_false, beq_self_eq_true, bne_self_eq_false, Bool.false_eq_true, if_false, if_true, Int.cast_ofNat_Int, decide_true, decide_false, reduceCtorEq, Nat.reduceEqDiff, Nat.reduceAdd, ne_eq, not_false_eq_true, Option.map_some, Option.bind_some, Option.map_none, Option.bind_none, true_and, and_true, Bool.not_true, Bool.not_false, Nat.reduceLeDiff, Nat.reduceMul, Nat.reduceSub, Nat.le_refl, Int.reduceToNat, Int.reduceLT, Int.reduceLE, Nat.one_mul, Nat.mul_one]
  congr 1
  unfold fr
  split <;> split <;> omega

theorem ref04_Frame_spec {f : Int} : WC R F.ref04_Frame [.int .i64 f] m fun v m' => v = .int .i64 (fr f) ∧ m' = m := by
  refine WC.of R.ref04_Frame rfl ?_
  simp only [RC.ref04_Frame, go_sem, not_true_eq_false, beq_self_eq_true, bne_self_eq_false, Bool.false_eq_true, if_false, if_true, Int.cast_ofNat_Int, decide_true, decide_false, reduceCtorEq, Nat.reduceEqDiff, Nat.reduceAdd, ne_eq, not_false_eq_true, Option.map_some, Option.bind_some, Option.map_none, Option.bind_none, true_and, and_true, Bool.not_true, Bool.not_false, Nat.reduceLeDiff, Nat.reduceMul, Nat.reduceSub, Nat.le_refl, Int.reduceToNat, Int.reduceLT, Int.reduceLE, Nat.one_mul, Nat.mul_one]
  refine gT.of (fun h => ?_) (fun h => ?_)
  · simp only [go_sem, not_true_eq_false, beq_self_eq_true, bne_self_eq_false, Bool.false_eq_true, if_false, if_true, Int.cast_ofNat_Int, decide_true, decide_false, reduceCtorEq, Nat.reduceEqDiff, Nat.reduceAdd, ne_eq, not_false_eq_true, Option.map_some, Option.bind_some, Option.map_none, Option.bind_none, true_and, and_true, Bool.not_true, Bool.not_false, Nat.reduceLeDiff, Nat.reduceMul, Nat.reduceSub, Nat.le_refl, Int.reduceToNat, Int.reduceLT, Int.reduceLE, Nat.one_mul, Nat.mul_one]; simp at h; congr 1; unfold fr; omega
  · simp only [go_sem, not_true_eq_false, beq_self_eq_true, bne_self_eq_false, Bool.false_eq_true, if_false, if_true, Int.cast_ofNat_Int, decide_true, decide_false, reduceCtorEq, Nat.reduceEqDiff, Nat.reduceAdd, ne_eq, not_false_eq_true, Option.map_some, Option.bind_some, Option.map_none, Option.bind_none, true_and, and_true, Bool.not_true, Bool.not_false, Nat.reduceLeDiff, Nat.reduceMul, Nat.reduceSub, Nat.le_refl, Int.reduceToNat, Int.reduceLT, Int.reduceLE, Nat.one_mul, Nat.mul_one]
    simp at h
    refine gT.of (fun h => ?_) (fun h => ?_)
    · simp only [go_sem, not_true_eq_false, beq_self_eq_true, bne_self_eq_false, Bool.false_eq_true, if_false, if_true, Int.cast_ofNat_Int, decide_true, decide_false, reduceCtorEq, Nat.reduceEqDiff, Nat.reduceAdd, ne_eq, not_false_eq_true, Option.map_some, Option.bind_some, Option.map_none, Option.bind_none, true_and, and_true, Bool.not_true, Bool.not_false, Nat.reduceLeDiff, Nat.reduceMul, Nat.reduceSub, Nat.le_refl, Int.reduceToNat, Int.reduceLT, Int.reduceLE, Nat.one_mul, Nat.mul_one]; simp at h; congr 1; unfold fr; omega
    · simp only [go_sem, not_true_eq_false, beq_self_eq_true, bne_self_eq_false, Bool.false_eq_true, if_false, if_true, Int.cast_ofNat_Int, decide_true, decide_false, reduceCtorEq, Nat.reduceEqDiff, Nat.reduceAdd, ne_eq, not_false_eq_true, Option.map_some, Option.bind_some, Option.map_none, Option.bind_none, true_and, and_true, Bool.not_true, Bool.not_false, Nat.reduceLeDiff, Nat.reduceMul, Nat.reduceSub, Nat.le_refl, Int.reduceToNat, Int.reduceLT, Int.reduceLE, Nat.one_mul, Nat.mul_one]; simp at h; congr 1; unfold fr; omega

theorem mask_All_spec {f : Int} : WC R F.mask_All [.int .i64 f] m fun v m' => v = u64 (allB (fr f).toNat) ∧ m' = m := by
  refine WC.of R.mask_All rfl ?_
  simp only [RC.mask_All, go_sem, not_true_eq_false, beq_self_eq_true, bne_self_eq_false, Bool.false_eq_true, if_false, if_true, Int.cast_ofNat_Int, decide_true, decide_false, reduceCtorEq, Nat.reduceEqDiff, Nat.reduceAdd, ne_eq, not_false_eq_true, Option.map_some, Option.bind_some, Option.map_none, Option.bind_none, true_and, and_true, Bool.not_true, Bool.not_false, Nat.reduceLeDiff, Nat.reduceMul, Nat.reduceSub, Nat.le_refl, Int.reduceToNat, Int.reduceLT, Int.reduceLE, Nat.one_mul, Nat.mul_one]
  refine gC.of mask_frame_spec ?_
  rintro _ _ ⟨rfl, rfl⟩
  simp only [go_sem, not_true_eq_false, beq_self_eq_true, bne_self_eq_false, Bool.false_eq_true, if_false, if_true, Int.cast_ofNat_Int, decide_true, decide_false, reduceCtorEq, Nat.reduceEqDiff, Nat.reduceAdd, ne_eq, not_false_eq_true, Option.map_some, Option.bind_some, Option.map_none, Option.bind_none, true_and, and_true, Bool.not_true, Bool.not_false, Nat.reduceLeDiff, Nat.reduceMul, Nat.reduceSub, Nat.le_refl, Int.reduceToNat, Int.reduceLT, Int.reduceLE, Nat.one_mul, Nat.mul_one]
  have hf : 0 ≤ fr f ∧ fr f ≤ 64 := by unfold fr; omega
  refine gT.of (fun h => ?_) (fun h => ?_)
  · simp only [go_sem, not_true_eq_false, beq_self_eq_true, bne_self_eq_false, Bool.false_eq_true, if_false, if_true, Int.cast_ofNat_Int, decide_true, decide_false, reduceCtorEq, Nat.reduceEqDiff, Nat.reduceAdd, ne_eq, not_false_eq_true, Option.map_some, Option.bind_some, Option.map_none, Option.bind_none, true_and, and_true, Bool.not_true, Bool.not_false, Nat.reduceLeDiff, Nat.reduceMul, Nat.reduceSub, Nat.le_refl, Int.reduceToNat, Int.reduceLT, Int.reduceLE, Nat.one_mul, Nat.mul_one]; simp at h; rw [h]; rw [← allB_64]; rfl
  · simp only [go_sem, not_true_eq_false, beq_self_eq_true, bne_self_eq_false, Bool.false_eq_true, if_false, if_true, Int.cast_ofNat_Int, decide_true, decide_false, reduceCtorEq, Nat.reduceEqDiff, Nat.reduceAdd, ne_eq, not_false_eq_true, Option.map_some, Option.bind_some, Option.map_none, Option.bind_none, true_and, and_true, Bool.not_true, Bool.not_false, Nat.reduceLeDiff, Nat.reduceMul, Nat.reduceSub, Nat.le_refl, Int.reduceToNat, Int.reduceLT, Int.reduceLE, Nat.one_mul, Nat.mul_one]; simp at h; refine ⟨hf.1, ?_⟩; rw [allB_shl (by omega)]

theorem tmod_emod' (t f : Int) : (t.tmod f) % f = t % f := by
  rw [Int.tmod_def]
  rw [Int.sub_emod, Int.mul_emod_right, Int.sub_zero, Int.emod_emod]

theorem inB_of {x : BitVec 64} {t : Int} (h0 : 0 ≤ t) (h1 : t < 64) : inB x t = x.getLsbD t.toNat := by unfold inB; simp [h0, h1]
theorem inB_not {x : BitVec 64} {t : Int} (h : ¬ (0 ≤ t ∧ t < 64)) : inB x t = false := by
  unfold inB
  by_cases h0 : 0 ≤ t
  · have : ¬ t < 64 := fun h1 => h ⟨h0, h1⟩
    simp [this]
  · simp [h0]

theorem bit_eq {x : BitVec 64} {n : Nat} : decide (x >>> n &&& 1#64 = 1#64) = x.getLsbD n := by
  rw [shr_bit]; cases x.getLsbD n <;> decide

theorem mask_Has_spec {x : BitVec 64} {t : Int} : WC R F.mask_Has [u64 x, .int .i64 t] m fun v m' => v = .bool (inB x t) ∧ m' = m := by
  refine WC.of R.mask_Has rfl ?_
  simp only [RC.mask_Has, go_sem, not_true_eq_false, beq_self_eq_true, bne_self_eq_false, Bool.false_eq_true, if_false, if_true, Int.cast_ofNat_Int, decide_true, decide_false, reduceCtorEq, Nat.reduceEqDiff, Nat.reduceAdd, ne_eq, not_false_eq_true, Option.map_some, Option.bind_some, Option.map_none, Option.bind_none, true_and, and_true, Bool.not_true, Bool.not_false, Nat.reduceLeDiff, Nat.reduceMul, Nat.reduceSub, Nat.le_refl, Int.reduceToNat, Int.reduceLT, Int.reduceLE, Nat.one_mul, Nat.mul_one]
  refine gT.of (fun h => ?_) (fun h => ?_)
  · simp only [go_sem, not_true_eq_false, beq_self_eq_true, bne_self_eq_false, Bool.false_eq_true, if_false, if_true, Int.cast_ofNat_Int, decide_true, decide_false, reduceCtorEq, Nat.reduceEqDiff, Nat.reduceAdd, ne_eq, not_false_eq_true, Option.map_some, Option.bind_some, Option.map_none, Option.bind_none, true_and, and_true, Bool.not_true, Bool.not_false, Nat.reduceLeDiff, Nat.reduceMul, Nat.reduceSub, Nat.le_refl, Int.reduceToNat, Int.reduceLT, Int.reduceLE, Nat.one_mul, Nat.mul_one, h]
    refine gT.of (fun h2 => ?_) (fun h2 => ?_)
    · simp only [go_sem, not_true_eq_false, beq_self_eq_true, bne_self_eq_false, Bool.false_eq_true, if_false, if_true, Int.cast_ofNat_Int, decide_true, decide_false, reduceCtorEq, Nat.reduceEqDiff, Nat.reduceAdd, ne_eq, not_false_eq_true, Option.map_some, Option.bind_some, Option.map_none, Option.bind_none, true_and, and_true, Bool.not_true, Bool.not_false, Nat.reduceLeDiff, Nat.reduceMul, Nat.reduceSub, Nat.le_refl, Int.reduceToNat, Int.reduceLT, Int.reduceLE, Nat.one_mul, Nat.mul_one, h, h2]
      simp only [decide_eq_true_eq] at h h2
      exact ⟨h, by rw [bit_eq, inB_of h h2]⟩
    · simp only [go_sem, not_true_eq_false, beq_self_eq_true, bne_self_eq_false, Bool.false_eq_true, if_false, if_true, Int.cast_ofNat_Int, decide_true, decide_false, reduceCtorEq, Nat.reduceEqDiff, Nat.reduceAdd, ne_eq, not_false_eq_true, Option.map_some, Option.bind_some, Option.map_none, Option.bind_none, true_and, and_true, Bool.not_true, Bool.not_false, Nat.reduceLeDiff, Nat.reduceMul, Nat.reduceSub, Nat.le_refl, Int.reduceToNat, Int.reduceLT, Int.reduceLE, Nat.one_mul, Nat.mul_one, h, h2]
      simp only [decide_eq_true_eq, decide_eq_false_iff_not] at h h2
      rw [inB_not (by omega)]
  · simp only [go_sem, not_true_eq_false, beq_self_eq_true, bne_self_eq_false, Bool.false_eq_true, if_false, if_true, Int.cast_ofNat_Int, decide_true, decide_false, reduceCtorEq, Nat.reduceEqDiff, Nat.reduceAdd, ne_eq, not_false_eq_true, Option.map_some, Option.bind_some, Option.map_none, Option.bind_none, true_and, and_true, Bool.not_true, Bool.not_false, Nat.reduceLeDiff, Nat.reduceMul, Nat.reduceSub, Nat.le_refl, Int.reduceToNat, Int.reduceLT, Int.reduceLE, Nat.one_mul, Nat.mul_one, h]
    simp only [decide_eq_false_iff_not] at h
    rw [inB_not (by omega)]

theorem ofInt_nat {t : Int} (h : 0 ≤ t) (h1 : t < 18446744073709551616) : (BitVec.ofInt 64 t).toNat = t.toNat := by
  rw [BitVec.toNat_ofInt]; congr 1; exact Int.emod_eq_of_lt h h1

theorem ref04_Has_spec {x : BitVec 64} {t : Int} : WC R F.ref04_Has [u64 x, .int .i64 t] m fun v m' => v = .bool (inB x t) ∧ m' = m := by
  refine WC.of R.ref04_Has rfl ?_
  simp only [RC.ref04_Has, go_sem, not_true_eq_false, beq_self_eq_true, bne_self_eq_false, Bool.false_eq_true, if_false, if_true, Int.cast_ofNat_Int, decide_true, decide_false, reduceCtorEq, Nat.reduceEqDiff, Nat.reduceAdd, ne_eq, not_false_eq_true, Option.map_some, Option.bind_some, Option.map_none, Option.bind_none, true_and, and_true, Bool.not_true, Bool.not_false, Nat.reduceLeDiff, Nat.reduceMul, Nat.reduceSub, Nat.le_refl, Int.reduceToNat, Int.reduceLT, Int.reduceLE, Nat.one_mul, Nat.mul_one]
  refine gT.of (fun h => ?_) (fun h => ?_)
  · simp only [go_sem, not_true_eq_false, beq_self_eq_true, bne_self_eq_false, Bool.false_eq_true, if_false, if_true, Int.cast_ofNat_Int, decide_true, decide_false, reduceCtorEq, Nat.reduceEqDiff, Nat.reduceAdd, ne_eq, not_false_eq_true, Option.map_some, Option.bind_some, Option.map_none, Option.bind_none, true_and, and_true, Bool.not_true, Bool.not_false, Nat.reduceLeDiff, Nat.reduceMul, Nat.reduceSub, Nat.le_refl, Int.reduceToNat, Int.reduceLT, Int.reduceLE, Nat.one_mul, Nat.mul_one, h]
    simp only [decide_eq_true_eq] at h
    rw [inB_not (by omega)]
  · simp only [go_sem, not_true_eq_false, beq_self_eq_true, bne_self_eq_false, Bool.false_eq_true, if_false, if_true, Int.cast_ofNat_Int, decide_true, decide_false, reduceCtorEq, Nat.reduceEqDiff, Nat.reduceAdd, ne_eq, not_false_eq_true, Option.map_some, Option.bind_some, Option.map_none, Option.bind_none, true_and, and_true, Bool.not_true, Bool.not_false, Nat.reduceLeDiff, Nat.reduceMul, Nat.reduceSub, Nat.le_refl, Int.reduceToNat, Int.reduceLT, Int.reduceLE, Nat.one_mul, Nat.mul_one, h]
    refine gT.of (fun h2 => ?_) (fun h2 => ?_)
    · simp only [go_sem, not_true_eq_false, beq_self_eq_true, bne_self_eq_false, Bool.false_eq_true, if_false, if_true, Int.cast_ofNat_Int, decide_true, decide_false, reduceCtorEq, Nat.reduceEqDiff, Nat.reduceAdd, ne_eq, not_false_eq_true, Option.map_some, Option.bind_some, Option.map_none, Option.bind_none, true_and, and_true, Bool.not_true, Bool.not_false, Nat.reduceLeDiff, Nat.reduceMul, Nat.reduceSub, Nat.le_refl, Int.reduceToNat, Int.reduceLT, Int.reduceLE, Nat.one_mul, Nat.mul_one, h, h2]
      simp only [decide_eq_true_eq, decide_eq_false_iff_not] at h h2
      rw [inB_not (by omega)]
    · simp only [go_sem, not_true_eq_false, beq_self_eq_true, bne_self_eq_false, Bool.false_eq_true, if_false, if_true, Int.cast_ofNat_Int, decide_true, decide_false, reduceCtorEq, Nat.reduceEqDiff, Nat.reduceAdd, ne_eq, not_false_eq_true, Option.map_some, Option.bind_some, Option.map_none, Option.bind_none, true_and, and_true, Bool.not_true, Bool.not_false, Nat.reduceLeDiff, Nat.reduceMul, Nat.reduceSub, Nat.le_refl, Int.reduceToNat, Int.reduceLT, Int.reduceLE, Nat.one_mul, Nat.mul_one, h, h2]
      simp only [decide_eq_true_eq, decide_eq_false_iff_not] at h h2
      refine ⟨by decide, ?_⟩
      rw [umod_bit, ofInt_nat (by omega) (by omega), bit_eq, inB_of (by omega) (by omega)]

theorem mask_place_spec {f t : Int} (hf : 0 < f) (hf2 : f ≤ 64) : WC R F.mask_place [.int .i64 f, .int .i64 t] m fun v m' => v = .int .i64 (t % f) ∧ m' = m := by
  refine WC.of R.mask_place rfl ?_
  simp only [RC.mask_place, go_sem, not_true_eq_false, beq_self_eq_true, bne_self_eq_false, Bool.false_eq_true, if_false, if_true, Int.cast_ofNat_Int, decide_true, decide_false, reduceCtorEq, Nat.reduceEqDiff, Nat.reduceAdd, ne_eq, not_false_eq_true, Option.map_some, Option.bind_some, Option.map_none, Option.bind_none, true_and, and_true, Bool.not_true, Bool.not_false, Nat.reduceLeDiff, Nat.reduceMul, Nat.reduceSub, Nat.le_refl, Int.reduceToNat, Int.reduceLT, Int.reduceLE, Nat.one_mul, Nat.mul_one]
  refine ⟨by omega, by omega, ?_⟩
  have h1 : t.tmod f < f := Int.tmod_lt_of_pos t hf
  have h2 : -f < t.tmod f := Int.lt_tmod_of_pos t hf
  rw [wrap_i64 (by omega) (by omega)]
  congr 1
  rw [Int.tmod_eq_emod_of_nonneg (by omega), Int.add_emod_right]
  exact tmod_emod' t f

theorem ref04_Later_spec {f t k : Int} (hf : 0 < f) (hf2 : f ≤ 64) (ht : 0 ≤ t) (ht2 : t ≤ 64) : WC R F.ref04_Later [.int .i64 f, .int .i64 t, .int .i64 k] m fun v m' => v = .int .i64 ((t + k) % f) ∧ m' = m := by
  refine WC.of R.ref04_Later rfl ?_
  simp only [RC.ref04_Later, go_sem, not_true_eq_false, beq_self_eq_true, bne_self_eq_false, Bool.false_eq_true, if_false, if_true, Int.cast_ofNat_Int, decide_true, decide_false, reduceCtorEq, Nat.reduceEqDiff, Nat.reduceAdd, ne_eq, not_false_eq_true, Option.map_some, Option.bind_some, Option.map_none, Option.bind_none, true_and, and_true, Bool.not_true, Bool.not_false, Nat.reduceLeDiff, Nat.reduceMul, Nat.reduceSub, Nat.le_refl, Int.reduceToNat, Int.reduceLT, Int.reduceLE, Nat.one_mul, Nat.mul_one]
  refine ⟨by omega, ?_⟩
  have h1 : k.tmod f < f := Int.tmod_lt_of_pos k hf
  have h2 : -f < k.tmod f := Int.lt_tmod_of_pos k hf
  have h3 : (k.tmod f) % f = k % f := tmod_emod' k f
  refine gT.of (fun h => ?_) (fun h => ?_)
  · simp only [go_sem, not_true_eq_false, beq_self_eq_true, bne_self_eq_false, Bool.false_eq_true, if_false, if_true, Int.cast_ofNat_Int, decide_true, decide_false, reduceCtorEq, Nat.reduceEqDiff, Nat.reduceAdd, ne_eq, not_false_eq_true, Option.map_some, Option.bind_some, Option.map_none, Option.bind_none, true_and, and_true, Bool.not_true, Bool.not_false, Nat.reduceLeDiff, Nat.reduceMul, Nat.reduceSub, Nat.le_refl, Int.reduceToNat, Int.reduceLT, Int.reduceLE, Nat.one_mul, Nat.mul_one, h]
    simp only [decide_eq_true_eq] at h
    refine ⟨by omega, ?_⟩
    rw [wrap_i64 (a := k.tmod f + f) (by omega) (by omega), wrap_i64 (by omega) (by omega)]
    congr 1
    rw [Int.tmod_eq_emod_of_nonneg (by omega), ← Int.add_assoc, Int.add_emod_right, Int.add_emod, h3, ← Int.add_emod]
  · simp only [go_sem, not_true_eq_false, beq_self_eq_true, bne_self_eq_false, Bool.false_eq_true, if_false, if_true, Int.cast_ofNat_Int, decide_true, decide_false, reduceCtorEq, Nat.reduceEqDiff, Nat.reduceAdd, ne_eq, not_false_eq_true, Option.map_some, Option.bind_some, Option.map_none, Option.bind_none, true_and, and_true, Bool.not_true, Bool.not_false, Nat.reduceLeDiff, Nat.reduceMul, Nat.reduceSub, Nat.le_refl, Int.reduceToNat, Int.reduceLT, Int.reduceLE, Nat.one_mul, Nat.mul_one, h]
    simp only [decide_eq_false_iff_not] at h
    refine ⟨by omega, ?_⟩
    rw [wrap_i64 (by omega) (by omega)]
    congr 1
    rw [Int.tmod_eq_emod_of_nonneg (by omega), Int.add_emod, h3, ← Int.add_emod]

theorem and127 {n : Nat} : aBin .and (.int .i64 (IntKind.wrap .i64 n)) (.int .i64 127) = some (.int .i64 (n % 128 : Nat)) := by
  rw [bin_and]
  have h1 : BitVec.ofInt 64 (IntKind.wrap .i64 n) = BitVec.ofNat 64 n := by
    apply BitVec.eq_of_toNat_eq
    rw [BitVec.toNat_ofInt, BitVec.toNat_ofNat]
    simp only [IntKind.wrap, IntKind.bits, IntKind.signed, Bool.true_and, decide_eq_true_eq, Nat.reducePow, Int.reducePow, Nat.reduceSub, ge_iff_le]
    split <;> omega
  have h2 : BitVec.ofInt 64 127 = BitVec.ofNat 64 127 := by decide
  have h3 : (BitVec.ofNat 64 n &&& BitVec.ofNat 64 127).toNat = n % 128 := by
    rw [BitVec.toNat_and, BitVec.toNat_ofNat, BitVec.toNat_ofNat]
    have := Nat.and_two_pow_sub_one_eq_mod (n % 2 ^ 64) 7
    rw [show (127 % 2 ^ 64 : Nat) = 2 ^ 7 - 1 by decide, this]
    omega
  show some (Value.int .i64 (IntKind.i64.wrap ((BitVec.ofInt 64 (IntKind.wrap .i64 n) &&& BitVec.ofInt 64 127).toNat : Int))) = _
  rw [h1, h2, h3, wrap_i64 (by omega) (by omega)]

theorem ones_spec {x : BitVec 64} : WC R F.math_bits_OnesCount64 [u64 x] m fun v m' => v = .int .i64 (pop x) ∧ m' = m := by
  refine WC.of R.math_bits_OnesCount64 rfl ?_
  simp only [RC.math_bits_OnesCount64, go_sem, not_true_eq_false, beq_self_eq_true, bne_self_eq_false, Bool.false_eq_true, if_false, if_true, Int.cast_ofNat_Int, decide_true, decide_false, reduceCtorEq, Nat.reduceEqDiff, Nat.reduceAdd, ne_eq, not_false_eq_true, Option.map_some, Option.bind_some, Option.map_none, Option.bind_none, true_and, and_true, Bool.not_true, Bool.not_false, Nat.reduceLeDiff, Nat.reduceMul, Nat.reduceSub, Nat.le_refl, Int.reduceToNat, Int.reduceLT, Int.reduceLE, Nat.one_mul, Nat.mul_one, BitVec.toNat_ofNat, Nat.reducePow, Nat.reduceMod]
  rw [and127, pop_word x _ _ _ _ _ _ rfl rfl rfl rfl rfl rfl, Got.some]
  simp only [go_sem, not_true_eq_false, beq_self_eq_true, bne_self_eq_false, Bool.false_eq_true, if_false, if_true, Int.cast_ofNat_Int, decide_true, decide_false, reduceCtorEq, Nat.reduceEqDiff, Nat.reduceAdd, ne_eq, not_false_eq_true, Option.map_some, Option.bind_some, Option.map_none, Option.bind_none, true_and, and_true, Bool.not_true, Bool.not_false, Nat.reduceLeDiff, Nat.reduceMul, Nat.reduceSub, Nat.le_refl, Int.reduceToNat, Int.reduceLT, Int.reduceLE, Nat.one_mul, Nat.mul_one]

theorem mask_Count_spec {x : BitVec 64} : WC R F.mask_Count [u64 x] m fun v m' => v = .int .i64 (pop x) ∧ m' = m := by
  refine WC.of R.mask_Count rfl ?_
  simp only [RC.mask_Count, go_sem, not_true_eq_false, beq_self_eq_true, bne_self_eq_false, Bool.false_eq_true, if_false, if_true, Int.cast_ofNat_Int, decide_true, decide_false, reduceCtorEq, Nat.reduceEqDiff, Nat.reduceAdd, ne_eq, not_false_eq_true, Option.map_some, Option.bind_some, Option.map_none, Option.bind_none, true_and, and_true, Bool.not_true, Bool.not_false, Nat.reduceLeDiff, Nat.reduceMul, Nat.reduceSub, Nat.le_refl, Int.reduceToNat, Int.reduceLT, Int.reduceLE, Nat.one_mul, Nat.mul_one]
  refine gC.of ones_spec ?_
  rintro _ _ ⟨rfl, rfl⟩
  simp only [go_sem, not_true_eq_false, beq_self_eq_true, bne_self_eq_false, Bool.false_eq_true, if_false, if_true, Int.cast_ofNat_Int, decide_true, decide_false, reduceCtorEq, Nat.reduceEqDiff, Nat.reduceAdd, ne_eq, not_false_eq_true, Option.map_some, Option.bind_some, Option.map_none, Option.bind_none, true_and, and_true, Bool.not_true, Bool.not_false, Nat.reduceLeDiff, Nat.reduceMul, Nat.reduceSub, Nat.le_refl, Int.reduceToNat, Int.reduceLT, Int.reduceLE, Nat.one_mul, Nat.mul_one]

theorem ref04_With_spec {x : BitVec 64} {t : Int} : WC R F.ref04_With [u64 x, .int .i64 t] m fun v m' => v = u64 (withB x t) ∧ m' = m := by
  refine WC.of R.ref04_With rfl ?_
  simp only [RC.ref04_With, go_sem, not_true_eq_false, beq_self_eq_true, bne_self_eq_false, Bool.false_eq_true, if_false, if_true, Int.cast_ofNat_Int, decide_true, decide_false, reduceCtorEq, Nat.reduceEqDiff, Nat.reduceAdd, ne_eq, not_false_eq_true, Option.map_some, Option.bind_some, Option.map_none, Option.bind_none, true_and, and_true, Bool.not_true, Bool.not_false, Nat.reduceLeDiff, Nat.reduceMul, Nat.reduceSub, Nat.le_refl, Int.reduceToNat, Int.reduceLT, Int.reduceLE, Nat.one_mul, Nat.mul_one]
  refine gC.of ref04_Has_spec ?_
  rintro _ _ ⟨rfl, rfl⟩
  simp only [go_sem, not_true_eq_false, beq_self_eq_true, bne_self_eq_false, Bool.false_eq_true, if_false, if_true, Int.cast_ofNat_Int, decide_true, decide_false, reduceCtorEq, Nat.reduceEqDiff, Nat.reduceAdd, ne_eq, not_false_eq_true, Option.map_some, Option.bind_some, Option.map_none, Option.bind_none, true_and, and_true, Bool.not_true, Bool.not_false, Nat.reduceLeDiff, Nat.reduceMul, Nat.reduceSub, Nat.le_refl, Int.reduceToNat, Int.reduceLT, Int.reduceLE, Nat.one_mul, Nat.mul_one]
  refine gT.of (fun h => ?_) (fun h => ?_)
  · simp only [go_sem, not_true_eq_false, beq_self_eq_true, bne_self_eq_false, Bool.false_eq_true, if_false, if_true, Int.cast_ofNat_Int, decide_true, decide_false, reduceCtorEq, Nat.reduceEqDiff, Nat.reduceAdd, ne_eq, not_false_eq_true, Option.map_some, Option.bind_some, Option.map_none, Option.bind_none, true_and, and_true, Bool.not_true, Bool.not_false, Nat.reduceLeDiff, Nat.reduceMul, Nat.reduceSub, Nat.le_refl, Int.reduceToNat, Int.reduceLT, Int.reduceLE, Nat.one_mul, Nat.mul_one, h]
    unfold withB
    split
    · rename_i h2
      rw [inB_of h2.1 h2.2] at h
      rw [setB_same (by omega) h]
    · rfl
  · simp only [go_sem, not_true_eq_false, beq_self_eq_true, bne_self_eq_false, Bool.false_eq_true, if_false, if_true, Int.cast_ofNat_Int, decide_true, decide_false, reduceCtorEq, Nat.reduceEqDiff, Nat.reduceAdd, ne_eq, not_false_eq_true, Option.map_some, Option.bind_some, Option.map_none, Option.bind_none, true_and, and_true, Bool.not_true, Bool.not_false, Nat.reduceLeDiff, Nat.reduceMul, Nat.reduceSub, Nat.le_refl, Int.reduceToNat, Int.reduceLT, Int.reduceLE, Nat.one_mul, Nat.mul_one, h]
    refine gT.of (fun h2 => ?_) (fun h2 => ?_)
    · simp only [go_sem, not_true_eq_false, beq_self_eq_true, bne_self_eq_false, Bool.false_eq_true, if_false, if_true, Int.cast_ofNat_Int, decide_true, decide_false, reduceCtorEq, Nat.reduceEqDiff, Nat.reduceAdd, ne_eq, not_false_eq_true, Option.map_some, Option.bind_some, Option.map_none, Option.bind_none, true_and, and_true, Bool.not_true, Bool.not_false, Nat.reduceLeDiff, Nat.reduceMul, Nat.reduceSub, Nat.le_refl, Int.reduceToNat, Int.reduceLT, Int.reduceLE, Nat.one_mul, Nat.mul_one, h, h2]
      simp only [decide_eq_true_eq] at h2
      rw [withB, if_neg (by omega)]
    · simp only [go_sem, not_true_eq_false, beq_self_eq_true, bne_self_eq_false, Bool.false_eq_true, if_false, if_true, Int.cast_ofNat_Int, decide_true, decide_false, reduceCtorEq, Nat.reduceEqDiff, Nat.reduceAdd, ne_eq, not_false_eq_true, Option.map_some, Option.bind_some, Option.map_none, Option.bind_none, true_and, and_true, Bool.not_true, Bool.not_false, Nat.reduceLeDiff, Nat.reduceMul, Nat.reduceSub, Nat.le_refl, Int.reduceToNat, Int.reduceLT, Int.reduceLE, Nat.one_mul, Nat.mul_one, h, h2]
      refine gT.of (fun h3 => ?_) (fun h3 => ?_)
      · simp only [go_sem, not_true_eq_false, beq_self_eq_true, bne_self_eq_false, Bool.false_eq_true, if_false, if_true, Int.cast_ofNat_Int, decide_true, decide_false, reduceCtorEq, Nat.reduceEqDiff, Nat.reduceAdd, ne_eq, not_false_eq_true, Option.map_some, Option.bind_some, Option.map_none, Option.bind_none, true_and, and_true, Bool.not_true, Bool.not_false, Nat.reduceLeDiff, Nat.reduceMul, Nat.reduceSub, Nat.le_refl, Int.reduceToNat, Int.reduceLT, Int.reduceLE, Nat.one_mul, Nat.mul_one, h, h2, h3]
        simp only [decide_eq_true_eq] at h3
        rw [withB, if_neg (by omega)]
      · simp only [go_sem, not_true_eq_false, beq_self_eq_true, bne_self_eq_false, Bool.false_eq_true, if_false, if_true, Int.cast_ofNat_Int, decide_true, decide_false, reduceCtorEq, Nat.reduceEqDiff, Nat.reduceAdd, ne_eq, not_false_eq_true, Option.map_some, Option.bind_some, Option.map_none, Option.bind_none, true_and, and_true, Bool.not_true, Bool.not_false, Nat.reduceLeDiff, Nat.reduceMul, Nat.reduceSub, Nat.le_refl, Int.reduceToNat, Int.reduceLT, Int.reduceLE, Nat.one_mul, Nat.mul_one, h, h2, h3]
        simp only [decide_eq_false_iff_not] at h2 h3
        rw [inB_of (by omega) (by omega)] at h
        rw [ofInt_nat (by omega) (by omega), setB_add (by omega) h, withB, if_pos (by omega)]

theorem fr_le (f : Int) : 0 ≤ fr f ∧ fr f ≤ 64 := by unfold fr; omega
theorem fr_fr (f : Int) : fr (fr f) = fr f := by unfold fr; omega

/-- A word that is turned round in a frame of F. -/
def turnW (F : Int) (x : BitVec 64) (k : Int) : BitVec 64 :=
  if F = 0 then 0#64 else ((x &&& allB F.toNat) <<< (k % F).toNat ||| (x &&& allB F.toNat) >>> (F - k % F).toNat) &&& allB F.toNat

theorem mask_Turn_spec {f k : Int} {x : BitVec 64} : WC R F.mask_Turn [.int .i64 f, u64 x, .int .i64 k] m fun v m' => v = u64 (turnW (fr f) x k) ∧ m' = m := by
  refine WC.of R.mask_Turn rfl ?_
  simp only [RC.mask_Turn, go_sem, not_true_eq_false, beq_self_eq_true, bne_self_eq_false, Bool.false_eq_true, if_false, if_true, Int.cast_ofNat_Int, decide_true, decide_false, reduceCtorEq, Nat.reduceEqDiff, Nat.reduceAdd, ne_eq, not_false_eq_true, Option.map_some, Option.bind_some, Option.map_none, Option.bind_none, true_and, and_true, Bool.not_true, Bool.not_false, Nat.reduceLeDiff, Nat.reduceMul, Nat.reduceSub, Nat.le_refl, Int.reduceToNat, Int.reduceLT, Int.reduceLE, Nat.one_mul, Nat.mul_one]
  refine gC.of mask_frame_spec ?_
  rintro _ _ ⟨rfl, rfl⟩
  simp only [go_sem, not_true_eq_false, beq_self_eq_true, bne_self_eq_false, Bool.false_eq_true, if_false, if_true, Int.cast_ofNat_Int, decide_true, decide_false, reduceCtorEq, Nat.reduceEqDiff, Nat.reduceAdd, ne_eq, not_false_eq_true, Option.map_some, Option.bind_some, Option.map_none, Option.bind_none, true_and, and_true, Bool.not_true, Bool.not_false, Nat.reduceLeDiff, Nat.reduceMul, Nat.reduceSub, Nat.le_refl, Int.reduceToNat, Int.reduceLT, Int.reduceLE, Nat.one_mul, Nat.mul_one]
  have hF := fr_le f
  refine gT.of (fun h => ?_) (fun h => ?_)
  · simp only [go_sem, not_true_eq_false, beq_self_eq_true, bne_self_eq_false, Bool.false_eq_true, if_false, if_true, Int.cast_ofNat_Int, decide_true, decide_false, reduceCtorEq, Nat.reduceEqDiff, Nat.reduceAdd, ne_eq, not_false_eq_true, Option.map_some, Option.bind_some, Option.map_none, Option.bind_none, true_and, and_true, Bool.not_true, Bool.not_false, Nat.reduceLeDiff, Nat.reduceMul, Nat.reduceSub, Nat.le_refl, Int.reduceToNat, Int.reduceLT, Int.reduceLE, Nat.one_mul, Nat.mul_one, h]
    simp only [beq_iff_eq] at h
    rw [turnW, if_pos h]
  · simp only [go_sem, not_true_eq_false, beq_self_eq_true, bne_self_eq_false, Bool.false_eq_true, if_false, if_true, Int.cast_ofNat_Int, decide_true, decide_false, reduceCtorEq, Nat.reduceEqDiff, Nat.reduceAdd, ne_eq, not_false_eq_true, Option.map_some, Option.bind_some, Option.map_none, Option.bind_none, true_and, and_true, Bool.not_true, Bool.not_false, Nat.reduceLeDiff, Nat.reduceMul, Nat.reduceSub, Nat.le_refl, Int.reduceToNat, Int.reduceLT, Int.reduceLE, Nat.one_mul, Nat.mul_one, h]
    have h0 : fr f ≠ 0 := by simpa using h
    refine gC.of mask_All_spec ?_
    rintro _ _ ⟨rfl, rfl⟩
    simp only [go_sem, not_true_eq_false, beq_self_eq_true, bne_self_eq_false, Bool.false_eq_true, if_false, if_true, Int.cast_ofNat_Int, decide_true, decide_false, reduceCtorEq, Nat.reduceEqDiff, Nat.reduceAdd, ne_eq, not_false_eq_true, Option.map_some, Option.bind_some, Option.map_none, Option.bind_none, true_and, and_true, Bool.not_true, Bool.not_false, Nat.reduceLeDiff, Nat.reduceMul, Nat.reduceSub, Nat.le_refl, Int.reduceToNat, Int.reduceLT, Int.reduceLE, Nat.one_mul, Nat.mul_one]
    refine gC.of (mask_place_spec (by omega) (by omega)) ?_
    rintro _ _ ⟨rfl, rfl⟩
    simp only [go_sem, not_true_eq_false, beq_self_eq_true, bne_self_eq_false, Bool.false_eq_true, if_false, if_true, Int.cast_ofNat_Int, decide_true, decide_false, reduceCtorEq, Nat.reduceEqDiff, Nat.reduceAdd, ne_eq, not_false_eq_true, Option.map_some, Option.bind_some, Option.map_none, Option.bind_none, true_and, and_true, Bool.not_true, Bool.not_false, Nat.reduceLeDiff, Nat.reduceMul, Nat.reduceSub, Nat.le_refl, Int.reduceToNat, Int.reduceLT, Int.reduceLE, Nat.one_mul, Nat.mul_one]
    have h1 : 0 ≤ k % fr f := Int.emod_nonneg _ h0
    have h2 : k % fr f < fr f := Int.emod_lt_of_pos _ (by omega)
    refine ⟨h1, ?_⟩
    rw [wrap_i64 (by omega) (by omega)]
    refine ⟨by omega, ?_⟩
    refine gC.of mask_All_spec ?_
    rintro _ _ ⟨rfl, rfl⟩
    simp only [go_sem, not_true_eq_false, beq_self_eq_true, bne_self_eq_false, Bool.false_eq_true, if_false, if_true, Int.cast_ofNat_Int, decide_true, decide_false, reduceCtorEq, Nat.reduceEqDiff, Nat.reduceAdd, ne_eq, not_false_eq_true, Option.map_some, Option.bind_some, Option.map_none, Option.bind_none, true_and, and_true, Bool.not_true, Bool.not_false, Nat.reduceLeDiff, Nat.reduceMul, Nat.reduceSub, Nat.le_refl, Int.reduceToNat, Int.reduceLT, Int.reduceLE, Nat.one_mul, Nat.mul_one]
    rw [turnW, if_neg h0, fr_fr]

theorem mask_Round_spec {f from_ n : Int} : WC R F.mask_Round [.int .i64 f, .int .i64 from_, .int .i64 n] m fun v m' => v = u64 (turnW (fr f) (allB (min (max n 0) (fr f)).toNat) from_) ∧ m' = m := by
  refine WC.of R.mask_Round rfl ?_
  simp only [RC.mask_Round, go_sem, not_true_eq_false, beq_self_eq_true, bne_self_eq_false, Bool.false_eq_true, if_false, if_true, Int.cast_ofNat_Int, decide_true, decide_false, reduceCtorEq, Nat.reduceEqDiff, Nat.reduceAdd, ne_eq, not_false_eq_true, Option.map_some, Option.bind_some, Option.map_none, Option.bind_none, true_and, and_true, Bool.not_true, Bool.not_false, Nat.reduceLeDiff, Nat.reduceMul, Nat.reduceSub, Nat.le_refl, Int.reduceToNat, Int.reduceLT, Int.reduceLE, Nat.one_mul, Nat.mul_one]
  refine gC.of mask_frame_spec ?_
  rintro _ _ ⟨rfl, rfl⟩
  simp only [go_sem, not_true_eq_false, beq_self_eq_true, bne_self_eq_false, Bool.false_eq_true, if_false, if_true, Int.cast_ofNat_Int, decide_true, decide_false, reduceCtorEq, Nat.reduceEqDiff, Nat.reduceAdd, ne_eq, not_false_eq_true, Option.map_some, Option.bind_some, Option.map_none, Option.bind_none, true_and, and_true, Bool.not_true, Bool.not_false, Nat.reduceLeDiff, Nat.reduceMul, Nat.reduceSub, Nat.le_refl, Int.reduceToNat, Int.reduceLT, Int.reduceLE, Nat.one_mul, Nat.mul_one]
  have hF := fr_le f
  refine gT.of (fun h => ?_) (fun h => ?_)
  · simp only [go_sem, not_true_eq_false, beq_self_eq_true, bne_self_eq_false, Bool.false_eq_true, if_false, if_true, Int.cast_ofNat_Int, decide_true, decide_false, reduceCtorEq, Nat.reduceEqDiff, Nat.reduceAdd, ne_eq, not_false_eq_true, Option.map_some, Option.bind_some, Option.map_none, Option.bind_none, true_and, and_true, Bool.not_true, Bool.not_false, Nat.reduceLeDiff, Nat.reduceMul, Nat.reduceSub, Nat.le_refl, Int.reduceToNat, Int.reduceLT, Int.reduceLE, Nat.one_mul, Nat.mul_one, h]
    simp only [beq_iff_eq] at h
    rw [turnW, if_pos h]
  · simp only [go_sem, not_true_eq_false, beq_self_eq_true, bne_self_eq_false, Bool.false_eq_true, if_false, if_true, Int.cast_ofNat_Int, decide_true, decide_false, reduceCtorEq, Nat.reduceEqDiff, Nat.reduceAdd, ne_eq, not_false_eq_true, Option.map_some, Option.bind_some, Option.map_none, Option.bind_none, true_and, and_true, Bool.not_true, Bool.not_false, Nat.reduceLeDiff, Nat.reduceMul, Nat.reduceSub, Nat.le_refl, Int.reduceToNat, Int.reduceLT, Int.reduceLE, Nat.one_mul, Nat.mul_one, h]
    refine gC.of mask_All_spec ?_
    rintro _ _ ⟨rfl, rfl⟩
    simp only [go_sem, not_true_eq_false, beq_self_eq_true, bne_self_eq_false, Bool.false_eq_true, if_false, if_true, Int.cast_ofNat_Int, decide_true, decide_false, reduceCtorEq, Nat.reduceEqDiff, Nat.reduceAdd, ne_eq, not_false_eq_true, Option.map_some, Option.bind_some, Option.map_none, Option.bind_none, true_and, and_true, Bool.not_true, Bool.not_false, Nat.reduceLeDiff, Nat.reduceMul, Nat.reduceSub, Nat.le_refl, Int.reduceToNat, Int.reduceLT, Int.reduceLE, Nat.one_mul, Nat.mul_one]
    refine gC.of mask_Turn_spec ?_
    rintro _ _ ⟨rfl, rfl⟩
    simp only [go_sem, not_true_eq_false, beq_self_eq_true, bne_self_eq_false, Bool.false_eq_true, if_false, if_true, Int.cast_ofNat_Int, decide_true, decide_false, reduceCtorEq, Nat.reduceEqDiff, Nat.reduceAdd, ne_eq, not_false_eq_true, Option.map_some, Option.bind_some, Option.map_none, Option.bind_none, true_and, and_true, Bool.not_true, Bool.not_false, Nat.reduceLeDiff, Nat.reduceMul, Nat.reduceSub, Nat.le_refl, Int.reduceToNat, Int.reduceLT, Int.reduceLE, Nat.one_mul, Nat.mul_one]
    rw [fr_fr]
    congr 3
    have : ∀ a b : Int, 0 ≤ b → b ≤ 64 → fr (if b < (if n < 0 then 0 else n) then b else if n < 0 then 0 else n) = min (max n 0) b := by
      intro a b h1 h2; unfold fr; split <;> split <;> omega
    rw [this 0 _ hF.1 hF.2]

theorem allB_succ {i : Nat} (h : i < 64) : withB (allB i) (i : Int) = allB (i + 1) := by
  refine word_ext fun j hj => ?_
  rw [withB_bit hj, allB_bit, allB_bit, Bool.eq_iff_iff]
  simp only [Bool.or_eq_true, Bool.and_eq_true, decide_eq_true_eq]
  omega

theorem ref04_All_spec {f : Int} : WC R F.ref04_All [.int .i64 f] m fun v m' => v = u64 (allB (fr f).toNat) ∧ m' = m := by
  refine WC.of R.ref04_All rfl ?_
  simp only [RC.ref04_All, go_sem, not_true_eq_false, beq_self_eq_true, bne_self_eq_false, Bool.false_eq_true, if_false, if_true, Int.cast_ofNat_Int, decide_true, decide_false, reduceCtorEq, Nat.reduceEqDiff, Nat.reduceAdd, ne_eq, not_false_eq_true, Option.map_some, Option.bind_some, Option.map_none, Option.bind_none, true_and, and_true, Bool.not_true, Bool.not_false, Nat.reduceLeDiff, Nat.reduceMul, Nat.reduceSub, Nat.le_refl, Int.reduceToNat, Int.reduceLT, Int.reduceLE, Nat.one_mul, Nat.mul_one]
  have hF := fr_le f
  refine WL.of (fun n e m' => ∃ i : Nat, i ≤ (fr f).toNat ∧ n = (fr f).toNat - i ∧ e = [(0, .int .i64 f), (3, u64 (allB i)), (4, .int .i64 i)] ∧ m' = m) (fr f).toNat ⟨0, by omega, by omega, by simp only [go_sem, not_true_eq_false, beq_self_eq_true, bne_self_eq_false, Bool.false_eq_true, if_false, if_true, Int.cast_ofNat_Int, decide_true, decide_false, reduceCtorEq, Nat.reduceEqDiff, Nat.reduceAdd, ne_eq, not_false_eq_true, Option.map_some, Option.bind_some, Option.map_none, Option.bind_none, true_and, and_true, Bool.not_true, Bool.not_false, Nat.reduceLeDiff, Nat.reduceMul, Nat.reduceSub, Nat.le_refl, Int.reduceToNat, Int.reduceLT, Int.reduceLE, Nat.one_mul, Nat.mul_one] <;> rfl, rfl⟩ ?_
  rintro _ _ _ ⟨i, hi, rfl, rfl, rfl⟩
  simp only [go_sem, not_true_eq_false, beq_self_eq_true, bne_self_eq_false, Bool.false_eq_true, if_false, if_true, Int.cast_ofNat_Int, decide_true, decide_false, reduceCtorEq, Nat.reduceEqDiff, Nat.reduceAdd, ne_eq, not_false_eq_true, Option.map_some, Option.bind_some, Option.map_none, Option.bind_none, true_and, and_true, Bool.not_true, Bool.not_false, Nat.reduceLeDiff, Nat.reduceMul, Nat.reduceSub, Nat.le_refl, Int.reduceToNat, Int.reduceLT, Int.reduceLE, Nat.one_mul, Nat.mul_one]
  refine gC.of ref04_Frame_spec ?_
  rintro _ _ ⟨rfl, rfl⟩
  simp only [go_sem, not_true_eq_false, beq_self_eq_true, bne_self_eq_false, Bool.false_eq_true, if_false, if_true, Int.cast_ofNat_Int, decide_true, decide_false, reduceCtorEq, Nat.reduceEqDiff, Nat.reduceAdd, ne_eq, not_false_eq_true, Option.map_some, Option.bind_some, Option.map_none, Option.bind_none, true_and, and_true, Bool.not_true, Bool.not_false, Nat.reduceLeDiff, Nat.reduceMul, Nat.reduceSub, Nat.le_refl, Int.reduceToNat, Int.reduceLT, Int.reduceLE, Nat.one_mul, Nat.mul_one]
  refine gT.of (fun h => ?_) (fun h => ?_)
  · simp only [go_sem, not_true_eq_false, beq_self_eq_true, bne_self_eq_false, Bool.false_eq_true, if_false, if_true, Int.cast_ofNat_Int, decide_true, decide_false, reduceCtorEq, Nat.reduceEqDiff, Nat.reduceAdd, ne_eq, not_false_eq_true, Option.map_some, Option.bind_some, Option.map_none, Option.bind_none, true_and, and_true, Bool.not_true, Bool.not_false, Nat.reduceLeDiff, Nat.reduceMul, Nat.reduceSub, Nat.le_refl, Int.reduceToNat, Int.reduceLT, Int.reduceLE, Nat.one_mul, Nat.mul_one, h]
    simp only [decide_eq_true_eq] at h
    refine gC.of ref04_With_spec ?_
    rintro _ _ ⟨rfl, rfl⟩
    simp only [go_sem, not_true_eq_false, beq_self_eq_true, bne_self_eq_false, Bool.false_eq_true, if_false, if_true, Int.cast_ofNat_Int, decide_true, decide_false, reduceCtorEq, Nat.reduceEqDiff, Nat.reduceAdd, ne_eq, not_false_eq_true, Option.map_some, Option.bind_some, Option.map_none, Option.bind_none, true_and, and_true, Bool.not_true, Bool.not_false, Nat.reduceLeDiff, Nat.reduceMul, Nat.reduceSub, Nat.le_refl, Int.reduceToNat, Int.reduceLT, Int.reduceLE, Nat.one_mul, Nat.mul_one]
    refine ⟨_, ?_, i + 1, by omega, rfl, ?_⟩
    · omega
    · rw [wrap_i64 (by omega) (by omega), allB_succ (by omega)]
      rfl
  · simp only [go_sem, not_true_eq_false, beq_self_eq_true, bne_self_eq_false, Bool.false_eq_true, if_false, if_true, Int.cast_ofNat_Int, decide_true, decide_false, reduceCtorEq, Nat.reduceEqDiff, Nat.reduceAdd, ne_eq, not_false_eq_true, Option.map_some, Option.bind_some, Option.map_none, Option.bind_none, true_and, and_true, Bool.not_true, Bool.not_false, Nat.reduceLeDiff, Nat.reduceMul, Nat.reduceSub, Nat.le_refl, Int.reduceToNat, Int.reduceLT, Int.reduceLE, Nat.one_mul, Nat.mul_one, h]
    simp only [decide_eq_false_iff_not] at h
    have : i = (fr f).toNat := by omega
    rw [this]

/-- The turned word by definition: what comes of the first n numbers. -/
def laterW (F : Int) (x : BitVec 64) (k : Int) : Nat → BitVec 64
  | 0 => 0#64
  | n + 1 => if x.getLsbD n then withB (laterW F x k n) ((n + k) % F) else laterW F x k n

theorem ref04_Turn_spec {f k : Int} {x : BitVec 64} : WC R F.ref04_Turn [.int .i64 f, u64 x, .int .i64 k] m fun v m' => v = u64 (laterW (fr f) x k (fr f).toNat) ∧ m' = m := by
  refine WC.of R.ref04_Turn rfl ?_
  simp only [RC.ref04_Turn, go_sem, not_true_eq_false, beq_self_eq_true, bne_self_eq_false, Bool.false_eq_true, if_false, if_true, Int.cast_ofNat_Int, decide_true, decide_false, reduceCtorEq, Nat.reduceEqDiff, Nat.reduceAdd, ne_eq, not_false_eq_true, Option.map_some, Option.bind_some, Option.map_none, Option.bind_none, true_and, and_true, Bool.not_true, Bool.not_false, Nat.reduceLeDiff, Nat.reduceMul, Nat.reduceSub, Nat.le_refl, Int.reduceToNat, Int.reduceLT, Int.reduceLE, Nat.one_mul, Nat.mul_one]
  have hF := fr_le f
  refine WL.of (fun n e m' => ∃ i : Nat, i ≤ (fr f).toNat ∧ n = (fr f).toNat - i ∧ e = [(0, .int .i64 f), (1, u64 x), (2, .int .i64 k), (7, u64 (laterW (fr f) x k i)), (8, .int .i64 i)] ∧ m' = m) (fr f).toNat ⟨0, by omega, by omega, by simp only [go_sem, not_true_eq_false, beq_self_eq_true, bne_self_eq_false, Bool.false_eq_true, if_false, if_true, Int.cast_ofNat_Int, decide_true, decide_false, reduceCtorEq, Nat.reduceEqDiff, Nat.reduceAdd, ne_eq, not_false_eq_true, Option.map_some, Option.bind_some, Option.map_none, Option.bind_none, true_and, and_true, Bool.not_true, Bool.not_false, Nat.reduceLeDiff, Nat.reduceMul, Nat.reduceSub, Nat.le_refl, Int.reduceToNat, Int.reduceLT, Int.reduceLE, Nat.one_mul, Nat.mul_one] <;> rfl, rfl⟩ ?_
  rintro _ _ _ ⟨i, hi, rfl, rfl, rfl⟩
  simp only [go_sem, not_true_eq_false, beq_self_eq_true, bne_self_eq_false, Bool.false_eq_true, if_false, if_true, Int.cast_ofNat_Int, decide_true, decide_false, reduceCtorEq, Nat.reduceEqDiff, Nat.reduceAdd, ne_eq, not_false_eq_true, Option.map_some, Option.bind_some, Option.map_none, Option.bind_none, true_and, and_true, Bool.not_true, Bool.not_false, Nat.reduceLeDiff, Nat.reduceMul, Nat.reduceSub, Nat.le_refl, Int.reduceToNat, Int.reduceLT, Int.reduceLE, Nat.one_mul, Nat.mul_one]
  refine gC.of ref04_Frame_spec ?_
  rintro _ _ ⟨rfl, rfl⟩
  simp only [go_sem, not_true_eq_false, beq_self_eq_true, bne_self_eq_false, Bool.false_eq_true, if_false, if_true, Int.cast_ofNat_Int, decide_true, decide_false, reduceCtorEq, Nat.reduceEqDiff, Nat.reduceAdd, ne_eq, not_false_eq_true, Option.map_some, Option.bind_some, Option.map_none, Option.bind_none, true_and, and_true, Bool.not_true, Bool.not_false, Nat.reduceLeDiff, Nat.reduceMul, Nat.reduceSub, Nat.le_refl, Int.reduceToNat, Int.reduceLT, Int.reduceLE, Nat.one_mul, Nat.mul_one]
  refine gT.of (fun h => ?_) (fun h => ?_)
  · simp only [go_sem, not_true_eq_false, beq_self_eq_true, bne_self_eq_false, Bool.false_eq_true, if_false, if_true, Int.cast_ofNat_Int, decide_true, decide_false, reduceCtorEq, Nat.reduceEqDiff, Nat.reduceAdd, ne_eq, not_false_eq_true, Option.map_some, Option.bind_some, Option.map_none, Option.bind_none, true_and, and_true, Bool.not_true, Bool.not_false, Nat.reduceLeDiff, Nat.reduceMul, Nat.reduceSub, Nat.le_refl, Int.reduceToNat, Int.reduceLT, Int.reduceLE, Nat.one_mul, Nat.mul_one, h]
    simp only [decide_eq_true_eq] at h
    refine gC.of ref04_Has_spec ?_
    rintro _ _ ⟨rfl, rfl⟩
    simp only [go_sem, not_true_eq_false, beq_self_eq_true, bne_self_eq_false, Bool.false_eq_true, if_false, if_true, Int.cast_ofNat_Int, decide_true, decide_false, reduceCtorEq, Nat.reduceEqDiff, Nat.reduceAdd, ne_eq, not_false_eq_true, Option.map_some, Option.bind_some, Option.map_none, Option.bind_none, true_and, and_true, Bool.not_true, Bool.not_false, Nat.reduceLeDiff, Nat.reduceMul, Nat.reduceSub, Nat.le_refl, Int.reduceToNat, Int.reduceLT, Int.reduceLE, Nat.one_mul, Nat.mul_one]
    have hb : inB x (i : Int) = x.getLsbD i := by rw [inB_of (by omega) (by omega), Int.toNat_natCast]
    refine gT.of (fun h2 => ?_) (fun h2 => ?_)
    · simp only [go_sem, not_true_eq_false, beq_self_eq_true, bne_self_eq_false, Bool.false_eq_true, if_false, if_true, Int.cast_ofNat_Int, decide_true, decide_false, reduceCtorEq, Nat.reduceEqDiff, Nat.reduceAdd, ne_eq, not_false_eq_true, Option.map_some, Option.bind_some, Option.map_none, Option.bind_none, true_and, and_true, Bool.not_true, Bool.not_false, Nat.reduceLeDiff, Nat.reduceMul, Nat.reduceSub, Nat.le_refl, Int.reduceToNat, Int.reduceLT, Int.reduceLE, Nat.one_mul, Nat.mul_one, h2]
      refine gC.of ref04_Frame_spec ?_
      rintro _ m_ ⟨rfl, hm_⟩
      replace hm_ := hm_.symm
      subst hm_
      simp only [go_sem, not_true_eq_false, beq_self_eq_true, bne_self_eq_false, Bool.false_eq_true, if_false, if_true, Int.cast_ofNat_Int, decide_true, decide_false, reduceCtorEq, Nat.reduceEqDiff, Nat.reduceAdd, ne_eq, not_false_eq_true, Option.map_some, Option.bind_some, Option.map_none, Option.bind_none, true_and, and_true, Bool.not_true, Bool.not_false, Nat.reduceLeDiff, Nat.reduceMul, Nat.reduceSub, Nat.le_refl, Int.reduceToNat, Int.reduceLT, Int.reduceLE, Nat.one_mul, Nat.mul_one]
      refine gC.of (ref04_Later_spec (by omega) (by omega) (by omega) (by omega)) ?_
      rintro _ m_ ⟨rfl, hm_⟩
      replace hm_ := hm_.symm
      subst hm_
      simp only [go_sem, not_true_eq_false, beq_self_eq_true, bne_self_eq_false, Bool.false_eq_true, if_false, if_true, Int.cast_ofNat_Int, decide_true, decide_false, reduceCtorEq, Nat.reduceEqDiff, Nat.reduceAdd, ne_eq, not_false_eq_true, Option.map_some, Option.bind_some, Option.map_none, Option.bind_none, true_and, and_true, Bool.not_true, Bool.not_false, Nat.reduceLeDiff, Nat.reduceMul, Nat.reduceSub, Nat.le_refl, Int.reduceToNat, Int.reduceLT, Int.reduceLE, Nat.one_mul, Nat.mul_one]
      refine gC.of ref04_With_spec ?_
      rintro _ m_ ⟨rfl, hm_⟩
      replace hm_ := hm_.symm
      subst hm_
      simp only [go_sem, not_true_eq_false, beq_self_eq_true, bne_self_eq_false, Bool.false_eq_true, if_false, if_true, Int.cast_ofNat_Int, decide_true, decide_false, reduceCtorEq, Nat.reduceEqDiff, Nat.reduceAdd, ne_eq, not_false_eq_true, Option.map_some, Option.bind_some, Option.map_none, Option.bind_none, true_and, and_true, Bool.not_true, Bool.not_false, Nat.reduceLeDiff, Nat.reduceMul, Nat.reduceSub, Nat.le_refl, Int.reduceToNat, Int.reduceLT, Int.reduceLE, Nat.one_mul, Nat.mul_one]
      refine ⟨_, ?_, i + 1, by omega, rfl, ?_⟩
      · omega
      · rw [wrap_i64 (by omega) (by omega), laterW, if_pos (by rw [← hb, h2])]
        rfl
    · simp only [go_sem, not_true_eq_false, beq_self_eq_true, bne_self_eq_false, Bool.false_eq_true, if_false, if_true, Int.cast_ofNat_Int, decide_true, decide_false, reduceCtorEq, Nat.reduceEqDiff, Nat.reduceAdd, ne_eq, not_false_eq_true, Option.map_some, Option.bind_some, Option.map_none, Option.bind_none, true_and, and_true, Bool.not_true, Bool.not_false, Nat.reduceLeDiff, Nat.reduceMul, Nat.reduceSub, Nat.le_refl, Int.reduceToNat, Int.reduceLT, Int.reduceLE, Nat.one_mul, Nat.mul_one, h2]
      refine ⟨_, ?_, i + 1, by omega, rfl, ?_⟩
      · omega
      · rw [wrap_i64 (by omega) (by omega), laterW, if_neg (by rw [← hb, h2]; simp)]
        rfl
  · simp only [go_sem, not_true_eq_false, beq_self_eq_true, bne_self_eq_false, Bool.false_eq_true, if_false, if_true, Int.cast_ofNat_Int, decide_true, decide_false, reduceCtorEq, Nat.reduceEqDiff, Nat.reduceAdd, ne_eq, not_false_eq_true, Option.map_some, Option.bind_some, Option.map_none, Option.bind_none, true_and, and_true, Bool.not_true, Bool.not_false, Nat.reduceLeDiff, Nat.reduceMul, Nat.reduceSub, Nat.le_refl, Int.reduceToNat, Int.reduceLT, Int.reduceLE, Nat.one_mul, Nat.mul_one, h]
    simp only [decide_eq_false_iff_not] at h
    have : i = (fr f).toNat := by omega
    rw [this]

/-- The first n numbers, turned. -/
def roundW (F k : Int) : Nat → BitVec 64
  | 0 => 0#64
  | n + 1 => withB (roundW F k n) ((n + k) % F)

theorem ref04_Round_spec {f k n : Int} : WC R F.ref04_Round [.int .i64 f, .int .i64 k, .int .i64 n] m fun v m' => v = u64 (roundW (fr f) k (min (max n 0) (fr f)).toNat) ∧ m' = m := by
  refine WC.of R.ref04_Round rfl ?_
  simp only [RC.ref04_Round, go_sem, not_true_eq_false, beq_self_eq_true, bne_self_eq_false, Bool.false_eq_true, if_false, if_true, Int.cast_ofNat_Int, decide_true, decide_false, reduceCtorEq, Nat.reduceEqDiff, Nat.reduceAdd, ne_eq, not_false_eq_true, Option.map_some, Option.bind_some, Option.map_none, Option.bind_none, true_and, and_true, Bool.not_true, Bool.not_false, Nat.reduceLeDiff, Nat.reduceMul, Nat.reduceSub, Nat.le_refl, Int.reduceToNat, Int.reduceLT, Int.reduceLE, Nat.one_mul, Nat.mul_one]
  have hF := fr_le f
  obtain ⟨N, hN⟩ : ∃ N, N = (min (max n 0) (fr f)).toNat := ⟨_, rfl⟩
  rw [← hN]
  refine WL.of (fun l e m' => ∃ i : Nat, i ≤ N ∧ l = N - i ∧ e = [(0, .int .i64 f), (1, .int .i64 k), (2, .int .i64 n), (7, u64 (roundW (fr f) k i)), (8, .int .i64 i)] ∧ m' = m) N ⟨0, by omega, by omega, by simp only [go_sem, not_true_eq_false, beq_self_eq_true, bne_self_eq_false, Bool.false_eq_true, if_false, if_true, Int.cast_ofNat_Int, decide_true, decide_false, reduceCtorEq, Nat.reduceEqDiff, Nat.reduceAdd, ne_eq, not_false_eq_true, Option.map_some, Option.bind_some, Option.map_none, Option.bind_none, true_and, and_true, Bool.not_true, Bool.not_false, Nat.reduceLeDiff, Nat.reduceMul, Nat.reduceSub, Nat.le_refl, Int.reduceToNat, Int.reduceLT, Int.reduceLE, Nat.one_mul, Nat.mul_one] <;> rfl, rfl⟩ ?_
  rintro _ _ _ ⟨i, hi, rfl, rfl, rfl⟩
  simp only [go_sem, not_true_eq_false, beq_self_eq_true, bne_self_eq_false, Bool.false_eq_true, if_false, if_true, Int.cast_ofNat_Int, decide_true, decide_false, reduceCtorEq, Nat.reduceEqDiff, Nat.reduceAdd, ne_eq, not_false_eq_true, Option.map_some, Option.bind_some, Option.map_none, Option.bind_none, true_and, and_true, Bool.not_true, Bool.not_false, Nat.reduceLeDiff, Nat.reduceMul, Nat.reduceSub, Nat.le_refl, Int.reduceToNat, Int.reduceLT, Int.reduceLE, Nat.one_mul, Nat.mul_one]
  refine gC.of ref04_Frame_spec ?_
  rintro _ m_ ⟨rfl, hm_⟩
  replace hm_ := hm_.symm
  subst hm_
  simp only [go_sem, not_true_eq_false, beq_self_eq_true, bne_self_eq_false, Bool.false_eq_true, if_false, if_true, Int.cast_ofNat_Int, decide_true, decide_false, reduceCtorEq, Nat.reduceEqDiff, Nat.reduceAdd, ne_eq, not_false_eq_true, Option.map_some, Option.bind_some, Option.map_none, Option.bind_none, true_and, and_true, Bool.not_true, Bool.not_false, Nat.reduceLeDiff, Nat.reduceMul, Nat.reduceSub, Nat.le_refl, Int.reduceToNat, Int.reduceLT, Int.reduceLE, Nat.one_mul, Nat.mul_one]
  refine gT.of (fun h => ?_) (fun h => ?_)
  · simp only [go_sem, not_true_eq_false, beq_self_eq_true, bne_self_eq_false, Bool.false_eq_true, if_false, if_true, Int.cast_ofNat_Int, decide_true, decide_false, reduceCtorEq, Nat.reduceEqDiff, Nat.reduceAdd, ne_eq, not_false_eq_true, Option.map_some, Option.bind_some, Option.map_none, Option.bind_none, true_and, and_true, Bool.not_true, Bool.not_false, Nat.reduceLeDiff, Nat.reduceMul, Nat.reduceSub, Nat.le_refl, Int.reduceToNat, Int.reduceLT, Int.reduceLE, Nat.one_mul, Nat.mul_one, h]
    simp only [decide_eq_true_eq] at h
    refine gT.of (fun h2 => ?_) (fun h2 => ?_)
    · simp only [go_sem, not_true_eq_false, beq_self_eq_true, bne_self_eq_false, Bool.false_eq_true, if_false, if_true, Int.cast_ofNat_Int, decide_true, decide_false, reduceCtorEq, Nat.reduceEqDiff, Nat.reduceAdd, ne_eq, not_false_eq_true, Option.map_some, Option.bind_some, Option.map_none, Option.bind_none, true_and, and_true, Bool.not_true, Bool.not_false, Nat.reduceLeDiff, Nat.reduceMul, Nat.reduceSub, Nat.le_refl, Int.reduceToNat, Int.reduceLT, Int.reduceLE, Nat.one_mul, Nat.mul_one, h2]
      simp only [decide_eq_true_eq] at h2
      refine gC.of ref04_Frame_spec ?_
      rintro _ m_ ⟨rfl, hm_⟩
      replace hm_ := hm_.symm
      subst hm_
      simp only [go_sem, not_true_eq_false, beq_self_eq_true, bne_self_eq_false, Bool.false_eq_true, if_false, if_true, Int.cast_ofNat_Int, decide_true, decide_false, reduceCtorEq, Nat.reduceEqDiff, Nat.reduceAdd, ne_eq, not_false_eq_true, Option.map_some, Option.bind_some, Option.map_none, Option.bind_none, true_and, and_true, Bool.not_true, Bool.not_false, Nat.reduceLeDiff, Nat.reduceMul, Nat.reduceSub, Nat.le_refl, Int.reduceToNat, Int.reduceLT, Int.reduceLE, Nat.one_mul, Nat.mul_one]
      refine gC.of (ref04_Later_spec (by omega) (by omega) (by omega) (by omega)) ?_
      rintro _ m_ ⟨rfl, hm_⟩
      replace hm_ := hm_.symm
      subst hm_
      simp only [go_sem, not_true_eq_false, beq_self_eq_true, bne_self_eq_false, Bool.false_eq_true, if_false, if_true, Int.cast_ofNat_Int, decide_true, decide_false, reduceCtorEq, Nat.reduceEqDiff, Nat.reduceAdd, ne_eq, not_false_eq_true, Option.map_some, Option.bind_some, Option.map_none, Option.bind_none, true_and, and_true, Bool.not_true, Bool.not_false, Nat.reduceLeDiff, Nat.reduceMul, Nat.reduceSub, Nat.le_refl, Int.reduceToNat, Int.reduceLT, Int.reduceLE, Nat.one_mul, Nat.mul_one]
      refine gC.of ref04_With_spec ?_
      rintro _ m_ ⟨rfl, hm_⟩
      replace hm_ := hm_.symm
      subst hm_
      simp only [go_sem, not_true_eq_false, beq_self_eq_true, bne_self_eq_false, Bool.false_eq_true, if_false, if_true, Int.cast_ofNat_Int, decide_true, decide_false, reduceCtorEq, Nat.reduceEqDiff, Nat.reduceAdd, ne_eq, not_false_eq_true, Option.map_some, Option.bind_some, Option.map_none, Option.bind_none, true_and, and_true, Bool.not_true, Bool.not_false, Nat.reduceLeDiff, Nat.reduceMul, Nat.reduceSub, Nat.le_refl, Int.reduceToNat, Int.reduceLT, Int.reduceLE, Nat.one_mul, Nat.mul_one]
      refine ⟨_, ?_, i + 1, by omega, rfl, ?_⟩
      · omega
      · rw [wrap_i64 (by omega) (by omega), roundW]
        rfl
    · simp only [go_sem, not_true_eq_false, beq_self_eq_true, bne_self_eq_false, Bool.false_eq_true, if_false, if_true, Int.cast_ofNat_Int, decide_true, decide_false, reduceCtorEq, Nat.reduceEqDiff, Nat.reduceAdd, ne_eq, not_false_eq_true, Option.map_some, Option.bind_some, Option.map_none, Option.bind_none, true_and, and_true, Bool.not_true, Bool.not_false, Nat.reduceLeDiff, Nat.reduceMul, Nat.reduceSub, Nat.le_refl, Int.reduceToNat, Int.reduceLT, Int.reduceLE, Nat.one_mul, Nat.mul_one, h2]
      simp only [decide_eq_false_iff_not] at h2
      have : i = N := by omega
      rw [this]
  · simp only [go_sem, not_true_eq_false, beq_self_eq_true, bne_self_eq_false, Bool.false_eq_true, if_false, if_true, Int.cast_ofNat_Int, decide_true, decide_false, reduceCtorEq, Nat.reduceEqDiff, Nat.reduceAdd, ne_eq, not_false_eq_true, Option.map_some, Option.bind_some, Option.map_none, Option.bind_none, true_and, and_true, Bool.not_true, Bool.not_false, Nat.reduceLeDiff, Nat.reduceMul, Nat.reduceSub, Nat.le_refl, Int.reduceToNat, Int.reduceLT, Int.reduceLE, Nat.one_mul, Nat.mul_one, h]
    simp only [decide_eq_false_iff_not] at h
    have : i = N := by omega
    rw [this]
end Go.Am


/- The lowest bit of a word. -/
set_option linter.unusedVariables false
namespace Go.Am

def low (x : BitVec 64) : Nat := Lib.ctz 64 x.toNat

theorem low_spec {x : BitVec 64} (h : x ≠ 0#64) : low x < 64 ∧ x.getLsbD (low x) = true ∧ (∀ j, j < low x → x.getLsbD j = false) ∧ ∀ j, (x &&& (x - 1#64)).getLsbD j = (x.getLsbD j && decide (j ≠ low x)) := by
  have h0 : x.toNat ≠ 0 := by
    intro e; apply h; apply BitVec.eq_of_toNat_eq; simpa using e
  obtain ⟨q, hq, hk⟩ := Lib.ctzFrom_spec 64 x.toNat (by omega) x.isLt
  have hl : low x = Lib.ctzFrom 64 x.toNat := by unfold low Lib.ctz; rw [if_neg h0]
  rw [← hl] at hq hk
  generalize low x = k at *
  have hp : 0 < 2 ^ k := Nat.pow_pos (by omega)
  have hbit : ∀ j, x.getLsbD j = (decide (j ≥ k) && (2 * q + 1).testBit (j - k)) := by
    intro j
    show x.toNat.testBit j = _
    rw [hq, Nat.testBit_two_pow_mul]
  have hsub : (x - 1#64).toNat = 2 ^ k * (2 * q) + (2 ^ k - 1) := by
    rw [BitVec.toNat_sub]
    have := x.isLt
    have e1 : (1#64).toNat = 1 := rfl
    rw [e1]
    have e2 : 2 ^ k * (2 * q + 1) = 2 ^ k * (2 * q) + 2 ^ k := by rw [Nat.mul_add, Nat.mul_one]
    omega
  have hbit2 : ∀ j, (x - 1#64).getLsbD j = if j < k then (2 ^ k - 1).testBit j else (2 * q).testBit (j - k) := by
    intro j
    show (x - 1#64).toNat.testBit j = _
    rw [hsub, Nat.testBit_two_pow_mul_add _ (by omega)]
  refine ⟨hk, ?_, fun j hj => ?_, fun j => ?_⟩
  · rw [hbit]; simp
  · rw [hbit]; simp; omega
  · rw [BitVec.getLsbD_and, hbit2, hbit]
    by_cases h1 : j < k
    · simp [show ¬ j ≥ k by omega]
    · rw [if_neg h1]
      by_cases h2 : j = k
      · subst h2; simp
      · have : j - k = (j - k - 1) + 1 := by omega
        rw [this, Nat.testBit_succ, Nat.testBit_succ]
        have e1 : (2 * q + 1) / 2 = q := by omega
        have e2 : 2 * q / 2 = q := by omega
        rw [e1, e2]
        simp [h2]
end Go.Am


/- The functions of the masks that make slices. -/
set_option linter.unusedVariables false
set_option linter.unusedSimpArgs false
namespace Go.Am

variable {m : Mem}

def ints (l : List Nat) : List Value := l.map fun (t : Nat) => Value.int .i64 (t : Int)

/-- The numbers of a word below n, rising. -/
def tks (x : BitVec 64) (n : Nat) : List Nat := (List.range n).filter fun i => x.getLsbD i

theorem tks_succ {x : BitVec 64} {n : Nat} : tks x (n + 1) = tks x n ++ (if x.getLsbD n then [n] else []) := by
  unfold tks
  rw [List.range_succ, List.filter_append]
  congr 1
  cases h : x.getLsbD n <;> simp [List.filter, h]

theorem tks_len {x : BitVec 64} {n : Nat} : (tks x n).length ≤ n := by
  unfold tks
  exact Nat.le_trans (List.length_filter_le _ _) (by simp)

theorem Own.empty {m m1 : Mem} {u : Nat} (hx : Ext m m1) : Own m (m1.new (.cells [] (some u))) u 0 [] (.slice (some ⟨m1.next, 0, none⟩) 0 0) :=
  .at (all := []) hx.next (by simp [Mem.new]) (Nat.le_refl _) (by simp [Mem.new]) (by simp) (by simp) rfl

theorem ref04_Ticks_spec {x : BitVec 64} : WC R F.ref04_Ticks [u64 x] m fun v m' => Own m m' 1 (tks x 64).length (ints (tks x 64)) v ∧ Ext m m' := by
  refine WC.of R.ref04_Ticks rfl ?_
  simp only [RC.ref04_Ticks, go_sem, not_true_eq_false, beq_self_eq_true, bne_self_eq_false, Bool.false_eq_true, if_false, if_true, Int.cast_ofNat_Int, decide_true, decide_false, reduceCtorEq, Nat.reduceEqDiff, Nat.reduceAdd, ne_eq, not_false_eq_true, Option.map_some, Option.bind_some, Option.map_none, Option.bind_none, true_and, and_true, Bool.not_true, Bool.not_false, Nat.reduceLeDiff, Nat.reduceMul, Nat.reduceSub, Nat.le_refl, Int.reduceToNat, Int.reduceLT, Int.reduceLE, Nat.one_mul, Nat.mul_one]
  refine WL.of (fun l e m' => ∃ (i : Nat) (v : Value), i ≤ 64 ∧ l = 64 - i ∧ e = [(0, u64 x), (3, v), (4, .int .i64 i)] ∧ Own m m' 1 (tks x i).length (ints (tks x i)) v ∧ Ext m m') 64
    ⟨0, _, by omega, by omega, by simp only [go_sem, not_true_eq_false, beq_self_eq_true, bne_self_eq_false, Bool.false_eq_true, if_false, if_true, Int.cast_ofNat_Int, decide_true, decide_false, reduceCtorEq, Nat.reduceEqDiff, Nat.reduceAdd, ne_eq, not_false_eq_true, Option.map_some, Option.bind_some, Option.map_none, Option.bind_none, true_and, and_true, Bool.not_true, Bool.not_false, Nat.reduceLeDiff, Nat.reduceMul, Nat.reduceSub, Nat.le_refl, Int.reduceToNat, Int.reduceLT, Int.reduceLE, Nat.one_mul, Nat.mul_one] <;> rfl, Own.empty (Ext.refl m), Ext.new⟩ ?_
  rintro _ _ m1 ⟨i, v, hi, rfl, rfl, ho, hx⟩
  simp only [go_sem, not_true_eq_false, beq_self_eq_true, bne_self_eq_false, Bool.false_eq_true, if_false, if_true, Int.cast_ofNat_Int, decide_true, decide_false, reduceCtorEq, Nat.reduceEqDiff, Nat.reduceAdd, ne_eq, not_false_eq_true, Option.map_some, Option.bind_some, Option.map_none, Option.bind_none, true_and, and_true, Bool.not_true, Bool.not_false, Nat.reduceLeDiff, Nat.reduceMul, Nat.reduceSub, Nat.le_refl, Int.reduceToNat, Int.reduceLT, Int.reduceLE, Nat.one_mul, Nat.mul_one]
  refine gT.of (fun h => ?_) (fun h => ?_)
  · simp only [go_sem, not_true_eq_false, beq_self_eq_true, bne_self_eq_false, Bool.false_eq_true, if_false, if_true, Int.cast_ofNat_Int, decide_true, decide_false, reduceCtorEq, Nat.reduceEqDiff, Nat.reduceAdd, ne_eq, not_false_eq_true, Option.map_some, Option.bind_some, Option.map_none, Option.bind_none, true_and, and_true, Bool.not_true, Bool.not_false, Nat.reduceLeDiff, Nat.reduceMul, Nat.reduceSub, Nat.le_refl, Int.reduceToNat, Int.reduceLT, Int.reduceLE, Nat.one_mul, Nat.mul_one, h]
    simp only [decide_eq_true_eq] at h
    refine gC.of ref04_Has_spec ?_
    rintro _ m_ ⟨rfl, hm_⟩
    replace hm_ := hm_.symm
    subst hm_
    simp only [go_sem, not_true_eq_false, beq_self_eq_true, bne_self_eq_false, Bool.false_eq_true, if_false, if_true, Int.cast_ofNat_Int, decide_true, decide_false, reduceCtorEq, Nat.reduceEqDiff, Nat.reduceAdd, ne_eq, not_false_eq_true, Option.map_some, Option.bind_some, Option.map_none, Option.bind_none, true_and, and_true, Bool.not_true, Bool.not_false, Nat.reduceLeDiff, Nat.reduceMul, Nat.reduceSub, Nat.le_refl, Int.reduceToNat, Int.reduceLT, Int.reduceLE, Nat.one_mul, Nat.mul_one]
    have hb : inB x (i : Int) = x.getLsbD i := by rw [inB_of (by omega) (by omega), Int.toNat_natCast]
    rw [hb]
    refine gT.of (fun h2 => ?_) (fun h2 => ?_)
    · simp only [go_sem, not_true_eq_false, beq_self_eq_true, bne_self_eq_false, Bool.false_eq_true, if_false, if_true, Int.cast_ofNat_Int, decide_true, decide_false, reduceCtorEq, Nat.reduceEqDiff, Nat.reduceAdd, ne_eq, not_false_eq_true, Option.map_some, Option.bind_some, Option.map_none, Option.bind_none, true_and, and_true, Bool.not_true, Bool.not_false, Nat.reduceLeDiff, Nat.reduceMul, Nat.reduceSub, Nat.le_refl, Int.reduceToNat, Int.reduceLT, Int.reduceLE, Nat.one_mul, Nat.mul_one, h2]
      obtain ⟨v', m2, e1, e2, e3⟩ := ho.app (by_ := 8) (es := [.int .i64 i]) hx (by omega) rfl rfl (by have := tks_len (x := x) (n := i); omega) (by have := tks_len (x := x) (n := i); omega)
      rw [e1, Got.some]
      simp only [go_sem, not_true_eq_false, beq_self_eq_true, bne_self_eq_false, Bool.false_eq_true, if_false, if_true, Int.cast_ofNat_Int, decide_true, decide_false, reduceCtorEq, Nat.reduceEqDiff, Nat.reduceAdd, ne_eq, not_false_eq_true, Option.map_some, Option.bind_some, Option.map_none, Option.bind_none, true_and, and_true, Bool.not_true, Bool.not_false, Nat.reduceLeDiff, Nat.reduceMul, Nat.reduceSub, Nat.le_refl, Int.reduceToNat, Int.reduceLT, Int.reduceLE, Nat.one_mul, Nat.mul_one]
      refine ⟨_, ?_, i + 1, v', by omega, rfl, ?_, ?_, e3⟩
      · omega
      · rw [wrap_i64 (by omega) (by omega)]; rfl
      · rw [tks_succ, if_pos h2]; simpa [ints] using e2
    · simp only [go_sem, not_true_eq_false, beq_self_eq_true, bne_self_eq_false, Bool.false_eq_true, if_false, if_true, Int.cast_ofNat_Int, decide_true, decide_false, reduceCtorEq, Nat.reduceEqDiff, Nat.reduceAdd, ne_eq, not_false_eq_true, Option.map_some, Option.bind_some, Option.map_none, Option.bind_none, true_and, and_true, Bool.not_true, Bool.not_false, Nat.reduceLeDiff, Nat.reduceMul, Nat.reduceSub, Nat.le_refl, Int.reduceToNat, Int.reduceLT, Int.reduceLE, Nat.one_mul, Nat.mul_one, h2]
      refine ⟨_, ?_, i + 1, v, by omega, rfl, ?_, ?_, hx⟩
      · omega
      · rw [wrap_i64 (by omega) (by omega)]; rfl
      · rw [tks_succ, if_neg (by simp [h2])]; simpa using ho
  · simp only [go_sem, not_true_eq_false, beq_self_eq_true, bne_self_eq_false, Bool.false_eq_true, if_false, if_true, Int.cast_ofNat_Int, decide_true, decide_false, reduceCtorEq, Nat.reduceEqDiff, Nat.reduceAdd, ne_eq, not_false_eq_true, Option.map_some, Option.bind_some, Option.map_none, Option.bind_none, true_and, and_true, Bool.not_true, Bool.not_false, Nat.reduceLeDiff, Nat.reduceMul, Nat.reduceSub, Nat.le_refl, Int.reduceToNat, Int.reduceLT, Int.reduceLE, Nat.one_mul, Nat.mul_one, h]
    simp only [decide_eq_false_iff_not] at h
    have : i = 64 := by omega
    subst this
    exact ⟨ho, hx⟩

theorem tks_skip {x : BitVec 64} {p k : Nat} (h : p ≤ k) (hn : ∀ j, p ≤ j → j < k → x.getLsbD j = false) : tks x k = tks x p := by
  induction k with
  | zero => have : p = 0 := by omega
            rw [this]
  | succ k ih =>
    by_cases e : p = k + 1
    · rw [e]
    · rw [tks_succ, hn k (by omega) (by omega), ih (by omega) fun j h1 h2 => hn j h1 (by omega)]
      simp

theorem tz_spec {x : BitVec 64} : WC R F.math_bits_TrailingZeros64 [u64 x] m fun v m' => v = .int .i64 (low x) ∧ m' = m :=
  WC.ext R.math_bits_TrailingZeros64 X.tz_u64 ⟨rfl, rfl⟩

theorem mask_Ticks_spec {x : BitVec 64} : WC R F.mask_Ticks [u64 x] m fun v m' => Own m m' 1 (tks x 64).length (ints (tks x 64)) v ∧ Ext m m' := by
  refine WC.of R.mask_Ticks rfl ?_
  simp only [RC.mask_Ticks, go_sem, not_true_eq_false, beq_self_eq_true, bne_self_eq_false, Bool.false_eq_true, if_false, if_true, Int.cast_ofNat_Int, decide_true, decide_false, reduceCtorEq, Nat.reduceEqDiff, Nat.reduceAdd, ne_eq, not_false_eq_true, Option.map_some, Option.bind_some, Option.map_none, Option.bind_none, true_and, and_true, Bool.not_true, Bool.not_false, Nat.reduceLeDiff, Nat.reduceMul, Nat.reduceSub, Nat.le_refl, Int.reduceToNat, Int.reduceLT, Int.reduceLE, Nat.one_mul, Nat.mul_one]
  refine WL.of (fun l e m' => ∃ (p : Nat) (y : BitVec 64) (v : Value), p ≤ 64 ∧ l = 64 - p ∧ e = [(0, u64 y), (3, v)] ∧ (∀ j, j < 64 → y.getLsbD j = (x.getLsbD j && decide (p ≤ j))) ∧ Own m m' 1 (tks x p).length (ints (tks x p)) v ∧ Ext m m') 64
    ⟨0, x, _, by omega, by omega, by simp only [go_sem, not_true_eq_false, beq_self_eq_true, bne_self_eq_false, Bool.false_eq_true, if_false, if_true, Int.cast_ofNat_Int, decide_true, decide_false, reduceCtorEq, Nat.reduceEqDiff, Nat.reduceAdd, ne_eq, not_false_eq_true, Option.map_some, Option.bind_some, Option.map_none, Option.bind_none, true_and, and_true, Bool.not_true, Bool.not_false, Nat.reduceLeDiff, Nat.reduceMul, Nat.reduceSub, Nat.le_refl, Int.reduceToNat, Int.reduceLT, Int.reduceLE, Nat.one_mul, Nat.mul_one], fun j hj => by simp, .nil rfl rfl, Ext.refl m⟩ ?_
  rintro _ _ m1 ⟨p, y, v, hp, rfl, rfl, hy, ho, hx⟩
  simp only [go_sem, not_true_eq_false, beq_self_eq_true, bne_self_eq_false, Bool.false_eq_true, if_false, if_true, Int.cast_ofNat_Int, decide_true, decide_false, reduceCtorEq, Nat.reduceEqDiff, Nat.reduceAdd, ne_eq, not_false_eq_true, Option.map_some, Option.bind_some, Option.map_none, Option.bind_none, true_and, and_true, Bool.not_true, Bool.not_false, Nat.reduceLeDiff, Nat.reduceMul, Nat.reduceSub, Nat.le_refl, Int.reduceToNat, Int.reduceLT, Int.reduceLE, Nat.one_mul, Nat.mul_one]
  refine gT.of (fun h => ?_) (fun h => ?_)
  · simp only [go_sem, not_true_eq_false, beq_self_eq_true, bne_self_eq_false, Bool.false_eq_true, if_false, if_true, Int.cast_ofNat_Int, decide_true, decide_false, reduceCtorEq, Nat.reduceEqDiff, Nat.reduceAdd, ne_eq, not_false_eq_true, Option.map_some, Option.bind_some, Option.map_none, Option.bind_none, true_and, and_true, Bool.not_true, Bool.not_false, Nat.reduceLeDiff, Nat.reduceMul, Nat.reduceSub, Nat.le_refl, Int.reduceToNat, Int.reduceLT, Int.reduceLE, Nat.one_mul, Nat.mul_one, h]
    simp only [decide_eq_true_eq] at h
    obtain ⟨l1, l2, l3, l4⟩ := low_spec h
    refine gC.of tz_spec ?_
    rintro _ m_ ⟨rfl, hm_⟩
    replace hm_ := hm_.symm
    subst hm_
    simp only [go_sem, not_true_eq_false, beq_self_eq_true, bne_self_eq_false, Bool.false_eq_true, if_false, if_true, Int.cast_ofNat_Int, decide_true, decide_false, reduceCtorEq, Nat.reduceEqDiff, Nat.reduceAdd, ne_eq, not_false_eq_true, Option.map_some, Option.bind_some, Option.map_none, Option.bind_none, true_and, and_true, Bool.not_true, Bool.not_false, Nat.reduceLeDiff, Nat.reduceMul, Nat.reduceSub, Nat.le_refl, Int.reduceToNat, Int.reduceLT, Int.reduceLE, Nat.one_mul, Nat.mul_one]
    generalize low y = k at *
    have hk : p ≤ k := by
      have := hy k l1
      rw [l2] at this
      have := this.symm
      simp only [Bool.and_eq_true, decide_eq_true_eq] at this
      exact this.2
    have hxk : x.getLsbD k = true := by
      have := hy k l1
      rw [l2] at this
      have := this.symm
      simp only [Bool.and_eq_true, decide_eq_true_eq] at this
      exact this.1
    have hskip : tks x k = tks x p := tks_skip hk fun j h1 h2 => by
      have h3 := hy j (by omega)
      rw [l3 j h2] at h3
      have h4 : decide (p ≤ j) = true := by simpa using h1
      rw [h4, Bool.and_true] at h3
      exact h3.symm
    have hlen := tks_len (x := x) (n := p)
    obtain ⟨v', m2, e1, e2, e3⟩ := ho.app (by_ := 8) (es := [.int .i64 k]) hx (by omega) rfl rfl (by omega) (by omega)
    rw [e1, Got.some]
    simp only [go_sem, not_true_eq_false, beq_self_eq_true, bne_self_eq_false, Bool.false_eq_true, if_false, if_true, Int.cast_ofNat_Int, decide_true, decide_false, reduceCtorEq, Nat.reduceEqDiff, Nat.reduceAdd, ne_eq, not_false_eq_true, Option.map_some, Option.bind_some, Option.map_none, Option.bind_none, true_and, and_true, Bool.not_true, Bool.not_false, Nat.reduceLeDiff, Nat.reduceMul, Nat.reduceSub, Nat.le_refl, Int.reduceToNat, Int.reduceLT, Int.reduceLE, Nat.one_mul, Nat.mul_one]
    refine ⟨_, ?_, k + 1, _, v', by omega, rfl, rfl, fun j hj => ?_, ?_, e3⟩
    · omega
    · rw [l4, hy j hj, Bool.eq_iff_iff]
      simp only [Bool.and_eq_true, decide_eq_true_eq]
      constructor
      · rintro ⟨⟨h1, h2⟩, h3⟩
        refine ⟨h1, ?_⟩
        by_cases h4 : j < k
        · exfalso
          have h5 := hy j hj
          rw [l3 j h4, h1] at h5
          simp only [Bool.true_and] at h5
          have := h5.symm
          simp only [decide_eq_false_iff_not] at this
          omega
        · omega
      · rintro ⟨h1, h2⟩; exact ⟨⟨h1, by omega⟩, by omega⟩
    · rw [tks_succ, if_pos hxk, hskip]; simpa [ints] using e2
  · simp only [go_sem, not_true_eq_false, beq_self_eq_true, bne_self_eq_false, Bool.false_eq_true, if_false, if_true, Int.cast_ofNat_Int, decide_true, decide_false, reduceCtorEq, Nat.reduceEqDiff, Nat.reduceAdd, ne_eq, not_false_eq_true, Option.map_some, Option.bind_some, Option.map_none, Option.bind_none, true_and, and_true, Bool.not_true, Bool.not_false, Nat.reduceLeDiff, Nat.reduceMul, Nat.reduceSub, Nat.le_refl, Int.reduceToNat, Int.reduceLT, Int.reduceLE, Nat.one_mul, Nat.mul_one, h]
    simp only [decide_eq_false_iff_not, Decidable.not_not] at h
    have hall : tks x 64 = tks x p := tks_skip hp fun j h1 h2 => by
      have h3 := hy j h2
      rw [h] at h3
      have h4 : decide (p ≤ j) = true := by simpa using h1
      rw [h4, Bool.and_true] at h3
      simpa using h3.symm
    rw [hall]
    exact ⟨ho, hx⟩

theorem ref04_Count_spec {x : BitVec 64} : WC R F.ref04_Count [u64 x] m fun v m' => v = .int .i64 (tks x 64).length ∧ Ext m m' := by
  refine WC.of R.ref04_Count rfl ?_
  simp only [RC.ref04_Count, go_sem, not_true_eq_false, beq_self_eq_true, bne_self_eq_false, Bool.false_eq_true, if_false, if_true, Int.cast_ofNat_Int, decide_true, decide_false, reduceCtorEq, Nat.reduceEqDiff, Nat.reduceAdd, ne_eq, not_false_eq_true, Option.map_some, Option.bind_some, Option.map_none, Option.bind_none, true_and, and_true, Bool.not_true, Bool.not_false, Nat.reduceLeDiff, Nat.reduceMul, Nat.reduceSub, Nat.le_refl, Int.reduceToNat, Int.reduceLT, Int.reduceLE, Nat.one_mul, Nat.mul_one]
  refine gC.of ref04_Ticks_spec ?_
  rintro v m1 ⟨ho, hx⟩
  simp only [go_sem, not_true_eq_false, beq_self_eq_true, bne_self_eq_false, Bool.false_eq_true, if_false, if_true, Int.cast_ofNat_Int, decide_true, decide_false, reduceCtorEq, Nat.reduceEqDiff, Nat.reduceAdd, ne_eq, not_false_eq_true, Option.map_some, Option.bind_some, Option.map_none, Option.bind_none, true_and, and_true, Bool.not_true, Bool.not_false, Nat.reduceLeDiff, Nat.reduceMul, Nat.reduceSub, Nat.le_refl, Int.reduceToNat, Int.reduceLT, Int.reduceLE, Nat.one_mul, Nat.mul_one, ho.sl.len]
  exact hx

/-- The word of a list of numbers. -/
def ofW (l : List Int) : BitVec 64 := l.foldl withB 0#64

theorem ofW_take {l : List Int} {i : Nat} (h : i < l.length) : ofW (l.take (i + 1)) = withB (ofW (l.take i)) l[i] := by
  unfold ofW
  rw [List.take_succ_eq_append_getElem h, List.foldl_append]
  rfl

theorem mask_Of_spec {l : List Int} {v : Value} (hs : Sl m 1 l.length (intsZ l) v) (hl : l.length < 1000000) : WC R F.mask_Of [v] m fun v m' => v = u64 (ofW l) ∧ m' = m := by
  refine WC.of R.mask_Of rfl ?_
  simp only [RC.mask_Of, go_sem, not_true_eq_false, beq_self_eq_true, bne_self_eq_false, Bool.false_eq_true, if_false, if_true, Int.cast_ofNat_Int, decide_true, decide_false, reduceCtorEq, Nat.reduceEqDiff, Nat.reduceAdd, ne_eq, not_false_eq_true, Option.map_some, Option.bind_some, Option.map_none, Option.bind_none, true_and, and_true, Bool.not_true, Bool.not_false, Nat.reduceLeDiff, Nat.reduceMul, Nat.reduceSub, Nat.le_refl, Int.reduceToNat, Int.reduceLT, Int.reduceLE, Nat.one_mul, Nat.mul_one, hs.len]
  refine WL.of (fun n e m' => ∃ i : Nat, i ≤ l.length ∧ n = l.length - i ∧ e = [(3, u64 (ofW (l.take i))), (6, v), (7, .int .i64 l.length), (8, .int .i64 i)] ∧ m' = m) l.length ⟨0, by omega, by omega, by simp only [go_sem, not_true_eq_false, beq_self_eq_true, bne_self_eq_false, Bool.false_eq_true, if_false, if_true, Int.cast_ofNat_Int, decide_true, decide_false, reduceCtorEq, Nat.reduceEqDiff, Nat.reduceAdd, ne_eq, not_false_eq_true, Option.map_some, Option.bind_some, Option.map_none, Option.bind_none, true_and, and_true, Bool.not_true, Bool.not_false, Nat.reduceLeDiff, Nat.reduceMul, Nat.reduceSub, Nat.le_refl, Int.reduceToNat, Int.reduceLT, Int.reduceLE, Nat.one_mul, Nat.mul_one] <;> rfl, rfl⟩ ?_
  rintro _ _ _ ⟨i, hi, rfl, rfl, rfl⟩
  simp only [go_sem, not_true_eq_false, beq_self_eq_true, bne_self_eq_false, Bool.false_eq_true, if_false, if_true, Int.cast_ofNat_Int, decide_true, decide_false, reduceCtorEq, Nat.reduceEqDiff, Nat.reduceAdd, ne_eq, not_false_eq_true, Option.map_some, Option.bind_some, Option.map_none, Option.bind_none, true_and, and_true, Bool.not_true, Bool.not_false, Nat.reduceLeDiff, Nat.reduceMul, Nat.reduceSub, Nat.le_refl, Int.reduceToNat, Int.reduceLT, Int.reduceLE, Nat.one_mul, Nat.mul_one]
  refine gT.of (fun h => ?_) (fun h => ?_)
  · simp only [go_sem, not_true_eq_false, beq_self_eq_true, bne_self_eq_false, Bool.false_eq_true, if_false, if_true, Int.cast_ofNat_Int, decide_true, decide_false, reduceCtorEq, Nat.reduceEqDiff, Nat.reduceAdd, ne_eq, not_false_eq_true, Option.map_some, Option.bind_some, Option.map_none, Option.bind_none, true_and, and_true, Bool.not_true, Bool.not_false, Nat.reduceLeDiff, Nat.reduceMul, Nat.reduceSub, Nat.le_refl, Int.reduceToNat, Int.reduceLT, Int.reduceLE, Nat.one_mul, Nat.mul_one, h]
    simp only [decide_eq_true_eq] at h
    have hil : i < l.length := by omega
    obtain ⟨p, e1, e2⟩ := hs.get (k := .i64) (i := i) hil
    have e3 : (intsZ l)[i]? = some (.int .i64 l[i]) := by unfold intsZ; rw [List.getElem?_map, List.getElem?_eq_getElem hil]; rfl
    rw [e3] at e2
    simp only [go_sem, not_true_eq_false, beq_self_eq_true, bne_self_eq_false, Bool.false_eq_true, if_false, if_true, Int.cast_ofNat_Int, decide_true, decide_false, reduceCtorEq, Nat.reduceEqDiff, Nat.reduceAdd, ne_eq, not_false_eq_true, Option.map_some, Option.bind_some, Option.map_none, Option.bind_none, true_and, and_true, Bool.not_true, Bool.not_false, Nat.reduceLeDiff, Nat.reduceMul, Nat.reduceSub, Nat.le_refl, Int.reduceToNat, Int.reduceLT, Int.reduceLE, Nat.one_mul, Nat.mul_one, e1, e2]
    have next : ∀ w, w = withB (ofW (l.take i)) l[i] → ∃ n', n' < l.length - i ∧ ∃ j : Nat, j ≤ l.length ∧ n' = l.length - j ∧
        [(3, u64 w), (6, v), (7, Value.int .i64 l.length), (8, .int .i64 (IntKind.wrap .i64 ((i : Int) + 1)))] = [(3, u64 (ofW (l.take j))), (6, v), (7, .int .i64 l.length), (8, .int .i64 j)] := by
      rintro w rfl
      refine ⟨_, ?_, i + 1, by omega, rfl, ?_⟩
      · omega
      · rw [wrap_i64 (by omega) (by omega), ofW_take hil]; rfl
    refine gT.of (fun h2 => ?_) (fun h2 => ?_)
    · simp only [go_sem, not_true_eq_false, beq_self_eq_true, bne_self_eq_false, Bool.false_eq_true, if_false, if_true, Int.cast_ofNat_Int, decide_true, decide_false, reduceCtorEq, Nat.reduceEqDiff, Nat.reduceAdd, ne_eq, not_false_eq_true, Option.map_some, Option.bind_some, Option.map_none, Option.bind_none, true_and, and_true, Bool.not_true, Bool.not_false, Nat.reduceLeDiff, Nat.reduceMul, Nat.reduceSub, Nat.le_refl, Int.reduceToNat, Int.reduceLT, Int.reduceLE, Nat.one_mul, Nat.mul_one, h2]
      simp only [decide_eq_true_eq] at h2
      refine gT.of (fun h3 => ?_) (fun h3 => ?_)
      · simp only [go_sem, not_true_eq_false, beq_self_eq_true, bne_self_eq_false, Bool.false_eq_true, if_false, if_true, Int.cast_ofNat_Int, decide_true, decide_false, reduceCtorEq, Nat.reduceEqDiff, Nat.reduceAdd, ne_eq, not_false_eq_true, Option.map_some, Option.bind_some, Option.map_none, Option.bind_none, true_and, and_true, Bool.not_true, Bool.not_false, Nat.reduceLeDiff, Nat.reduceMul, Nat.reduceSub, Nat.le_refl, Int.reduceToNat, Int.reduceLT, Int.reduceLE, Nat.one_mul, Nat.mul_one, h2, h3]
        simp only [decide_eq_true_eq] at h3
        exact next _ (by rw [withB, if_pos ⟨h2, h3⟩, setB])
      · simp only [go_sem, not_true_eq_false, beq_self_eq_true, bne_self_eq_false, Bool.false_eq_true, if_false, if_true, Int.cast_ofNat_Int, decide_true, decide_false, reduceCtorEq, Nat.reduceEqDiff, Nat.reduceAdd, ne_eq, not_false_eq_true, Option.map_some, Option.bind_some, Option.map_none, Option.bind_none, true_and, and_true, Bool.not_true, Bool.not_false, Nat.reduceLeDiff, Nat.reduceMul, Nat.reduceSub, Nat.le_refl, Int.reduceToNat, Int.reduceLT, Int.reduceLE, Nat.one_mul, Nat.mul_one, h2, h3]
        simp only [decide_eq_false_iff_not] at h3
        exact next _ (by rw [withB, if_neg (by omega)])
    · simp only [go_sem, not_true_eq_false, beq_self_eq_true, bne_self_eq_false, Bool.false_eq_true, if_false, if_true, Int.cast_ofNat_Int, decide_true, decide_false, reduceCtorEq, Nat.reduceEqDiff, Nat.reduceAdd, ne_eq, not_false_eq_true, Option.map_some, Option.bind_some, Option.map_none, Option.bind_none, true_and, and_true, Bool.not_true, Bool.not_false, Nat.reduceLeDiff, Nat.reduceMul, Nat.reduceSub, Nat.le_refl, Int.reduceToNat, Int.reduceLT, Int.reduceLE, Nat.one_mul, Nat.mul_one, h2]
      simp only [decide_eq_false_iff_not] at h2
      exact next _ (by rw [withB, if_neg (by omega)])
  · simp only [go_sem, not_true_eq_false, beq_self_eq_true, bne_self_eq_false, Bool.false_eq_true, if_false, if_true, Int.cast_ofNat_Int, decide_true, decide_false, reduceCtorEq, Nat.reduceEqDiff, Nat.reduceAdd, ne_eq, not_false_eq_true, Option.map_some, Option.bind_some, Option.map_none, Option.bind_none, true_and, and_true, Bool.not_true, Bool.not_false, Nat.reduceLeDiff, Nat.reduceMul, Nat.reduceSub, Nat.le_refl, Int.reduceToNat, Int.reduceLT, Int.reduceLE, Nat.one_mul, Nat.mul_one, h]
    simp only [decide_eq_false_iff_not] at h
    have : i = l.length := by omega
    subst this
    rw [List.take_length]
end Go.Am


/- The functions of the masks that read slices. -/
set_option linter.unusedVariables false
set_option linter.unusedSimpArgs false
namespace Go.Am

variable {m : Mem}

theorem intsZ_get {l : List Int} {i : Nat} (h : i < l.length) : (intsZ l)[i]? = some (.int .i64 l[i]) := by
  unfold intsZ; rw [List.getElem?_map, List.getElem?_eq_getElem h]; rfl

theorem ref04_Of_spec {l : List Int} {v : Value} (hs : Sl m 1 l.length (intsZ l) v) (hl : l.length < 1000000) : WC R F.ref04_Of [v] m fun v m' => v = u64 (ofW l) ∧ m' = m := by
  refine WC.of R.ref04_Of rfl ?_
  simp only [RC.ref04_Of, go_sem, not_true_eq_false, beq_self_eq_true, bne_self_eq_false, Bool.false_eq_true, if_false, if_true, Int.cast_ofNat_Int, decide_true, decide_false, reduceCtorEq, Nat.reduceEqDiff, Nat.reduceAdd, ne_eq, not_false_eq_true, Option.map_some, Option.bind_some, Option.map_none, Option.bind_none, true_and, and_true, Bool.not_true, Bool.not_false, Nat.reduceLeDiff, Nat.reduceMul, Nat.reduceSub, Nat.le_refl, Int.reduceToNat, Int.reduceLT, Int.reduceLE, Nat.one_mul, Nat.mul_one]
  refine WL.of (fun n e m' => ∃ i : Nat, i ≤ l.length ∧ n = l.length - i ∧ e = [(0, v), (3, u64 (ofW (l.take i))), (4, .int .i64 i)] ∧ m' = m) l.length ⟨0, by omega, by omega, by simp only [go_sem, not_true_eq_false, beq_self_eq_true, bne_self_eq_false, Bool.false_eq_true, if_false, if_true, Int.cast_ofNat_Int, decide_true, decide_false, reduceCtorEq, Nat.reduceEqDiff, Nat.reduceAdd, ne_eq, not_false_eq_true, Option.map_some, Option.bind_some, Option.map_none, Option.bind_none, true_and, and_true, Bool.not_true, Bool.not_false, Nat.reduceLeDiff, Nat.reduceMul, Nat.reduceSub, Nat.le_refl, Int.reduceToNat, Int.reduceLT, Int.reduceLE, Nat.one_mul, Nat.mul_one] <;> rfl, rfl⟩ ?_
  rintro _ _ _ ⟨i, hi, rfl, rfl, rfl⟩
  simp only [go_sem, not_true_eq_false, beq_self_eq_true, bne_self_eq_false, Bool.false_eq_true, if_false, if_true, Int.cast_ofNat_Int, decide_true, decide_false, reduceCtorEq, Nat.reduceEqDiff, Nat.reduceAdd, ne_eq, not_false_eq_true, Option.map_some, Option.bind_some, Option.map_none, Option.bind_none, true_and, and_true, Bool.not_true, Bool.not_false, Nat.reduceLeDiff, Nat.reduceMul, Nat.reduceSub, Nat.le_refl, Int.reduceToNat, Int.reduceLT, Int.reduceLE, Nat.one_mul, Nat.mul_one, hs.len]
  refine gT.of (fun h => ?_) (fun h => ?_)
  · simp only [go_sem, not_true_eq_false, beq_self_eq_true, bne_self_eq_false, Bool.false_eq_true, if_false, if_true, Int.cast_ofNat_Int, decide_true, decide_false, reduceCtorEq, Nat.reduceEqDiff, Nat.reduceAdd, ne_eq, not_false_eq_true, Option.map_some, Option.bind_some, Option.map_none, Option.bind_none, true_and, and_true, Bool.not_true, Bool.not_false, Nat.reduceLeDiff, Nat.reduceMul, Nat.reduceSub, Nat.le_refl, Int.reduceToNat, Int.reduceLT, Int.reduceLE, Nat.one_mul, Nat.mul_one, h]
    simp only [decide_eq_true_eq] at h
    have hil : i < l.length := by omega
    obtain ⟨p, e1, e2⟩ := hs.get (k := .i64) (i := i) hil
    rw [intsZ_get hil] at e2
    simp only [go_sem, not_true_eq_false, beq_self_eq_true, bne_self_eq_false, Bool.false_eq_true, if_false, if_true, Int.cast_ofNat_Int, decide_true, decide_false, reduceCtorEq, Nat.reduceEqDiff, Nat.reduceAdd, ne_eq, not_false_eq_true, Option.map_some, Option.bind_some, Option.map_none, Option.bind_none, true_and, and_true, Bool.not_true, Bool.not_false, Nat.reduceLeDiff, Nat.reduceMul, Nat.reduceSub, Nat.le_refl, Int.reduceToNat, Int.reduceLT, Int.reduceLE, Nat.one_mul, Nat.mul_one, e1, e2]
    refine gC.of ref04_With_spec ?_
    rintro _ m_ ⟨rfl, hm_⟩
    replace hm_ := hm_.symm
    subst hm_
    simp only [go_sem, not_true_eq_false, beq_self_eq_true, bne_self_eq_false, Bool.false_eq_true, if_false, if_true, Int.cast_ofNat_Int, decide_true, decide_false, reduceCtorEq, Nat.reduceEqDiff, Nat.reduceAdd, ne_eq, not_false_eq_true, Option.map_some, Option.bind_some, Option.map_none, Option.bind_none, true_and, and_true, Bool.not_true, Bool.not_false, Nat.reduceLeDiff, Nat.reduceMul, Nat.reduceSub, Nat.le_refl, Int.reduceToNat, Int.reduceLT, Int.reduceLE, Nat.one_mul, Nat.mul_one]
    refine ⟨_, ?_, i + 1, by omega, rfl, ?_⟩
    · omega
    · rw [wrap_i64 (by omega) (by omega), ofW_take hil]; rfl
  · simp only [go_sem, not_true_eq_false, beq_self_eq_true, bne_self_eq_false, Bool.false_eq_true, if_false, if_true, Int.cast_ofNat_Int, decide_true, decide_false, reduceCtorEq, Nat.reduceEqDiff, Nat.reduceAdd, ne_eq, not_false_eq_true, Option.map_some, Option.bind_some, Option.map_none, Option.bind_none, true_and, and_true, Bool.not_true, Bool.not_false, Nat.reduceLeDiff, Nat.reduceMul, Nat.reduceSub, Nat.le_refl, Int.reduceToNat, Int.reduceLT, Int.reduceLE, Nat.one_mul, Nat.mul_one, h]
    simp only [decide_eq_false_iff_not] at h
    have : i = l.length := by omega
    subst this
    rw [List.take_length]

theorem ref03_Same_spec {l k : List Int} {v w : Value} (hs : Sl m 1 l.length (intsZ l) v) (ht : Sl m 1 k.length (intsZ k) w) (hl : l.length < 1000000) (hk : k.length < 1000000) :
    WC R F.ref03_Same [v, w] m fun r m' => r = .bool (decide (l = k)) ∧ m' = m := by
  refine WC.of R.ref03_Same rfl ?_
  simp only [RC.ref03_Same, go_sem, not_true_eq_false, beq_self_eq_true, bne_self_eq_false, Bool.false_eq_true, if_false, if_true, Int.cast_ofNat_Int, decide_true, decide_false, reduceCtorEq, Nat.reduceEqDiff, Nat.reduceAdd, ne_eq, not_false_eq_true, Option.map_some, Option.bind_some, Option.map_none, Option.bind_none, true_and, and_true, Bool.not_true, Bool.not_false, Nat.reduceLeDiff, Nat.reduceMul, Nat.reduceSub, Nat.le_refl, Int.reduceToNat, Int.reduceLT, Int.reduceLE, Nat.one_mul, Nat.mul_one, hs.len, ht.len]
  refine gT.of (fun h => ?_) (fun h => ?_)
  · simp only [go_sem, not_true_eq_false, beq_self_eq_true, bne_self_eq_false, Bool.false_eq_true, if_false, if_true, Int.cast_ofNat_Int, decide_true, decide_false, reduceCtorEq, Nat.reduceEqDiff, Nat.reduceAdd, ne_eq, not_false_eq_true, Option.map_some, Option.bind_some, Option.map_none, Option.bind_none, true_and, and_true, Bool.not_true, Bool.not_false, Nat.reduceLeDiff, Nat.reduceMul, Nat.reduceSub, Nat.le_refl, Int.reduceToNat, Int.reduceLT, Int.reduceLE, Nat.one_mul, Nat.mul_one, h]
    simp only [bne_iff_ne] at h
    have : l ≠ k := by rintro rfl; exact h rfl
    simp [this]
  · simp only [go_sem, not_true_eq_false, beq_self_eq_true, bne_self_eq_false, Bool.false_eq_true, if_false, if_true, Int.cast_ofNat_Int, decide_true, decide_false, reduceCtorEq, Nat.reduceEqDiff, Nat.reduceAdd, ne_eq, not_false_eq_true, Option.map_some, Option.bind_some, Option.map_none, Option.bind_none, true_and, and_true, Bool.not_true, Bool.not_false, Nat.reduceLeDiff, Nat.reduceMul, Nat.reduceSub, Nat.le_refl, Int.reduceToNat, Int.reduceLT, Int.reduceLE, Nat.one_mul, Nat.mul_one, h]
    have hlk' : (l.length : Int) = k.length := by simpa using h
    have hlk : l.length = k.length := by omega
    refine WL.of (fun n e m' => ∃ i : Nat, i ≤ l.length ∧ n = l.length - i ∧ e = [(0, v), (1, w), (5, .int .i64 i)] ∧ (∀ j (h1 : j < l.length) (h2 : j < k.length), j < i → l[j] = k[j]) ∧ m' = m) l.length
      ⟨0, by omega, by omega, by simp only [go_sem, not_true_eq_false, beq_self_eq_true, bne_self_eq_false, Bool.false_eq_true, if_false, if_true, Int.cast_ofNat_Int, decide_true, decide_false, reduceCtorEq, Nat.reduceEqDiff, Nat.reduceAdd, ne_eq, not_false_eq_true, Option.map_some, Option.bind_some, Option.map_none, Option.bind_none, true_and, and_true, Bool.not_true, Bool.not_false, Nat.reduceLeDiff, Nat.reduceMul, Nat.reduceSub, Nat.le_refl, Int.reduceToNat, Int.reduceLT, Int.reduceLE, Nat.one_mul, Nat.mul_one] <;> rfl, fun _ _ _ h => by omega, rfl⟩ ?_
    rintro _ _ _ ⟨i, hi, rfl, rfl, hj, rfl⟩
    simp only [go_sem, not_true_eq_false, beq_self_eq_true, bne_self_eq_false, Bool.false_eq_true, if_false, if_true, Int.cast_ofNat_Int, decide_true, decide_false, reduceCtorEq, Nat.reduceEqDiff, Nat.reduceAdd, ne_eq, not_false_eq_true, Option.map_some, Option.bind_some, Option.map_none, Option.bind_none, true_and, and_true, Bool.not_true, Bool.not_false, Nat.reduceLeDiff, Nat.reduceMul, Nat.reduceSub, Nat.le_refl, Int.reduceToNat, Int.reduceLT, Int.reduceLE, Nat.one_mul, Nat.mul_one, hs.len]
    refine gT.of (fun h2 => ?_) (fun h2 => ?_)
    · simp only [go_sem, not_true_eq_false, beq_self_eq_true, bne_self_eq_false, Bool.false_eq_true, if_false, if_true, Int.cast_ofNat_Int, decide_true, decide_false, reduceCtorEq, Nat.reduceEqDiff, Nat.reduceAdd, ne_eq, not_false_eq_true, Option.map_some, Option.bind_some, Option.map_none, Option.bind_none, true_and, and_true, Bool.not_true, Bool.not_false, Nat.reduceLeDiff, Nat.reduceMul, Nat.reduceSub, Nat.le_refl, Int.reduceToNat, Int.reduceLT, Int.reduceLE, Nat.one_mul, Nat.mul_one, h2]
      simp only [decide_eq_true_eq] at h2
      have hil : i < l.length := by omega
      have hik : i < k.length := by omega
      obtain ⟨p, e1, e2⟩ := hs.get (k := .i64) (i := i) hil
      obtain ⟨q, e3, e4⟩ := ht.get (k := .i64) (i := i) hik
      rw [intsZ_get hil] at e2
      rw [intsZ_get hik] at e4
      simp only [go_sem, not_true_eq_false, beq_self_eq_true, bne_self_eq_false, Bool.false_eq_true, if_false, if_true, Int.cast_ofNat_Int, decide_true, decide_false, reduceCtorEq, Nat.reduceEqDiff, Nat.reduceAdd, ne_eq, not_false_eq_true, Option.map_some, Option.bind_some, Option.map_none, Option.bind_none, true_and, and_true, Bool.not_true, Bool.not_false, Nat.reduceLeDiff, Nat.reduceMul, Nat.reduceSub, Nat.le_refl, Int.reduceToNat, Int.reduceLT, Int.reduceLE, Nat.one_mul, Nat.mul_one, e1, e2, e3, e4]
      refine gT.of (fun h3 => ?_) (fun h3 => ?_)
      · simp only [go_sem, not_true_eq_false, beq_self_eq_true, bne_self_eq_false, Bool.false_eq_true, if_false, if_true, Int.cast_ofNat_Int, decide_true, decide_false, reduceCtorEq, Nat.reduceEqDiff, Nat.reduceAdd, ne_eq, not_false_eq_true, Option.map_some, Option.bind_some, Option.map_none, Option.bind_none, true_and, and_true, Bool.not_true, Bool.not_false, Nat.reduceLeDiff, Nat.reduceMul, Nat.reduceSub, Nat.le_refl, Int.reduceToNat, Int.reduceLT, Int.reduceLE, Nat.one_mul, Nat.mul_one, h3]
        have : l ≠ k := by rintro rfl; simp at h3
        simp [this]
      · simp only [go_sem, not_true_eq_false, beq_self_eq_true, bne_self_eq_false, Bool.false_eq_true, if_false, if_true, Int.cast_ofNat_Int, decide_true, decide_false, reduceCtorEq, Nat.reduceEqDiff, Nat.reduceAdd, ne_eq, not_false_eq_true, Option.map_some, Option.bind_some, Option.map_none, Option.bind_none, true_and, and_true, Bool.not_true, Bool.not_false, Nat.reduceLeDiff, Nat.reduceMul, Nat.reduceSub, Nat.le_refl, Int.reduceToNat, Int.reduceLT, Int.reduceLE, Nat.one_mul, Nat.mul_one, h3]
        have h4 : l[i] = k[i] := by simpa using h3
        refine ⟨_, ?_, i + 1, by omega, rfl, ?_, ?_⟩
        · omega
        · rw [wrap_i64 (by omega) (by omega)]; rfl
        · intro j g1 g2 g3
          by_cases e : j = i
          · subst e; exact h4
          · exact hj j g1 g2 (by omega)
    · simp only [go_sem, not_true_eq_false, beq_self_eq_true, bne_self_eq_false, Bool.false_eq_true, if_false, if_true, Int.cast_ofNat_Int, decide_true, decide_false, reduceCtorEq, Nat.reduceEqDiff, Nat.reduceAdd, ne_eq, not_false_eq_true, Option.map_some, Option.bind_some, Option.map_none, Option.bind_none, true_and, and_true, Bool.not_true, Bool.not_false, Nat.reduceLeDiff, Nat.reduceMul, Nat.reduceSub, Nat.le_refl, Int.reduceToNat, Int.reduceLT, Int.reduceLE, Nat.one_mul, Nat.mul_one, h2]
      simp only [decide_eq_false_iff_not] at h2
      have : l = k := List.ext_getElem hlk fun j g1 g2 => hj j g1 g2 (by omega)
      simp [this]
end Go.Am


/- The i-th number of a word. -/
set_option linter.unusedVariables false
set_option linter.unusedSimpArgs false
namespace Go.Am

variable {m : Mem}

/-- How many numbers of a word are below j. -/
def rank (x : BitVec 64) (j : Nat) : Nat := (tks x j).length

theorem rank_succ {x : BitVec 64} {j : Nat} : rank x (j + 1) = rank x j + (if x.getLsbD j then 1 else 0) := by
  unfold rank
  rw [tks_succ]
  split <;> simp

theorem rank_mono {x : BitVec 64} {i j : Nat} (h : i ≤ j) : rank x i ≤ rank x j := by
  induction j with
  | zero => have : i = 0 := by omega
            subst this; exact Nat.le_refl _
  | succ j ih =>
    by_cases e : i = j + 1
    · subst e; exact Nat.le_refl _
    · have := ih (by omega); rw [rank_succ]; omega

theorem rank_lt {x : BitVec 64} {i j : Nat} (h : i < j) (hb : x.getLsbD i = true) : rank x i < rank x j := by
  have h1 := rank_mono (x := x) (i := i + 1) (j := j) h
  rw [rank_succ, if_pos hb] at h1
  omega

theorem tks_get {x : BitVec 64} : ∀ {n i : Nat} (h : i < (tks x n).length), (tks x n)[i] < n ∧ x.getLsbD (tks x n)[i] = true ∧ rank x (tks x n)[i] = i := by
  intro n
  induction n with
  | zero => intro i h; simp [tks] at h
  | succ n ih =>
    intro i h
    by_cases hb : x.getLsbD n = true
    · have e : tks x (n + 1) = tks x n ++ [n] := by rw [tks_succ, if_pos hb]
      by_cases hi : i < (tks x n).length
      · obtain ⟨h1, h2, h3⟩ := ih hi
        have e2 : (tks x (n + 1))[i] = (tks x n)[i] := by simp only [e]; rw [List.getElem_append_left hi]
        rw [e2]; exact ⟨by omega, h2, h3⟩
      · have hil : i = (tks x n).length := by rw [e] at h; simp at h; omega
        have e2 : (tks x (n + 1))[i] = n := by simp only [e]; rw [List.getElem_append_right (by omega)]; simp
        rw [e2]; exact ⟨by omega, hb, by unfold rank; exact hil.symm⟩
    · have e : tks x (n + 1) = tks x n := by rw [tks_succ, if_neg hb]; simp
      have hi : i < (tks x n).length := by rw [e] at h; exact h
      obtain ⟨h1, h2, h3⟩ := ih hi
      have e2 : (tks x (n + 1))[i] = (tks x n)[i] := by simp only [e]
      rw [e2]; exact ⟨by omega, h2, h3⟩

theorem rank_inj {x : BitVec 64} {i j : Nat} (hi : x.getLsbD i = true) (hj : x.getLsbD j = true) (h : rank x i = rank x j) : i = j := by
  rcases Nat.lt_trichotomy i j with h1 | h1 | h1
  · have := rank_lt h1 hi; omega
  · exact h1
  · have := rank_lt h1 hj; omega

theorem tks_at {x : BitVec 64} {n i j : Nat} (h : i < (tks x n).length) (hj : x.getLsbD j = true) (hr : rank x j = i) : (tks x n)[i] = j := by
  obtain ⟨_, h2, h3⟩ := tks_get h
  exact rank_inj h2 hj (by omega)

/-- The lowest k numbers: by their ranks. -/
def isLow (x w : BitVec 64) (k : Int) : Prop := ∀ j, j < 64 → w.getLsbD j = (x.getLsbD j && decide ((rank x j : Int) < k))

theorem isLow_uniq {x w w' : BitVec 64} {k : Int} (h : isLow x w k) (h' : isLow x w' k) : w = w' := word_ext fun j hj => by rw [h j hj, h' j hj]

theorem low_step {x w : BitVec 64} {i : Nat} (h : i < (tks x 64).length) (hw : isLow x w i) : isLow x (withB w ((tks x 64)[i] : Nat)) (i + 1 : Nat) := by
  obtain ⟨h1, h2, h3⟩ := tks_get h
  intro j hj
  rw [withB_bit hj, hw j hj, Bool.eq_iff_iff]
  simp only [Bool.or_eq_true, Bool.and_eq_true, decide_eq_true_eq]
  constructor
  · rintro (⟨g1, g2⟩ | g)
    · exact ⟨g1, by omega⟩
    · have : j = (tks x 64)[i] := by omega
      subst this; exact ⟨h2, by omega⟩
  · rintro ⟨g1, g2⟩
    by_cases g3 : rank x j = i
    · right; rw [tks_at h g1 g3]
    · left; exact ⟨g1, by omega⟩

/-- How many bits there are. -/
theorem popN_rank : ∀ (n : Nat) (x : BitVec 64), n ≤ 64 → popN n x.toNat = rank x n := by
  intro n
  induction n with
  | zero => intro x _; rfl
  | succ n ih =>
    intro x hn
    rw [popN_add n 1, ih x (by omega), rank_succ]
    have : x.getLsbD n = x.toNat.testBit n := rfl
    rw [this, Nat.testBit_eq_decide_div_mod_eq]
    simp only [popN, Nat.add_zero, decide_eq_true_eq]
    split <;> omega

theorem pop_rank (x : BitVec 64) : pop x = rank x 64 := popN_rank 64 x (Nat.le_refl _)
theorem rank_le (x : BitVec 64) (n : Nat) : rank x n ≤ n := tks_len
end Go.Am


/- The lowest and the highest ticks. -/
set_option linter.unusedVariables false
set_option linter.unusedSimpArgs false
namespace Go.Am

variable {m : Mem}

theorem ints_get {l : List Nat} {i : Nat} (h : i < l.length) : (ints l)[i]? = some (.int .i64 (l[i] : Nat)) := by
  unfold ints; rw [List.getElem?_map, List.getElem?_eq_getElem h]; rfl

theorem ref04_Lowest_spec {x : BitVec 64} {k : Int} : WC R F.ref04_Lowest [u64 x, .int .i64 k] m fun v m' => (∃ w, v = u64 w ∧ isLow x w k) ∧ Ext m m' := by
  refine WC.of R.ref04_Lowest rfl ?_
  simp only [RC.ref04_Lowest, go_sem, not_true_eq_false, beq_self_eq_true, bne_self_eq_false, Bool.false_eq_true, if_false, if_true, Int.cast_ofNat_Int, decide_true, decide_false, reduceCtorEq, Nat.reduceEqDiff, Nat.reduceAdd, ne_eq, not_false_eq_true, Option.map_some, Option.bind_some, Option.map_none, Option.bind_none, true_and, and_true, Bool.not_true, Bool.not_false, Nat.reduceLeDiff, Nat.reduceMul, Nat.reduceSub, Nat.le_refl, Int.reduceToNat, Int.reduceLT, Int.reduceLE, Nat.one_mul, Nat.mul_one]
  refine gC.of ref04_Ticks_spec ?_
  rintro v m1 ⟨ho, hx⟩
  simp only [go_sem, not_true_eq_false, beq_self_eq_true, bne_self_eq_false, Bool.false_eq_true, if_false, if_true, Int.cast_ofNat_Int, decide_true, decide_false, reduceCtorEq, Nat.reduceEqDiff, Nat.reduceAdd, ne_eq, not_false_eq_true, Option.map_some, Option.bind_some, Option.map_none, Option.bind_none, true_and, and_true, Bool.not_true, Bool.not_false, Nat.reduceLeDiff, Nat.reduceMul, Nat.reduceSub, Nat.le_refl, Int.reduceToNat, Int.reduceLT, Int.reduceLE, Nat.one_mul, Nat.mul_one, ho.sl.len]
  have hs := ho.sl
  refine WL.of (fun n e m' => ∃ (i : Nat) (w : BitVec 64), i ≤ (tks x 64).length ∧ n = (tks x 64).length - i ∧ e = [(1, .int .i64 k), (5, u64 w), (6, v), (7, .int .i64 i)] ∧ isLow x w i ∧ ((i : Int) ≤ k ∨ i = 0) ∧ m' = m1) (tks x 64).length
    ⟨0, _, by omega, by omega, by simp only [go_sem, not_true_eq_false, beq_self_eq_true, bne_self_eq_false, Bool.false_eq_true, if_false, if_true, Int.cast_ofNat_Int, decide_true, decide_false, reduceCtorEq, Nat.reduceEqDiff, Nat.reduceAdd, ne_eq, not_false_eq_true, Option.map_some, Option.bind_some, Option.map_none, Option.bind_none, true_and, and_true, Bool.not_true, Bool.not_false, Nat.reduceLeDiff, Nat.reduceMul, Nat.reduceSub, Nat.le_refl, Int.reduceToNat, Int.reduceLT, Int.reduceLE, Nat.one_mul, Nat.mul_one] <;> rfl, fun j hj => by simp, .inr rfl, rfl⟩ ?_
  rintro _ _ _ ⟨i, w, hi, rfl, rfl, hw, hik, rfl⟩
  simp only [go_sem, not_true_eq_false, beq_self_eq_true, bne_self_eq_false, Bool.false_eq_true, if_false, if_true, Int.cast_ofNat_Int, decide_true, decide_false, reduceCtorEq, Nat.reduceEqDiff, Nat.reduceAdd, ne_eq, not_false_eq_true, Option.map_some, Option.bind_some, Option.map_none, Option.bind_none, true_and, and_true, Bool.not_true, Bool.not_false, Nat.reduceLeDiff, Nat.reduceMul, Nat.reduceSub, Nat.le_refl, Int.reduceToNat, Int.reduceLT, Int.reduceLE, Nat.one_mul, Nat.mul_one, hs.len]
  have h64 := rank_le x 64
  have hdone : (¬ (i : Int) < (tks x 64).length ∨ ¬ (i : Int) < k) → isLow x w k := by
    intro h j hj
    rw [hw j hj, Bool.eq_iff_iff]
    simp only [Bool.and_eq_true, decide_eq_true_eq]
    constructor
    · rintro ⟨g1, g2⟩
      exact ⟨g1, by rcases hik with g | g <;> omega⟩
    · rintro ⟨g1, g2⟩
      refine ⟨g1, ?_⟩
      rcases h with h | h
      · have := rank_lt (x := x) (i := j) (j := 64) hj g1
        have e : rank x 64 = (tks x 64).length := rfl
        omega
      · omega
  refine gT.of (fun h => ?_) (fun h => ?_)
  · simp only [go_sem, not_true_eq_false, beq_self_eq_true, bne_self_eq_false, Bool.false_eq_true, if_false, if_true, Int.cast_ofNat_Int, decide_true, decide_false, reduceCtorEq, Nat.reduceEqDiff, Nat.reduceAdd, ne_eq, not_false_eq_true, Option.map_some, Option.bind_some, Option.map_none, Option.bind_none, true_and, and_true, Bool.not_true, Bool.not_false, Nat.reduceLeDiff, Nat.reduceMul, Nat.reduceSub, Nat.le_refl, Int.reduceToNat, Int.reduceLT, Int.reduceLE, Nat.one_mul, Nat.mul_one, h]
    simp only [decide_eq_true_eq] at h
    refine gT.of (fun h2 => ?_) (fun h2 => ?_)
    · simp only [go_sem, not_true_eq_false, beq_self_eq_true, bne_self_eq_false, Bool.false_eq_true, if_false, if_true, Int.cast_ofNat_Int, decide_true, decide_false, reduceCtorEq, Nat.reduceEqDiff, Nat.reduceAdd, ne_eq, not_false_eq_true, Option.map_some, Option.bind_some, Option.map_none, Option.bind_none, true_and, and_true, Bool.not_true, Bool.not_false, Nat.reduceLeDiff, Nat.reduceMul, Nat.reduceSub, Nat.le_refl, Int.reduceToNat, Int.reduceLT, Int.reduceLE, Nat.one_mul, Nat.mul_one, h2]
      simp only [decide_eq_true_eq] at h2
      have hil : i < (tks x 64).length := by omega
      obtain ⟨p, e1, e2⟩ := hs.get (k := .i64) (i := i) hil
      rw [ints_get hil] at e2
      simp only [go_sem, not_true_eq_false, beq_self_eq_true, bne_self_eq_false, Bool.false_eq_true, if_false, if_true, Int.cast_ofNat_Int, decide_true, decide_false, reduceCtorEq, Nat.reduceEqDiff, Nat.reduceAdd, ne_eq, not_false_eq_true, Option.map_some, Option.bind_some, Option.map_none, Option.bind_none, true_and, and_true, Bool.not_true, Bool.not_false, Nat.reduceLeDiff, Nat.reduceMul, Nat.reduceSub, Nat.le_refl, Int.reduceToNat, Int.reduceLT, Int.reduceLE, Nat.one_mul, Nat.mul_one, e1, e2]
      refine gC.of ref04_With_spec ?_
      rintro _ m_ ⟨rfl, hm_⟩
      replace hm_ := hm_.symm
      subst hm_
      simp only [go_sem, not_true_eq_false, beq_self_eq_true, bne_self_eq_false, Bool.false_eq_true, if_false, if_true, Int.cast_ofNat_Int, decide_true, decide_false, reduceCtorEq, Nat.reduceEqDiff, Nat.reduceAdd, ne_eq, not_false_eq_true, Option.map_some, Option.bind_some, Option.map_none, Option.bind_none, true_and, and_true, Bool.not_true, Bool.not_false, Nat.reduceLeDiff, Nat.reduceMul, Nat.reduceSub, Nat.le_refl, Int.reduceToNat, Int.reduceLT, Int.reduceLE, Nat.one_mul, Nat.mul_one]
      have h5 : (tks x 64).length ≤ 64 := h64
      refine ⟨_, ?_, i + 1, _, by omega, rfl, ?_, low_step hil hw, .inl (by omega)⟩
      · omega
      · rw [wrap_i64 (by omega) (by omega)]; rfl
    · simp only [go_sem, not_true_eq_false, beq_self_eq_true, bne_self_eq_false, Bool.false_eq_true, if_false, if_true, Int.cast_ofNat_Int, decide_true, decide_false, reduceCtorEq, Nat.reduceEqDiff, Nat.reduceAdd, ne_eq, not_false_eq_true, Option.map_some, Option.bind_some, Option.map_none, Option.bind_none, true_and, and_true, Bool.not_true, Bool.not_false, Nat.reduceLeDiff, Nat.reduceMul, Nat.reduceSub, Nat.le_refl, Int.reduceToNat, Int.reduceLT, Int.reduceLE, Nat.one_mul, Nat.mul_one, h2]
      simp only [decide_eq_false_iff_not] at h2
      exact ⟨⟨_, rfl, hdone (.inr h2)⟩, hx⟩
  · simp only [go_sem, not_true_eq_false, beq_self_eq_true, bne_self_eq_false, Bool.false_eq_true, if_false, if_true, Int.cast_ofNat_Int, decide_true, decide_false, reduceCtorEq, Nat.reduceEqDiff, Nat.reduceAdd, ne_eq, not_false_eq_true, Option.map_some, Option.bind_some, Option.map_none, Option.bind_none, true_and, and_true, Bool.not_true, Bool.not_false, Nat.reduceLeDiff, Nat.reduceMul, Nat.reduceSub, Nat.le_refl, Int.reduceToNat, Int.reduceLT, Int.reduceLE, Nat.one_mul, Nat.mul_one, h]
    simp only [decide_eq_false_iff_not] at h
    exact ⟨⟨_, rfl, hdone (.inl h)⟩, hx⟩

theorem low_neg {x : BitVec 64} (h : x ≠ 0#64) : x &&& -x = 1#64 <<< low x := by
  have h0 : x.toNat ≠ 0 := by
    intro e; apply h; apply BitVec.eq_of_toNat_eq; simpa using e
  obtain ⟨h1, h2⟩ := Lib.lowest_bit 64 x.toNat h0 x.isLt
  have hlt : 2 ^ low x < 2 ^ 64 := Nat.pow_lt_pow_right (by omega) h2
  apply BitVec.eq_of_toNat_eq
  rw [BitVec.toNat_and, BitVec.toNat_neg, BitVec.toNat_shiftLeft, Nat.shiftLeft_eq]
  have := x.isLt
  rw [Nat.mod_eq_of_lt (by omega : 2 ^ 64 - x.toNat < 2 ^ 64), h1]
  show 2 ^ low x = _
  rw [show (1#64).toNat = 1 from rfl, Nat.one_mul, Nat.mod_eq_of_lt hlt]

theorem clear_low {x : BitVec 64} (h : x ≠ 0#64) (j : Nat) (hj : j < 64) : (x &&& ~~~(1#64 <<< low x)).getLsbD j = (x.getLsbD j && decide (j ≠ low x)) := by
  rw [BitVec.getLsbD_and, BitVec.getLsbD_not, one_bit (low_spec h).1]
  simp [hj]

theorem mask_Lowest_spec {x : BitVec 64} {k : Int} : WC R F.mask_Lowest [u64 x, .int .i64 k] m fun v m' => (∃ w, v = u64 w ∧ isLow x w k) ∧ m' = m := by
  refine WC.of R.mask_Lowest rfl ?_
  simp only [RC.mask_Lowest, go_sem, not_true_eq_false, beq_self_eq_true, bne_self_eq_false, Bool.false_eq_true, if_false, if_true, Int.cast_ofNat_Int, decide_true, decide_false, reduceCtorEq, Nat.reduceEqDiff, Nat.reduceAdd, ne_eq, not_false_eq_true, Option.map_some, Option.bind_some, Option.map_none, Option.bind_none, true_and, and_true, Bool.not_true, Bool.not_false, Nat.reduceLeDiff, Nat.reduceMul, Nat.reduceSub, Nat.le_refl, Int.reduceToNat, Int.reduceLT, Int.reduceLE, Nat.one_mul, Nat.mul_one]
  refine gC.of mask_Count_spec ?_
  rintro _ m_ ⟨rfl, hm_⟩
  replace hm_ := hm_.symm
  subst hm_
  simp only [go_sem, not_true_eq_false, beq_self_eq_true, bne_self_eq_false, Bool.false_eq_true, if_false, if_true, Int.cast_ofNat_Int, decide_true, decide_false, reduceCtorEq, Nat.reduceEqDiff, Nat.reduceAdd, ne_eq, not_false_eq_true, Option.map_some, Option.bind_some, Option.map_none, Option.bind_none, true_and, and_true, Bool.not_true, Bool.not_false, Nat.reduceLeDiff, Nat.reduceMul, Nat.reduceSub, Nat.le_refl, Int.reduceToNat, Int.reduceLT, Int.reduceLE, Nat.one_mul, Nat.mul_one]
  rw [pop_rank]
  have h64 := rank_le x 64
  refine gT.of (fun h => ?_) (fun h => ?_)
  · simp only [go_sem, not_true_eq_false, beq_self_eq_true, bne_self_eq_false, Bool.false_eq_true, if_false, if_true, Int.cast_ofNat_Int, decide_true, decide_false, reduceCtorEq, Nat.reduceEqDiff, Nat.reduceAdd, ne_eq, not_false_eq_true, Option.map_some, Option.bind_some, Option.map_none, Option.bind_none, true_and, and_true, Bool.not_true, Bool.not_false, Nat.reduceLeDiff, Nat.reduceMul, Nat.reduceSub, Nat.le_refl, Int.reduceToNat, Int.reduceLT, Int.reduceLE, Nat.one_mul, Nat.mul_one, h]
    simp only [decide_eq_true_eq] at h
    refine ⟨x, rfl, fun j hj => ?_⟩
    cases hb : x.getLsbD j with
    | false => simp
    | true =>
      have := rank_lt hj hb
      simp; omega
  · simp only [go_sem, not_true_eq_false, beq_self_eq_true, bne_self_eq_false, Bool.false_eq_true, if_false, if_true, Int.cast_ofNat_Int, decide_true, decide_false, reduceCtorEq, Nat.reduceEqDiff, Nat.reduceAdd, ne_eq, not_false_eq_true, Option.map_some, Option.bind_some, Option.map_none, Option.bind_none, true_and, and_true, Bool.not_true, Bool.not_false, Nat.reduceLeDiff, Nat.reduceMul, Nat.reduceSub, Nat.le_refl, Int.reduceToNat, Int.reduceLT, Int.reduceLE, Nat.one_mul, Nat.mul_one, h]
    simp only [decide_eq_false_iff_not] at h
    refine WL.of (fun n e m' => ∃ (i : Nat) (w y : BitVec 64), i ≤ 64 ∧ n = 64 - i ∧ e = [(0, u64 y), (5, u64 w), (12, .int .i64 k), (13, .int .i64 i)] ∧ isLow x w i ∧ (∀ j, j < 64 → y.getLsbD j = (x.getLsbD j && decide (i ≤ rank x j))) ∧ ((i : Int) ≤ k ∨ i = 0) ∧ m' = m) 64
      ⟨0, _, _, by omega, by omega, by simp only [go_sem, not_true_eq_false, beq_self_eq_true, bne_self_eq_false, Bool.false_eq_true, if_false, if_true, Int.cast_ofNat_Int, decide_true, decide_false, reduceCtorEq, Nat.reduceEqDiff, Nat.reduceAdd, ne_eq, not_false_eq_true, Option.map_some, Option.bind_some, Option.map_none, Option.bind_none, true_and, and_true, Bool.not_true, Bool.not_false, Nat.reduceLeDiff, Nat.reduceMul, Nat.reduceSub, Nat.le_refl, Int.reduceToNat, Int.reduceLT, Int.reduceLE, Nat.one_mul, Nat.mul_one] <;> rfl, fun j hj => by simp, fun j hj => by simp, .inr rfl, rfl⟩ ?_
    rintro _ _ _ ⟨i, w, y, hi, rfl, rfl, hw, hy, hik, rfl⟩
    simp only [go_sem, not_true_eq_false, beq_self_eq_true, bne_self_eq_false, Bool.false_eq_true, if_false, if_true, Int.cast_ofNat_Int, decide_true, decide_false, reduceCtorEq, Nat.reduceEqDiff, Nat.reduceAdd, ne_eq, not_false_eq_true, Option.map_some, Option.bind_some, Option.map_none, Option.bind_none, true_and, and_true, Bool.not_true, Bool.not_false, Nat.reduceLeDiff, Nat.reduceMul, Nat.reduceSub, Nat.le_refl, Int.reduceToNat, Int.reduceLT, Int.reduceLE, Nat.one_mul, Nat.mul_one]
    refine gT.of (fun h2 => ?_) (fun h2 => ?_)
    · simp only [go_sem, not_true_eq_false, beq_self_eq_true, bne_self_eq_false, Bool.false_eq_true, if_false, if_true, Int.cast_ofNat_Int, decide_true, decide_false, reduceCtorEq, Nat.reduceEqDiff, Nat.reduceAdd, ne_eq, not_false_eq_true, Option.map_some, Option.bind_some, Option.map_none, Option.bind_none, true_and, and_true, Bool.not_true, Bool.not_false, Nat.reduceLeDiff, Nat.reduceMul, Nat.reduceSub, Nat.le_refl, Int.reduceToNat, Int.reduceLT, Int.reduceLE, Nat.one_mul, Nat.mul_one, h2]
      simp only [decide_eq_true_eq] at h2
      have hil : i < (tks x 64).length := by have e : rank x 64 = (tks x 64).length := rfl; omega
      obtain ⟨t1, t2, t3⟩ := tks_get hil
      have hyt : y.getLsbD (tks x 64)[i] = true := by rw [hy _ t1, t2, t3]; simp
      have hy0 : y ≠ 0#64 := by rintro rfl; simp at hyt
      obtain ⟨l1, l2, l3, l4⟩ := low_spec hy0
      have hlow : low y = (tks x 64)[i] := by
        have g := hy _ l1
        rw [l2] at g
        have g := g.symm
        simp only [Bool.and_eq_true, decide_eq_true_eq] at g
        rcases Nat.lt_trichotomy (low y) (tks x 64)[i] with c | c | c
        · have := rank_lt c g.1; omega
        · exact c
        · have := l3 _ c; rw [hyt] at this; cases this
      rw [low_neg hy0]
      have e5 : IntKind.wrap .i64 ((i : Int) + 1) = ((i + 1 : Nat) : Int) := by rw [wrap_i64 (by omega) (by omega)]; rfl
      have hw' : w ||| 1#64 <<< low y = withB w ((tks x 64)[i] : Nat) := by rw [withB, if_pos (by omega), setB, Int.toNat_natCast, hlow]
      rw [e5, hw']
      refine ⟨_, ?_, i + 1, _, _, by omega, rfl, rfl, low_step hil hw, fun j hj => ?_, .inl (by omega)⟩
      · omega
      · rw [clear_low hy0 j hj, hy j hj, hlow, Bool.eq_iff_iff]
        simp only [Bool.and_eq_true, decide_eq_true_eq]
        constructor
        · rintro ⟨⟨g1, g2⟩, g3⟩
          refine ⟨g1, ?_⟩
          by_cases g4 : rank x j = i
          · exact absurd (tks_at hil g1 g4).symm g3
          · omega
        · rintro ⟨g1, g2⟩
          refine ⟨⟨g1, by omega⟩, ?_⟩
          rintro rfl
          omega
    · simp only [go_sem, not_true_eq_false, beq_self_eq_true, bne_self_eq_false, Bool.false_eq_true, if_false, if_true, Int.cast_ofNat_Int, decide_true, decide_false, reduceCtorEq, Nat.reduceEqDiff, Nat.reduceAdd, ne_eq, not_false_eq_true, Option.map_some, Option.bind_some, Option.map_none, Option.bind_none, true_and, and_true, Bool.not_true, Bool.not_false, Nat.reduceLeDiff, Nat.reduceMul, Nat.reduceSub, Nat.le_refl, Int.reduceToNat, Int.reduceLT, Int.reduceLE, Nat.one_mul, Nat.mul_one, h2]
      simp only [decide_eq_false_iff_not] at h2
      refine ⟨_, rfl, fun j hj => ?_⟩
      rw [hw j hj]
      congr 1
      rw [Bool.eq_iff_iff]
      simp only [decide_eq_true_eq]
      rcases hik with g | g
      · constructor <;> intro <;> omega
      · constructor <;> intro <;> omega
end Go.Am


/- The highest ticks, and the next one. -/
set_option linter.unusedVariables false
set_option linter.unusedSimpArgs false
namespace Go.Am

variable {m : Mem}

/-- The highest k numbers. -/
def isHigh (x w : BitVec 64) (k : Int) : Prop := ∀ j, j < 64 → w.getLsbD j = (x.getLsbD j && decide ((rank x 64 : Int) - k ≤ rank x j))

theorem isHigh_uniq {x w w' : BitVec 64} {k : Int} (h : isHigh x w k) (h' : isHigh x w' k) : w = w' := word_ext fun j hj => by rw [h j hj, h' j hj]

theorem mask_Highest_spec {x : BitVec 64} {k : Int} : WC R F.mask_Highest [u64 x, .int .i64 k] m fun v m' => (∃ w, v = u64 w ∧ isHigh x w k) ∧ m' = m := by
  refine WC.of R.mask_Highest rfl ?_
  simp only [RC.mask_Highest, go_sem, not_true_eq_false, beq_self_eq_true, bne_self_eq_false, Bool.false_eq_true, if_false, if_true, Int.cast_ofNat_Int, decide_true, decide_false, reduceCtorEq, Nat.reduceEqDiff, Nat.reduceAdd, ne_eq, not_false_eq_true, Option.map_some, Option.bind_some, Option.map_none, Option.bind_none, true_and, and_true, Bool.not_true, Bool.not_false, Nat.reduceLeDiff, Nat.reduceMul, Nat.reduceSub, Nat.le_refl, Int.reduceToNat, Int.reduceLT, Int.reduceLE, Nat.one_mul, Nat.mul_one]
  refine gC.of mask_Count_spec ?_
  rintro _ m_ ⟨rfl, hm_⟩
  replace hm_ := hm_.symm
  subst hm_
  simp only [go_sem, not_true_eq_false, beq_self_eq_true, bne_self_eq_false, Bool.false_eq_true, if_false, if_true, Int.cast_ofNat_Int, decide_true, decide_false, reduceCtorEq, Nat.reduceEqDiff, Nat.reduceAdd, ne_eq, not_false_eq_true, Option.map_some, Option.bind_some, Option.map_none, Option.bind_none, true_and, and_true, Bool.not_true, Bool.not_false, Nat.reduceLeDiff, Nat.reduceMul, Nat.reduceSub, Nat.le_refl, Int.reduceToNat, Int.reduceLT, Int.reduceLE, Nat.one_mul, Nat.mul_one]
  rw [pop_rank]
  have h64 := rank_le x 64
  refine gT.of (fun h => ?_) (fun h => ?_)
  · simp only [go_sem, not_true_eq_false, beq_self_eq_true, bne_self_eq_false, Bool.false_eq_true, if_false, if_true, Int.cast_ofNat_Int, decide_true, decide_false, reduceCtorEq, Nat.reduceEqDiff, Nat.reduceAdd, ne_eq, not_false_eq_true, Option.map_some, Option.bind_some, Option.map_none, Option.bind_none, true_and, and_true, Bool.not_true, Bool.not_false, Nat.reduceLeDiff, Nat.reduceMul, Nat.reduceSub, Nat.le_refl, Int.reduceToNat, Int.reduceLT, Int.reduceLE, Nat.one_mul, Nat.mul_one, h]
    simp only [decide_eq_true_eq] at h
    refine ⟨_, rfl, fun j hj => ?_⟩
    cases hb : x.getLsbD j with
    | false => simp
    | true =>
      have := rank_lt hj hb
      simp; omega
  · simp only [go_sem, not_true_eq_false, beq_self_eq_true, bne_self_eq_false, Bool.false_eq_true, if_false, if_true, Int.cast_ofNat_Int, decide_true, decide_false, reduceCtorEq, Nat.reduceEqDiff, Nat.reduceAdd, ne_eq, not_false_eq_true, Option.map_some, Option.bind_some, Option.map_none, Option.bind_none, true_and, and_true, Bool.not_true, Bool.not_false, Nat.reduceLeDiff, Nat.reduceMul, Nat.reduceSub, Nat.le_refl, Int.reduceToNat, Int.reduceLT, Int.reduceLE, Nat.one_mul, Nat.mul_one, h]
    simp only [decide_eq_false_iff_not] at h
    refine gT.of (fun h2 => ?_) (fun h2 => ?_)
    · simp only [go_sem, not_true_eq_false, beq_self_eq_true, bne_self_eq_false, Bool.false_eq_true, if_false, if_true, Int.cast_ofNat_Int, decide_true, decide_false, reduceCtorEq, Nat.reduceEqDiff, Nat.reduceAdd, ne_eq, not_false_eq_true, Option.map_some, Option.bind_some, Option.map_none, Option.bind_none, true_and, and_true, Bool.not_true, Bool.not_false, Nat.reduceLeDiff, Nat.reduceMul, Nat.reduceSub, Nat.le_refl, Int.reduceToNat, Int.reduceLT, Int.reduceLE, Nat.one_mul, Nat.mul_one, h2]
      simp only [decide_eq_true_eq] at h2
      refine ⟨_, rfl, fun j hj => ?_⟩
      have : decide ((rank x 64 : Int) - k ≤ rank x j) = true := by simp; omega
      rw [this, Bool.and_true]
    · simp only [go_sem, not_true_eq_false, beq_self_eq_true, bne_self_eq_false, Bool.false_eq_true, if_false, if_true, Int.cast_ofNat_Int, decide_true, decide_false, reduceCtorEq, Nat.reduceEqDiff, Nat.reduceAdd, ne_eq, not_false_eq_true, Option.map_some, Option.bind_some, Option.map_none, Option.bind_none, true_and, and_true, Bool.not_true, Bool.not_false, Nat.reduceLeDiff, Nat.reduceMul, Nat.reduceSub, Nat.le_refl, Int.reduceToNat, Int.reduceLT, Int.reduceLE, Nat.one_mul, Nat.mul_one, h2]
      simp only [decide_eq_false_iff_not] at h2
      rw [wrap_i64 (by omega) (by omega)]
      refine gC.of mask_Lowest_spec ?_
      rintro _ m_ ⟨⟨w, rfl, hw⟩, hm_⟩
      replace hm_ := hm_.symm
      subst hm_
      simp only [go_sem, not_true_eq_false, beq_self_eq_true, bne_self_eq_false, Bool.false_eq_true, if_false, if_true, Int.cast_ofNat_Int, decide_true, decide_false, reduceCtorEq, Nat.reduceEqDiff, Nat.reduceAdd, ne_eq, not_false_eq_true, Option.map_some, Option.bind_some, Option.map_none, Option.bind_none, true_and, and_true, Bool.not_true, Bool.not_false, Nat.reduceLeDiff, Nat.reduceMul, Nat.reduceSub, Nat.le_refl, Int.reduceToNat, Int.reduceLT, Int.reduceLE, Nat.one_mul, Nat.mul_one]
      refine ⟨_, rfl, fun j hj => ?_⟩
      rw [BitVec.getLsbD_and, BitVec.getLsbD_not, hw j hj, Bool.eq_iff_iff]
      cases x.getLsbD j <;> simp [hj] <;> omega

/-- The next number of a word from t on, round. -/
def isNext (x : BitVec 64) (t : Int) (n : Nat) : Prop :=
  n < 64 ∧ x.getLsbD n = true ∧ ((t ≤ n ∧ ∀ j, j < n → x.getLsbD j = true → (j : Int) < t) ∨ ((∀ j, j < 64 → x.getLsbD j = true → (j : Int) < t) ∧ ∀ j, j < n → x.getLsbD j = false))

theorem isNext_uniq {x : BitVec 64} {t : Int} {a b : Nat} (h : isNext x t a) (h' : isNext x t b) : a = b := by
  obtain ⟨a1, a2, a3⟩ := h
  obtain ⟨b1, b2, b3⟩ := h'
  rcases Nat.lt_trichotomy a b with c | c | c
  · rcases a3 with ⟨g1, g2⟩ | ⟨g1, g2⟩ <;> rcases b3 with ⟨k1, k2⟩ | ⟨k1, k2⟩
    · have := k2 a c a2; omega
    · have := k1 a a1 a2; omega
    · have := g1 b b1 b2; omega
    · have := k2 a c; rw [a2] at this; cases this
  · exact c
  · rcases a3 with ⟨g1, g2⟩ | ⟨g1, g2⟩ <;> rcases b3 with ⟨k1, k2⟩ | ⟨k1, k2⟩
    · have := g2 b c b2; omega
    · have := k1 a a1 a2; omega
    · have := g1 b b1 b2; omega
    · have := g2 b c; rw [b2] at this; cases this

theorem mask_Next_spec {x : BitVec 64} {t : Int} : WC R F.mask_Next [u64 x, .int .i64 t] m fun v m' => ((x = 0#64 ∧ v = .tuple #[.int .i64 0, .bool false]) ∨ (x ≠ 0#64 ∧ ∃ n : Nat, isNext x t n ∧ v = .tuple #[.int .i64 n, .bool true])) ∧ m' = m := by
  refine WC.of R.mask_Next rfl ?_
  simp only [RC.mask_Next, go_sem, not_true_eq_false, beq_self_eq_true, bne_self_eq_false, Bool.false_eq_true, if_false, if_true, Int.cast_ofNat_Int, decide_true, decide_false, reduceCtorEq, Nat.reduceEqDiff, Nat.reduceAdd, ne_eq, not_false_eq_true, Option.map_some, Option.bind_some, Option.map_none, Option.bind_none, true_and, and_true, Bool.not_true, Bool.not_false, Nat.reduceLeDiff, Nat.reduceMul, Nat.reduceSub, Nat.le_refl, Int.reduceToNat, Int.reduceLT, Int.reduceLE, Nat.one_mul, Nat.mul_one]
  refine gT.of (fun h => ?_) (fun h => ?_)
  · simp only [go_sem, not_true_eq_false, beq_self_eq_true, bne_self_eq_false, Bool.false_eq_true, if_false, if_true, Int.cast_ofNat_Int, decide_true, decide_false, reduceCtorEq, Nat.reduceEqDiff, Nat.reduceAdd, ne_eq, not_false_eq_true, Option.map_some, Option.bind_some, Option.map_none, Option.bind_none, true_and, and_true, Bool.not_true, Bool.not_false, Nat.reduceLeDiff, Nat.reduceMul, Nat.reduceSub, Nat.le_refl, Int.reduceToNat, Int.reduceLT, Int.reduceLE, Nat.one_mul, Nat.mul_one, h]
    simp only [decide_eq_true_eq] at h
    exact .inl h
  · simp only [go_sem, not_true_eq_false, beq_self_eq_true, bne_self_eq_false, Bool.false_eq_true, if_false, if_true, Int.cast_ofNat_Int, decide_true, decide_false, reduceCtorEq, Nat.reduceEqDiff, Nat.reduceAdd, ne_eq, not_false_eq_true, Option.map_some, Option.bind_some, Option.map_none, Option.bind_none, true_and, and_true, Bool.not_true, Bool.not_false, Nat.reduceLeDiff, Nat.reduceMul, Nat.reduceSub, Nat.le_refl, Int.reduceToNat, Int.reduceLT, Int.reduceLE, Nat.one_mul, Nat.mul_one, h]
    simp only [decide_eq_false_iff_not] at h
    obtain ⟨l1, l2, l3, l4⟩ := low_spec h
    have rest : (∀ j, j < 64 → x.getLsbD j = true → (j : Int) < t) → isNext x t (low x) := fun g => ⟨l1, l2, .inr ⟨g, l3⟩⟩
    refine gT.of (fun h2 => ?_) (fun h2 => ?_)
    · simp only [go_sem, not_true_eq_false, beq_self_eq_true, bne_self_eq_false, Bool.false_eq_true, if_false, if_true, Int.cast_ofNat_Int, decide_true, decide_false, reduceCtorEq, Nat.reduceEqDiff, Nat.reduceAdd, ne_eq, not_false_eq_true, Option.map_some, Option.bind_some, Option.map_none, Option.bind_none, true_and, and_true, Bool.not_true, Bool.not_false, Nat.reduceLeDiff, Nat.reduceMul, Nat.reduceSub, Nat.le_refl, Int.reduceToNat, Int.reduceLT, Int.reduceLE, Nat.one_mul, Nat.mul_one, h2]
      simp only [decide_eq_true_eq] at h2
      refine gC.of mask_All_spec ?_
      rintro _ m_ ⟨rfl, hm_⟩
      replace hm_ := hm_.symm
      subst hm_
      simp only [go_sem, not_true_eq_false, beq_self_eq_true, bne_self_eq_false, Bool.false_eq_true, if_false, if_true, Int.cast_ofNat_Int, decide_true, decide_false, reduceCtorEq, Nat.reduceEqDiff, Nat.reduceAdd, ne_eq, not_false_eq_true, Option.map_some, Option.bind_some, Option.map_none, Option.bind_none, true_and, and_true, Bool.not_true, Bool.not_false, Nat.reduceLeDiff, Nat.reduceMul, Nat.reduceSub, Nat.le_refl, Int.reduceToNat, Int.reduceLT, Int.reduceLE, Nat.one_mul, Nat.mul_one]
      have hbit : ∀ j, j < 64 → (x &&& ~~~(allB (fr t).toNat)).getLsbD j = (x.getLsbD j && decide (t ≤ j)) := by
        intro j hj
        rw [BitVec.getLsbD_and, BitVec.getLsbD_not, allB_bit, Bool.eq_iff_iff]
        cases x.getLsbD j <;> simp [hj] <;> unfold fr <;> omega
      refine gT.of (fun h3 => ?_) (fun h3 => ?_)
      · simp only [go_sem, not_true_eq_false, beq_self_eq_true, bne_self_eq_false, Bool.false_eq_true, if_false, if_true, Int.cast_ofNat_Int, decide_true, decide_false, reduceCtorEq, Nat.reduceEqDiff, Nat.reduceAdd, ne_eq, not_false_eq_true, Option.map_some, Option.bind_some, Option.map_none, Option.bind_none, true_and, and_true, Bool.not_true, Bool.not_false, Nat.reduceLeDiff, Nat.reduceMul, Nat.reduceSub, Nat.le_refl, Int.reduceToNat, Int.reduceLT, Int.reduceLE, Nat.one_mul, Nat.mul_one, h3]
        simp only [decide_eq_true_eq] at h3
        obtain ⟨k1, k2, k3, k4⟩ := low_spec h3
        refine gC.of tz_spec ?_
        rintro _ m_ ⟨rfl, hm_⟩
        replace hm_ := hm_.symm
        subst hm_
        simp only [go_sem, not_true_eq_false, beq_self_eq_true, bne_self_eq_false, Bool.false_eq_true, if_false, if_true, Int.cast_ofNat_Int, decide_true, decide_false, reduceCtorEq, Nat.reduceEqDiff, Nat.reduceAdd, ne_eq, not_false_eq_true, Option.map_some, Option.bind_some, Option.map_none, Option.bind_none, true_and, and_true, Bool.not_true, Bool.not_false, Nat.reduceLeDiff, Nat.reduceMul, Nat.reduceSub, Nat.le_refl, Int.reduceToNat, Int.reduceLT, Int.reduceLE, Nat.one_mul, Nat.mul_one]
        refine .inr ⟨h, _, ⟨k1, ?_, .inl ⟨?_, ?_⟩⟩, rfl⟩
        · rw [hbit _ k1] at k2; simp only [Bool.and_eq_true] at k2; exact k2.1
        · rw [hbit _ k1] at k2; simp only [Bool.and_eq_true, decide_eq_true_eq] at k2; exact k2.2
        · intro j hj hb
          have := k3 j hj
          rw [hbit j (by omega), hb] at this
          simp only [Bool.true_and, decide_eq_false_iff_not] at this
          omega
      · simp only [go_sem, not_true_eq_false, beq_self_eq_true, bne_self_eq_false, Bool.false_eq_true, if_false, if_true, Int.cast_ofNat_Int, decide_true, decide_false, reduceCtorEq, Nat.reduceEqDiff, Nat.reduceAdd, ne_eq, not_false_eq_true, Option.map_some, Option.bind_some, Option.map_none, Option.bind_none, true_and, and_true, Bool.not_true, Bool.not_false, Nat.reduceLeDiff, Nat.reduceMul, Nat.reduceSub, Nat.le_refl, Int.reduceToNat, Int.reduceLT, Int.reduceLE, Nat.one_mul, Nat.mul_one, h3]
        simp only [decide_eq_false_iff_not, Decidable.not_not] at h3
        refine gC.of tz_spec ?_
        rintro _ m_ ⟨rfl, hm_⟩
        replace hm_ := hm_.symm
        subst hm_
        simp only [go_sem, not_true_eq_false, beq_self_eq_true, bne_self_eq_false, Bool.false_eq_true, if_false, if_true, Int.cast_ofNat_Int, decide_true, decide_false, reduceCtorEq, Nat.reduceEqDiff, Nat.reduceAdd, ne_eq, not_false_eq_true, Option.map_some, Option.bind_some, Option.map_none, Option.bind_none, true_and, and_true, Bool.not_true, Bool.not_false, Nat.reduceLeDiff, Nat.reduceMul, Nat.reduceSub, Nat.le_refl, Int.reduceToNat, Int.reduceLT, Int.reduceLE, Nat.one_mul, Nat.mul_one]
        refine .inr ⟨h, _, rest fun j hj hb => ?_, rfl⟩
        have := hbit j hj
        rw [h3, hb] at this
        simp at this
        omega
    · simp only [go_sem, not_true_eq_false, beq_self_eq_true, bne_self_eq_false, Bool.false_eq_true, if_false, if_true, Int.cast_ofNat_Int, decide_true, decide_false, reduceCtorEq, Nat.reduceEqDiff, Nat.reduceAdd, ne_eq, not_false_eq_true, Option.map_some, Option.bind_some, Option.map_none, Option.bind_none, true_and, and_true, Bool.not_true, Bool.not_false, Nat.reduceLeDiff, Nat.reduceMul, Nat.reduceSub, Nat.le_refl, Int.reduceToNat, Int.reduceLT, Int.reduceLE, Nat.one_mul, Nat.mul_one, h2]
      simp only [decide_eq_false_iff_not] at h2
      refine gC.of tz_spec ?_
      rintro _ m_ ⟨rfl, hm_⟩
      replace hm_ := hm_.symm
      subst hm_
      simp only [go_sem, not_true_eq_false, beq_self_eq_true, bne_self_eq_false, Bool.false_eq_true, if_false, if_true, Int.cast_ofNat_Int, decide_true, decide_false, reduceCtorEq, Nat.reduceEqDiff, Nat.reduceAdd, ne_eq, not_false_eq_true, Option.map_some, Option.bind_some, Option.map_none, Option.bind_none, true_and, and_true, Bool.not_true, Bool.not_false, Nat.reduceLeDiff, Nat.reduceMul, Nat.reduceSub, Nat.le_refl, Int.reduceToNat, Int.reduceLT, Int.reduceLE, Nat.one_mul, Nat.mul_one]
      refine .inr ⟨h, _, rest fun j hj hb => by omega, rfl⟩

theorem ref04_Highest_spec {x : BitVec 64} {k : Int} : WC R F.ref04_Highest [u64 x, .int .i64 k] m fun v m' => (∃ w, v = u64 w ∧ isHigh x w k) ∧ Ext m m' := by
  refine WC.of R.ref04_Highest rfl ?_
  simp only [RC.ref04_Highest, go_sem, not_true_eq_false, beq_self_eq_true, bne_self_eq_false, Bool.false_eq_true, if_false, if_true, Int.cast_ofNat_Int, decide_true, decide_false, reduceCtorEq, Nat.reduceEqDiff, Nat.reduceAdd, ne_eq, not_false_eq_true, Option.map_some, Option.bind_some, Option.map_none, Option.bind_none, true_and, and_true, Bool.not_true, Bool.not_false, Nat.reduceLeDiff, Nat.reduceMul, Nat.reduceSub, Nat.le_refl, Int.reduceToNat, Int.reduceLT, Int.reduceLE, Nat.one_mul, Nat.mul_one]
  refine gC.of ref04_Ticks_spec ?_
  rintro v m1 ⟨ho, hx⟩
  simp only [go_sem, not_true_eq_false, beq_self_eq_true, bne_self_eq_false, Bool.false_eq_true, if_false, if_true, Int.cast_ofNat_Int, decide_true, decide_false, reduceCtorEq, Nat.reduceEqDiff, Nat.reduceAdd, ne_eq, not_false_eq_true, Option.map_some, Option.bind_some, Option.map_none, Option.bind_none, true_and, and_true, Bool.not_true, Bool.not_false, Nat.reduceLeDiff, Nat.reduceMul, Nat.reduceSub, Nat.le_refl, Int.reduceToNat, Int.reduceLT, Int.reduceLE, Nat.one_mul, Nat.mul_one, ho.sl.len]
  have hs := ho.sl
  have h64 : (tks x 64).length ≤ 64 := rank_le x 64
  have er : rank x 64 = (tks x 64).length := rfl
  refine WL.of (fun n e m' => ∃ (i : Nat) (w : BitVec 64), i ≤ (tks x 64).length ∧ n = (tks x 64).length - i ∧ e = [(1, .int .i64 k), (5, u64 w), (6, v), (7, .int .i64 i), (8, .int .i64 ((tks x 64).length - 1 - i))] ∧ isHigh x w i ∧ ((i : Int) ≤ k ∨ i = 0) ∧ m' = m1) (tks x 64).length
    ⟨0, 0#64, by omega, by omega, by simp only [go_sem, not_true_eq_false, beq_self_eq_true, bne_self_eq_false, Bool.false_eq_true, if_false, if_true, Int.cast_ofNat_Int, decide_true, decide_false, reduceCtorEq, Nat.reduceEqDiff, Nat.reduceAdd, ne_eq, not_false_eq_true, Option.map_some, Option.bind_some, Option.map_none, Option.bind_none, true_and, and_true, Bool.not_true, Bool.not_false, Nat.reduceLeDiff, Nat.reduceMul, Nat.reduceSub, Nat.le_refl, Int.reduceToNat, Int.reduceLT, Int.reduceLE, Nat.one_mul, Nat.mul_one]; rw [wrap_i64 (by omega) (by omega)]; simp, fun j hj => ?_, .inr rfl, rfl⟩ ?_
  · cases hb : x.getLsbD j with
    | false => simp
    | true => have := rank_lt hj hb; simp; omega
  rintro _ _ _ ⟨i, w, hi, rfl, rfl, hw, hik, rfl⟩
  simp only [go_sem, not_true_eq_false, beq_self_eq_true, bne_self_eq_false, Bool.false_eq_true, if_false, if_true, Int.cast_ofNat_Int, decide_true, decide_false, reduceCtorEq, Nat.reduceEqDiff, Nat.reduceAdd, ne_eq, not_false_eq_true, Option.map_some, Option.bind_some, Option.map_none, Option.bind_none, true_and, and_true, Bool.not_true, Bool.not_false, Nat.reduceLeDiff, Nat.reduceMul, Nat.reduceSub, Nat.le_refl, Int.reduceToNat, Int.reduceLT, Int.reduceLE, Nat.one_mul, Nat.mul_one]
  have hdone : (¬ (i : Int) < (tks x 64).length ∨ ¬ (i : Int) < k) → isHigh x w k := by
    intro h j hj
    rw [hw j hj]
    cases hb : x.getLsbD j with
    | false => rfl
    | true =>
      have := rank_lt hj hb
      rw [Bool.true_and, Bool.true_and, Bool.eq_iff_iff]
      simp only [decide_eq_true_eq]
      rcases hik with g | g <;> rcases h with h | h <;> constructor <;> intro <;> omega
  refine gT.of (fun h => ?_) (fun h => ?_)
  · simp only [go_sem, not_true_eq_false, beq_self_eq_true, bne_self_eq_false, Bool.false_eq_true, if_false, if_true, Int.cast_ofNat_Int, decide_true, decide_false, reduceCtorEq, Nat.reduceEqDiff, Nat.reduceAdd, ne_eq, not_false_eq_true, Option.map_some, Option.bind_some, Option.map_none, Option.bind_none, true_and, and_true, Bool.not_true, Bool.not_false, Nat.reduceLeDiff, Nat.reduceMul, Nat.reduceSub, Nat.le_refl, Int.reduceToNat, Int.reduceLT, Int.reduceLE, Nat.one_mul, Nat.mul_one, h]
    simp only [decide_eq_true_eq] at h
    refine gT.of (fun h2 => ?_) (fun h2 => ?_)
    · simp only [go_sem, not_true_eq_false, beq_self_eq_true, bne_self_eq_false, Bool.false_eq_true, if_false, if_true, Int.cast_ofNat_Int, decide_true, decide_false, reduceCtorEq, Nat.reduceEqDiff, Nat.reduceAdd, ne_eq, not_false_eq_true, Option.map_some, Option.bind_some, Option.map_none, Option.bind_none, true_and, and_true, Bool.not_true, Bool.not_false, Nat.reduceLeDiff, Nat.reduceMul, Nat.reduceSub, Nat.le_refl, Int.reduceToNat, Int.reduceLT, Int.reduceLE, Nat.one_mul, Nat.mul_one, h2]
      simp only [decide_eq_true_eq] at h2
      obtain ⟨q, hq⟩ : ∃ q : Nat, q + 1 + i = (tks x 64).length := ⟨(tks x 64).length - 1 - i, by omega⟩
      have hqi : ((tks x 64).length : Int) - 1 - i = (q : Nat) := by omega
      have hql : q < (tks x 64).length := by omega
      obtain ⟨p, e1, e2⟩ := hs.get (k := .i64) (i := q) hql
      rw [ints_get hql] at e2
      rw [hqi]
      simp only [go_sem, not_true_eq_false, beq_self_eq_true, bne_self_eq_false, Bool.false_eq_true, if_false, if_true, Int.cast_ofNat_Int, decide_true, decide_false, reduceCtorEq, Nat.reduceEqDiff, Nat.reduceAdd, ne_eq, not_false_eq_true, Option.map_some, Option.bind_some, Option.map_none, Option.bind_none, true_and, and_true, Bool.not_true, Bool.not_false, Nat.reduceLeDiff, Nat.reduceMul, Nat.reduceSub, Nat.le_refl, Int.reduceToNat, Int.reduceLT, Int.reduceLE, Nat.one_mul, Nat.mul_one, e1, e2]
      refine gC.of ref04_With_spec ?_
      rintro _ m_ ⟨rfl, hm_⟩
      replace hm_ := hm_.symm
      subst hm_
      simp only [go_sem, not_true_eq_false, beq_self_eq_true, bne_self_eq_false, Bool.false_eq_true, if_false, if_true, Int.cast_ofNat_Int, decide_true, decide_false, reduceCtorEq, Nat.reduceEqDiff, Nat.reduceAdd, ne_eq, not_false_eq_true, Option.map_some, Option.bind_some, Option.map_none, Option.bind_none, true_and, and_true, Bool.not_true, Bool.not_false, Nat.reduceLeDiff, Nat.reduceMul, Nat.reduceSub, Nat.le_refl, Int.reduceToNat, Int.reduceLT, Int.reduceLE, Nat.one_mul, Nat.mul_one]
      obtain ⟨t1, t2, t3⟩ := tks_get hql
      refine ⟨_, ?_, i + 1, withB w ((tks x 64)[q] : Nat), by omega, rfl, ?_, fun j hj => ?_, .inl (by omega)⟩
      · omega
      · rw [wrap_i64 (by omega) (by omega), wrap_i64 (by omega) (by omega)]
        rw [show ((tks x 64).length : Int) - 1 - ((i + 1 : Nat) : Int) = (q : Int) - 1 by omega]; rfl
      · rw [withB_bit hj, hw j hj, Bool.eq_iff_iff]
        simp only [Bool.or_eq_true, Bool.and_eq_true, decide_eq_true_eq]
        constructor
        · rintro (⟨g1, g2⟩ | g)
          · exact ⟨g1, by omega⟩
          · have : j = (tks x 64)[q] := by omega
            subst this; exact ⟨t2, by omega⟩
        · rintro ⟨g1, g2⟩
          by_cases g3 : rank x j = q
          · right; rw [tks_at hql g1 g3]
          · left; exact ⟨g1, by omega⟩
    · simp only [go_sem, not_true_eq_false, beq_self_eq_true, bne_self_eq_false, Bool.false_eq_true, if_false, if_true, Int.cast_ofNat_Int, decide_true, decide_false, reduceCtorEq, Nat.reduceEqDiff, Nat.reduceAdd, ne_eq, not_false_eq_true, Option.map_some, Option.bind_some, Option.map_none, Option.bind_none, true_and, and_true, Bool.not_true, Bool.not_false, Nat.reduceLeDiff, Nat.reduceMul, Nat.reduceSub, Nat.le_refl, Int.reduceToNat, Int.reduceLT, Int.reduceLE, Nat.one_mul, Nat.mul_one, h2]
      simp only [decide_eq_false_iff_not] at h2
      exact ⟨⟨_, rfl, hdone (.inr h2)⟩, hx⟩
  · simp only [go_sem, not_true_eq_false, beq_self_eq_true, bne_self_eq_false, Bool.false_eq_true, if_false, if_true, Int.cast_ofNat_Int, decide_true, decide_false, reduceCtorEq, Nat.reduceEqDiff, Nat.reduceAdd, ne_eq, not_false_eq_true, Option.map_some, Option.bind_some, Option.map_none, Option.bind_none, true_and, and_true, Bool.not_true, Bool.not_false, Nat.reduceLeDiff, Nat.reduceMul, Nat.reduceSub, Nat.le_refl, Int.reduceToNat, Int.reduceLT, Int.reduceLE, Nat.one_mul, Nat.mul_one, h]
    simp only [decide_eq_false_iff_not] at h
    exact ⟨⟨_, rfl, hdone (.inl (by omega))⟩, hx⟩

theorem tks_lt {x : BitVec 64} {i j : Nat} (hj : j < (tks x 64).length) (h : i < j) : (tks x 64)[i] < (tks x 64)[j] := by
  obtain ⟨a1, a2, a3⟩ := tks_get (x := x) (n := 64) (i := i) (by omega)
  obtain ⟨b1, b2, b3⟩ := tks_get hj
  rcases Nat.lt_trichotomy (tks x 64)[i] (tks x 64)[j] with c | c | c
  · exact c
  · rw [c] at a3; omega
  · have := rank_lt c b2; omega

theorem tks_mem {x : BitVec 64} {j : Nat} (hj : j < 64) (hb : x.getLsbD j = true) : ∃ h : rank x j < (tks x 64).length, (tks x 64)[rank x j] = j :=
  ⟨rank_lt hj hb, tks_at (rank_lt hj hb) hb rfl⟩

theorem ref04_Next_spec {x : BitVec 64} {t : Int} : WC R F.ref04_Next [u64 x, .int .i64 t] m fun v m' => ((x = 0#64 ∧ v = .tuple #[.int .i64 0, .bool false]) ∨ (x ≠ 0#64 ∧ ∃ n : Nat, isNext x t n ∧ v = .tuple #[.int .i64 n, .bool true])) ∧ Ext m m' := by
  refine WC.of R.ref04_Next rfl ?_
  simp only [RC.ref04_Next, go_sem, not_true_eq_false, beq_self_eq_true, bne_self_eq_false, Bool.false_eq_true, if_false, if_true, Int.cast_ofNat_Int, decide_true, decide_false, reduceCtorEq, Nat.reduceEqDiff, Nat.reduceAdd, ne_eq, not_false_eq_true, Option.map_some, Option.bind_some, Option.map_none, Option.bind_none, true_and, and_true, Bool.not_true, Bool.not_false, Nat.reduceLeDiff, Nat.reduceMul, Nat.reduceSub, Nat.le_refl, Int.reduceToNat, Int.reduceLT, Int.reduceLE, Nat.one_mul, Nat.mul_one]
  refine gC.of ref04_Ticks_spec ?_
  rintro v m1 ⟨ho, hx⟩
  simp only [go_sem, not_true_eq_false, beq_self_eq_true, bne_self_eq_false, Bool.false_eq_true, if_false, if_true, Int.cast_ofNat_Int, decide_true, decide_false, reduceCtorEq, Nat.reduceEqDiff, Nat.reduceAdd, ne_eq, not_false_eq_true, Option.map_some, Option.bind_some, Option.map_none, Option.bind_none, true_and, and_true, Bool.not_true, Bool.not_false, Nat.reduceLeDiff, Nat.reduceMul, Nat.reduceSub, Nat.le_refl, Int.reduceToNat, Int.reduceLT, Int.reduceLE, Nat.one_mul, Nat.mul_one, ho.sl.len]
  have hs := ho.sl
  have h64 : (tks x 64).length ≤ 64 := rank_le x 64
  refine WL.of (fun n e m' => ∃ i : Nat, i ≤ (tks x 64).length ∧ n = (tks x 64).length - i ∧ e = [(1, .int .i64 t), (6, v), (7, .int .i64 i)] ∧ (∀ j (h : j < (tks x 64).length), j < i → ((tks x 64)[j] : Int) < t) ∧ m' = m1) (tks x 64).length
    ⟨0, by omega, by omega, by simp only [go_sem, not_true_eq_false, beq_self_eq_true, bne_self_eq_false, Bool.false_eq_true, if_false, if_true, Int.cast_ofNat_Int, decide_true, decide_false, reduceCtorEq, Nat.reduceEqDiff, Nat.reduceAdd, ne_eq, not_false_eq_true, Option.map_some, Option.bind_some, Option.map_none, Option.bind_none, true_and, and_true, Bool.not_true, Bool.not_false, Nat.reduceLeDiff, Nat.reduceMul, Nat.reduceSub, Nat.le_refl, Int.reduceToNat, Int.reduceLT, Int.reduceLE, Nat.one_mul, Nat.mul_one] <;> rfl, fun _ _ h => by omega, rfl⟩ ?_
  rintro _ _ _ ⟨i, hi, rfl, rfl, hb, rfl⟩
  simp only [go_sem, not_true_eq_false, beq_self_eq_true, bne_self_eq_false, Bool.false_eq_true, if_false, if_true, Int.cast_ofNat_Int, decide_true, decide_false, reduceCtorEq, Nat.reduceEqDiff, Nat.reduceAdd, ne_eq, not_false_eq_true, Option.map_some, Option.bind_some, Option.map_none, Option.bind_none, true_and, and_true, Bool.not_true, Bool.not_false, Nat.reduceLeDiff, Nat.reduceMul, Nat.reduceSub, Nat.le_refl, Int.reduceToNat, Int.reduceLT, Int.reduceLE, Nat.one_mul, Nat.mul_one, hs.len]
  refine gT.of (fun h => ?_) (fun h => ?_)
  · simp only [go_sem, not_true_eq_false, beq_self_eq_true, bne_self_eq_false, Bool.false_eq_true, if_false, if_true, Int.cast_ofNat_Int, decide_true, decide_false, reduceCtorEq, Nat.reduceEqDiff, Nat.reduceAdd, ne_eq, not_false_eq_true, Option.map_some, Option.bind_some, Option.map_none, Option.bind_none, true_and, and_true, Bool.not_true, Bool.not_false, Nat.reduceLeDiff, Nat.reduceMul, Nat.reduceSub, Nat.le_refl, Int.reduceToNat, Int.reduceLT, Int.reduceLE, Nat.one_mul, Nat.mul_one, h]
    simp only [decide_eq_true_eq] at h
    have hil : i < (tks x 64).length := by omega
    obtain ⟨p, e1, e2⟩ := hs.get (k := .i64) (i := i) hil
    rw [ints_get hil] at e2
    obtain ⟨t1, t2, t3⟩ := tks_get hil
    simp only [go_sem, not_true_eq_false, beq_self_eq_true, bne_self_eq_false, Bool.false_eq_true, if_false, if_true, Int.cast_ofNat_Int, decide_true, decide_false, reduceCtorEq, Nat.reduceEqDiff, Nat.reduceAdd, ne_eq, not_false_eq_true, Option.map_some, Option.bind_some, Option.map_none, Option.bind_none, true_and, and_true, Bool.not_true, Bool.not_false, Nat.reduceLeDiff, Nat.reduceMul, Nat.reduceSub, Nat.le_refl, Int.reduceToNat, Int.reduceLT, Int.reduceLE, Nat.one_mul, Nat.mul_one, e1, e2]
    refine gT.of (fun h2 => ?_) (fun h2 => ?_)
    · simp only [go_sem, not_true_eq_false, beq_self_eq_true, bne_self_eq_false, Bool.false_eq_true, if_false, if_true, Int.cast_ofNat_Int, decide_true, decide_false, reduceCtorEq, Nat.reduceEqDiff, Nat.reduceAdd, ne_eq, not_false_eq_true, Option.map_some, Option.bind_some, Option.map_none, Option.bind_none, true_and, and_true, Bool.not_true, Bool.not_false, Nat.reduceLeDiff, Nat.reduceMul, Nat.reduceSub, Nat.le_refl, Int.reduceToNat, Int.reduceLT, Int.reduceLE, Nat.one_mul, Nat.mul_one, h2, e1, e2]
      simp only [decide_eq_true_eq] at h2
      refine ⟨.inr ⟨?_, (tks x 64)[i], ⟨t1, t2, .inl ⟨h2, ?_⟩⟩, rfl⟩, hx⟩
      · rintro rfl; simp at t2
      · intro j hj hbj
        obtain ⟨g1, g2⟩ := tks_mem (x := x) (j := j) (by omega) hbj
        have g3 := rank_lt hj hbj
        have := hb (rank x j) g1 (by omega)
        rw [g2] at this; exact this
    · simp only [go_sem, not_true_eq_false, beq_self_eq_true, bne_self_eq_false, Bool.false_eq_true, if_false, if_true, Int.cast_ofNat_Int, decide_true, decide_false, reduceCtorEq, Nat.reduceEqDiff, Nat.reduceAdd, ne_eq, not_false_eq_true, Option.map_some, Option.bind_some, Option.map_none, Option.bind_none, true_and, and_true, Bool.not_true, Bool.not_false, Nat.reduceLeDiff, Nat.reduceMul, Nat.reduceSub, Nat.le_refl, Int.reduceToNat, Int.reduceLT, Int.reduceLE, Nat.one_mul, Nat.mul_one, h2]
      simp only [decide_eq_false_iff_not] at h2
      refine ⟨_, ?_, i + 1, by omega, rfl, ?_, ?_⟩
      · omega
      · rw [wrap_i64 (by omega) (by omega)]; rfl
      · intro j g1 g2
        by_cases e : j = i
        · subst e; omega
        · exact hb j g1 (by omega)
  · simp only [go_sem, not_true_eq_false, beq_self_eq_true, bne_self_eq_false, Bool.false_eq_true, if_false, if_true, Int.cast_ofNat_Int, decide_true, decide_false, reduceCtorEq, Nat.reduceEqDiff, Nat.reduceAdd, ne_eq, not_false_eq_true, Option.map_some, Option.bind_some, Option.map_none, Option.bind_none, true_and, and_true, Bool.not_true, Bool.not_false, Nat.reduceLeDiff, Nat.reduceMul, Nat.reduceSub, Nat.le_refl, Int.reduceToNat, Int.reduceLT, Int.reduceLE, Nat.one_mul, Nat.mul_one, h, hs.len]
    simp only [decide_eq_false_iff_not] at h
    have hall : ∀ j, j < 64 → x.getLsbD j = true → (j : Int) < t := by
      intro j hj hbj
      obtain ⟨g1, g2⟩ := tks_mem hj hbj
      have := hb (rank x j) g1 (by omega)
      rw [g2] at this; exact this
    refine gT.of (fun h2 => ?_) (fun h2 => ?_)
    · simp only [decide_eq_true_eq] at h2
      have h0 : 0 < (tks x 64).length := by omega
      obtain ⟨p, e1, e2⟩ := hs.get (k := .i64) (i := 0) h0
      rw [ints_get h0] at e2
      simp only [Int.natCast_zero] at e1
      simp only [go_sem, not_true_eq_false, beq_self_eq_true, bne_self_eq_false, Bool.false_eq_true, if_false, if_true, Int.cast_ofNat_Int, decide_true, decide_false, reduceCtorEq, Nat.reduceEqDiff, Nat.reduceAdd, ne_eq, not_false_eq_true, Option.map_some, Option.bind_some, Option.map_none, Option.bind_none, true_and, and_true, Bool.not_true, Bool.not_false, Nat.reduceLeDiff, Nat.reduceMul, Nat.reduceSub, Nat.le_refl, Int.reduceToNat, Int.reduceLT, Int.reduceLE, Nat.one_mul, Nat.mul_one, e1, e2]
      obtain ⟨t1, t2, t3⟩ := tks_get h0
      refine ⟨.inr ⟨?_, (tks x 64)[0], ⟨t1, t2, .inr ⟨hall, ?_⟩⟩, rfl⟩, hx⟩
      · rintro rfl; simp at t2
      · intro j hj
        cases hbj : x.getLsbD j with
        | false => rfl
        | true => have := rank_lt hj hbj; omega
    · simp only [decide_eq_false_iff_not] at h2
      simp only [go_sem, not_true_eq_false, beq_self_eq_true, bne_self_eq_false, Bool.false_eq_true, if_false, if_true, Int.cast_ofNat_Int, decide_true, decide_false, reduceCtorEq, Nat.reduceEqDiff, Nat.reduceAdd, ne_eq, not_false_eq_true, Option.map_some, Option.bind_some, Option.map_none, Option.bind_none, true_and, and_true, Bool.not_true, Bool.not_false, Nat.reduceLeDiff, Nat.reduceMul, Nat.reduceSub, Nat.le_refl, Int.reduceToNat, Int.reduceLT, Int.reduceLE, Nat.one_mul, Nat.mul_one]
      refine ⟨.inl ?_, hx⟩
      refine word_ext fun j hj => ?_
      cases hbj : x.getLsbD j with
      | false => simp
      | true => obtain ⟨g1, g2⟩ := tks_mem hj hbj; omega
end Go.Am


/- Where the numbers of a word follow one another: plain facts. -/
set_option linter.unusedVariables false
set_option linter.unusedSimpArgs false
namespace Go.Am

/-- Whether a run begins. -/
def begins (x : BitVec 64) (s : Nat) : Bool := x.getLsbD s && !(decide (0 < s) && x.getLsbD (s - 1))

/-- The first number from s on that is not in the word. -/
def endF (x : BitVec 64) : Nat → Nat → Nat
  | 0, s => s
  | f + 1, s => if x.getLsbD s then endF x f (s + 1) else s
def endOf (x : BitVec 64) (s : Nat) : Nat := endF x (64 - s) s

theorem endF_spec {x : BitVec 64} : ∀ {f s : Nat}, s + f = 64 → s ≤ endF x f s ∧ endF x f s ≤ 64 ∧ (∀ j, s ≤ j → j < endF x f s → x.getLsbD j = true) ∧ (endF x f s < 64 → x.getLsbD (endF x f s) = false)
  | 0, s, h => ⟨Nat.le_refl _, by simp [endF]; omega, fun j h1 h2 => by simp [endF] at h2; omega, fun h2 => by simp [endF] at h2; omega⟩
  | f + 1, s, h => by
    simp only [endF]
    by_cases hb : x.getLsbD s = true
    · rw [if_pos hb]
      obtain ⟨h1, h2, h3, h4⟩ := endF_spec (x := x) (f := f) (s := s + 1) (by omega)
      refine ⟨by omega, h2, fun j g1 g2 => ?_, h4⟩
      by_cases e : j = s
      · rw [e]; exact hb
      · exact h3 j (by omega) g2
    · rw [if_neg hb]
      exact ⟨Nat.le_refl _, by omega, fun j g1 g2 => by omega, fun _ => by simpa using hb⟩

theorem endOf_spec {x : BitVec 64} {s : Nat} (h : s ≤ 64) : s ≤ endOf x s ∧ endOf x s ≤ 64 ∧ (∀ j, s ≤ j → j < endOf x s → x.getLsbD j = true) ∧ (endOf x s < 64 → x.getLsbD (endOf x s) = false) := endF_spec (by omega)

def starts (x : BitVec 64) (n : Nat) : List Nat := (List.range n).filter fun s => begins x s

/-- The runs, cut at n. -/
def runsAt (x : BitVec 64) (n : Nat) : List (Nat × Nat) := (starts x n).map fun s => (s, min (endOf x s) n)

/-- The runs. -/
def runs (x : BitVec 64) (n : Nat) : List (Nat × Nat) := (starts x n).map fun s => (s, endOf x s)

theorem starts_succ {x : BitVec 64} {n : Nat} : starts x (n + 1) = starts x n ++ (if begins x n then [n] else []) := by
  unfold starts
  rw [List.range_succ, List.filter_append]
  congr 1
  cases h : begins x n <;> simp [List.filter, h]

theorem runs_succ {x : BitVec 64} {n : Nat} : runs x (n + 1) = runs x n ++ (if begins x n then [(n, endOf x n)] else []) := by
  unfold runs
  rw [starts_succ, List.map_append]
  congr 1
  split <;> rfl

theorem runsAt_64 {x : BitVec 64} : runsAt x 64 = runs x 64 := by
  unfold runsAt runs
  refine List.map_congr_left fun s hs => ?_
  have : s < 64 := by unfold starts at hs; simp at hs; exact hs.1
  rw [Nat.min_eq_left (endOf_spec (x := x) (s := s) (by omega)).2.1]

theorem mem_starts {x : BitVec 64} {n s : Nat} : s ∈ starts x n ↔ s < n ∧ begins x s = true := by
  unfold starts; simp

/-- A number that is not there changes nothing. -/
theorem runsAt_skip {x : BitVec 64} {n : Nat} (hn : n < 64) (h : x.getLsbD n = false) : runsAt x (n + 1) = runsAt x n := by
  unfold runsAt
  have : begins x n = false := by unfold begins; rw [h]; rfl
  rw [starts_succ, this]
  simp only [Bool.false_eq_true, if_false, List.append_nil]
  refine List.map_congr_left fun s hs => ?_
  have hs1 := (mem_starts.1 hs).1
  obtain ⟨e1, e2, e3, e4⟩ := endOf_spec (x := x) (s := s) (by omega)
  have : endOf x s ≤ n := by
    apply Nat.le_of_not_lt
    intro hlt
    have := e3 n (by omega) hlt
    rw [h] at this; cases this
  rw [Nat.min_eq_left this, Nat.min_eq_left (by omega)]

theorem endOf_ge {x : BitVec 64} {s n : Nat} (hs : s ≤ n) (hn : n < 64) (h : n ≤ endOf x s) (hb : x.getLsbD n = true) : n + 1 ≤ endOf x s := by
  obtain ⟨e1, e2, e3, e4⟩ := endOf_spec (x := x) (s := s) (by omega)
  apply Nat.le_of_not_lt
  intro hlt
  have hen : endOf x s = n := by omega
  have := e4 (by omega)
  rw [hen, hb] at this; cases this

theorem endOf_le {x : BitVec 64} {s n : Nat} (hs : s ≤ n) (hn : n < 64) (hb : x.getLsbD n = false) : endOf x s ≤ n := by
  obtain ⟨e1, e2, e3, e4⟩ := endOf_spec (x := x) (s := s) (by omega)
  apply Nat.le_of_not_lt
  intro hlt
  have := e3 n hs hlt
  rw [hb] at this; cases this

theorem starts_last {x : BitVec 64} : ∀ {n : Nat}, n < 64 → x.getLsbD n = true → ∃ l s, starts x (n + 1) = l ++ [s] ∧ s ≤ n ∧ n + 1 ≤ endOf x s ∧ ∀ t ∈ l, endOf x t ≤ n := by
  intro n
  induction n with
  | zero =>
    intro hn hb
    have : begins x 0 = true := by unfold begins; rw [hb]; rfl
    refine ⟨[], 0, by rw [starts_succ, this]; rfl, Nat.le_refl _, endOf_ge (Nat.le_refl _) hn (by omega) hb, by simp⟩
  | succ n ih =>
    intro hn hb
    cases hp : x.getLsbD n with
    | true =>
      obtain ⟨l, s, h1, h2, h3, h4⟩ := ih (by omega) hp
      have : begins x (n + 1) = false := by unfold begins; simp [hp]
      refine ⟨l, s, by rw [starts_succ, this, h1]; simp, by omega, endOf_ge (by omega) hn (by omega) hb, fun t ht => Nat.le_succ_of_le (h4 t ht)⟩
    | false =>
      have : begins x (n + 1) = true := by unfold begins; simp [hp, hb]
      refine ⟨starts x (n + 1), n + 1, by rw [starts_succ, this]; rfl, Nat.le_refl _, endOf_ge (Nat.le_refl _) hn (by have := (endOf_spec (x := x) (s := n + 1) (by omega)).1; omega) hb, fun t ht => ?_⟩
      have := (mem_starts.1 ht).1
      exact Nat.le_succ_of_le (endOf_le (by omega) (by omega) hp)

/-- A number behind another one makes the last run longer. -/
theorem runsAt_more {x : BitVec 64} {n : Nat} (hn : n < 64) (h0 : 0 < n) (h : x.getLsbD n = true) (hp : x.getLsbD (n - 1) = true) :
    ∃ l s, runsAt x n = l ++ [(s, n)] ∧ runsAt x (n + 1) = l ++ [(s, n + 1)] := by
  obtain ⟨k, rfl⟩ : ∃ k, n = k + 1 := ⟨n - 1, by omega⟩
  simp only [Nat.add_sub_cancel] at hp
  obtain ⟨l, s, h1, h2, h3, h4⟩ := starts_last (x := x) (n := k) (by omega) hp
  have hb : begins x (k + 1) = false := by unfold begins; simp [hp]
  have h5 := endOf_ge (x := x) (s := s) (n := k + 1) (by omega) hn h3 h
  refine ⟨l.map fun s => (s, min (endOf x s) (k + 1)), s, ?_, ?_⟩
  · unfold runsAt
    rw [h1, List.map_append, List.map_cons, List.map_nil, Nat.min_eq_right h3]
  · unfold runsAt
    rw [starts_succ, hb]
    simp only [Bool.false_eq_true, if_false, List.append_nil]
    rw [h1, List.map_append, List.map_cons, List.map_nil, Nat.min_eq_right h5]
    congr 1
    refine List.map_congr_left fun t ht => ?_
    have := h4 t ht
    rw [Nat.min_eq_left (by omega), Nat.min_eq_left (by omega)]

/-- A number alone begins a run. -/
theorem runsAt_new {x : BitVec 64} {n : Nat} (hn : n < 64) (h : x.getLsbD n = true) (hp : n = 0 ∨ x.getLsbD (n - 1) = false) :
    runsAt x (n + 1) = runsAt x n ++ [(n, n + 1)] ∧ ∀ s e, (s, e) ∈ runsAt x n → e < n := by
  have hb : begins x n = true := by
    unfold begins
    rw [h]
    rcases hp with rfl | hp
    · rfl
    · rw [hp]; simp
  have key : ∀ s ∈ starts x n, endOf x s < n := by
    intro s hs
    obtain ⟨h1, h2⟩ := mem_starts.1 hs
    obtain ⟨e1, e2, e3, e4⟩ := endOf_spec (x := x) (s := s) (by omega)
    apply Nat.lt_of_not_le
    intro hle
    rcases hp with rfl | hp
    · omega
    · have := e3 (n - 1) (by omega) (by omega)
      rw [hp] at this; cases this
  refine ⟨?_, ?_⟩
  · unfold runsAt
    rw [starts_succ, hb]
    simp only [if_true, List.map_append, List.map_cons, List.map_nil]
    congr 1
    · refine List.map_congr_left fun s hs => ?_
      have := key s hs
      rw [Nat.min_eq_left (by omega), Nat.min_eq_left (by omega)]
    · obtain ⟨e1, e2, e3, e4⟩ := endOf_spec (x := x) (s := n) (by omega)
      have : n + 1 ≤ endOf x n := by
        apply Nat.le_of_not_lt
        intro hlt
        have hen : endOf x n = n := by omega
        have := e4 (by omega)
        rw [hen, h] at this; cases this
      rw [Nat.min_eq_right this]
  · intro s e hse
    unfold runsAt at hse
    rw [List.mem_map] at hse
    obtain ⟨s', hs', he⟩ := hse
    cases he
    have := key s hs'
    omega
end Go.Am


/- Where the ticks follow one another: the walks. -/
set_option linter.unusedVariables false
set_option linter.unusedSimpArgs false
namespace Go.Am

variable {m : Mem}

def pairsV (l : List (Nat × Nat)) : List Value := l.flatMap fun p => [Value.int .i64 (p.1 : Int), Value.int .i64 (p.2 : Int)]

theorem pairsV_append {l : List (Nat × Nat)} {s e : Nat} : pairsV (l ++ [(s, e)]) = pairsV l ++ [Value.int .i64 (s : Int), Value.int .i64 (e : Int)] := by
  unfold pairsV; rw [List.flatMap_append]; rfl
theorem pairsV_len {l : List (Nat × Nat)} : (pairsV l).length = l.length * 2 := by
  unfold pairsV
  induction l with
  | nil => rfl
  | cons p l ih => rw [List.flatMap_cons, List.length_append, ih]; simp; omega
theorem pairsV_last {l : List (Nat × Nat)} {a b : Value} {n : Nat} (h : n = l.length) : (pairsV l ++ [a, b])[n * 2 + 1]? = some b := by
  rw [List.getElem?_append_right (by rw [pairsV_len]; omega), pairsV_len, h]
  rw [show l.length * 2 + 1 - l.length * 2 = 1 by omega]; rfl

theorem pairsV_set {l : List (Nat × Nat)} {a b c : Value} : (pairsV l ++ [a, b]).set (l.length * 2 + 1) c = pairsV l ++ [a, c] := by
  rw [List.set_append_right _ _ (by rw [pairsV_len]; omega), pairsV_len, show l.length * 2 + 1 - l.length * 2 = 1 by omega]; rfl

theorem runsAt_upto {x : BitVec 64} {q t : Nat} (h : q ≤ t) (ht : t ≤ 64) (hn : ∀ j, q ≤ j → j < t → x.getLsbD j = false) : runsAt x t = runsAt x q := by
  induction t with
  | zero => have : q = 0 := by omega
            rw [this]
  | succ t ih =>
    by_cases e : q = t + 1
    · rw [e]
    · rw [runsAt_skip (by omega) (hn t (by omega) (by omega)), ih (by omega) (by omega) fun j h1 h2 => hn j h1 (by omega)]

set_option maxHeartbeats 4000000 in
theorem mask_Runs_spec {x : BitVec 64} : WC R F.mask_Runs [u64 x] m fun v m' => Own m m' 2 (runs x 64).length (pairsV (runs x 64)) v ∧ Ext m m' := by
  refine WC.of R.mask_Runs rfl ?_
  simp only [RC.mask_Runs, go_sem, not_true_eq_false, beq_self_eq_true, bne_self_eq_false, Bool.false_eq_true, if_false, if_true, Int.cast_ofNat_Int, decide_true, decide_false, reduceCtorEq, Nat.reduceEqDiff, Nat.reduceAdd, ne_eq, not_false_eq_true, Option.map_some, Option.bind_some, Option.map_none, Option.bind_none, true_and, and_true, Bool.not_true, Bool.not_false, Nat.reduceLeDiff, Nat.reduceMul, Nat.reduceSub, Nat.le_refl, Int.reduceToNat, Int.reduceLT, Int.reduceLE, Nat.one_mul, Nat.mul_one]
  refine gC.of mask_Ticks_spec ?_
  rintro tv m1 ⟨ho, hx⟩
  simp only [go_sem, not_true_eq_false, beq_self_eq_true, bne_self_eq_false, Bool.false_eq_true, if_false, if_true, Int.cast_ofNat_Int, decide_true, decide_false, reduceCtorEq, Nat.reduceEqDiff, Nat.reduceAdd, ne_eq, not_false_eq_true, Option.map_some, Option.bind_some, Option.map_none, Option.bind_none, true_and, and_true, Bool.not_true, Bool.not_false, Nat.reduceLeDiff, Nat.reduceMul, Nat.reduceSub, Nat.le_refl, Int.reduceToNat, Int.reduceLT, Int.reduceLE, Nat.one_mul, Nat.mul_one, ho.sl.len]
  have h64 : (tks x 64).length ≤ 64 := rank_le x 64
  refine WL.of (fun n e m' => ∃ (i q : Nat) (v : Value), i ≤ (tks x 64).length ∧ n = (tks x 64).length - i ∧ e = [(3, v), (8, tv), (9, .int .i64 (tks x 64).length), (10, .int .i64 i)] ∧
      q ≤ 64 ∧ rank x q = i ∧ Own m1 m' 2 (runsAt x q).length (pairsV (runsAt x q)) v ∧ Ext m1 m') (tks x 64).length
    ⟨0, 0, _, by omega, by omega, by simp only [go_sem, not_true_eq_false, beq_self_eq_true, bne_self_eq_false, Bool.false_eq_true, if_false, if_true, Int.cast_ofNat_Int, decide_true, decide_false, reduceCtorEq, Nat.reduceEqDiff, Nat.reduceAdd, ne_eq, not_false_eq_true, Option.map_some, Option.bind_some, Option.map_none, Option.bind_none, true_and, and_true, Bool.not_true, Bool.not_false, Nat.reduceLeDiff, Nat.reduceMul, Nat.reduceSub, Nat.le_refl, Int.reduceToNat, Int.reduceLT, Int.reduceLE, Nat.one_mul, Nat.mul_one] <;> rfl, by omega, rfl, .nil rfl rfl, Ext.refl _⟩ ?_
  rintro _ _ m2 ⟨i, q, v, hi, rfl, rfl, hq, hr, hv, hx2⟩
  have hs := (ho.keep hx2).sl
  simp only [go_sem, not_true_eq_false, beq_self_eq_true, bne_self_eq_false, Bool.false_eq_true, if_false, if_true, Int.cast_ofNat_Int, decide_true, decide_false, reduceCtorEq, Nat.reduceEqDiff, Nat.reduceAdd, ne_eq, not_false_eq_true, Option.map_some, Option.bind_some, Option.map_none, Option.bind_none, true_and, and_true, Bool.not_true, Bool.not_false, Nat.reduceLeDiff, Nat.reduceMul, Nat.reduceSub, Nat.le_refl, Int.reduceToNat, Int.reduceLT, Int.reduceLE, Nat.one_mul, Nat.mul_one]
  refine gT.of (fun h => ?_) (fun h => ?_)
  · simp only [go_sem, not_true_eq_false, beq_self_eq_true, bne_self_eq_false, Bool.false_eq_true, if_false, if_true, Int.cast_ofNat_Int, decide_true, decide_false, reduceCtorEq, Nat.reduceEqDiff, Nat.reduceAdd, ne_eq, not_false_eq_true, Option.map_some, Option.bind_some, Option.map_none, Option.bind_none, true_and, and_true, Bool.not_true, Bool.not_false, Nat.reduceLeDiff, Nat.reduceMul, Nat.reduceSub, Nat.le_refl, Int.reduceToNat, Int.reduceLT, Int.reduceLE, Nat.one_mul, Nat.mul_one, h]
    simp only [decide_eq_true_eq] at h
    have hil : i < (tks x 64).length := by omega
    obtain ⟨p, e1, e2⟩ := hs.get (k := .i64) (i := i) hil
    rw [ints_get hil] at e2
    obtain ⟨t1, t2, t3⟩ := tks_get hil
    generalize (tks x 64)[i] = t at *
    have hqt : q ≤ t := by
      apply Nat.le_of_not_lt
      intro hlt
      have := rank_lt hlt t2
      omega
    have hL : runsAt x t = runsAt x q := runsAt_upto hqt (by omega) fun j g1 g2 => by
      cases hb : x.getLsbD j with
      | false => rfl
      | true =>
        have g3 := rank_lt g2 hb
        have g4 := rank_mono (x := x) g1
        omega
    rw [← hL] at hv
    clear hL
    have hlen : (runsAt x t).length ≤ 64 := by
      unfold runsAt starts
      rw [List.length_map]
      exact Nat.le_trans (List.length_filter_le _ _) (by simp; omega)
    have next : ∀ v' m', Own m1 m' 2 (runsAt x (t + 1)).length (pairsV (runsAt x (t + 1))) v' → Ext m1 m' → ∃ n', n' < (tks x 64).length - i ∧ ∃ (i' q : Nat) (v : Value), i' ≤ (tks x 64).length ∧ n' = (tks x 64).length - i' ∧
        [(3, v'), (8, tv), (9, Value.int .i64 (tks x 64).length), (10, .int .i64 (IntKind.wrap .i64 ((i : Int) + 1)))] = [(3, v), (8, tv), (9, .int .i64 (tks x 64).length), (10, .int .i64 i')] ∧
        q ≤ 64 ∧ rank x q = i' ∧ Own m1 m' 2 (runsAt x q).length (pairsV (runsAt x q)) v ∧ Ext m1 m' := by
      intro v' m' g1 g2
      refine ⟨_, ?_, i + 1, t + 1, v', by omega, rfl, ?_, by omega, ?_, g1, g2⟩
      · omega
      · rw [wrap_i64 (by omega) (by omega)]; rfl
      · rw [rank_succ, if_pos t2, t3]
    simp only [go_sem, not_true_eq_false, beq_self_eq_true, bne_self_eq_false, Bool.false_eq_true, if_false, if_true, Int.cast_ofNat_Int, decide_true, decide_false, reduceCtorEq, Nat.reduceEqDiff, Nat.reduceAdd, ne_eq, not_false_eq_true, Option.map_some, Option.bind_some, Option.map_none, Option.bind_none, true_and, and_true, Bool.not_true, Bool.not_false, Nat.reduceLeDiff, Nat.reduceMul, Nat.reduceSub, Nat.le_refl, Int.reduceToNat, Int.reduceLT, Int.reduceLE, Nat.one_mul, Nat.mul_one, e1, e2, hv.sl.len]
    by_cases hm : 0 < t ∧ x.getLsbD (t - 1) = true
    · -- the last run grows
      obtain ⟨l, s, h1, h2⟩ := runsAt_more t1 hm.1 t2 hm.2
      rw [h2] at next
      rw [h1] at hv hlen ⊢
      rw [pairsV_append] at hv
      have e8 : (l ++ [(s, t)]).length = l.length + 1 := by simp
      rw [e8] at hv hlen
      simp only [e8]
      refine gT.of (fun g => ?_) (fun g => ?_)
      · have e9 : IntKind.wrap .i64 (((l.length + 1 : Nat) : Int) - 1) = ((l.length : Nat) : Int) := by rw [wrap_i64 (by omega) (by omega)]; omega
        obtain ⟨b, o, f1, f2, f3⟩ := hv.sl.cell (k := .i64) (i := l.length) (by omega)
        have f4 := f2 1 (by omega)
        rw [pairsV_last (by omega)] at f4
        simp only [go_sem, not_true_eq_false, beq_self_eq_true, bne_self_eq_false, Bool.false_eq_true, if_false, if_true, Int.cast_ofNat_Int, decide_true, decide_false, reduceCtorEq, Nat.reduceEqDiff, Nat.reduceAdd, ne_eq, not_false_eq_true, Option.map_some, Option.bind_some, Option.map_none, Option.bind_none, true_and, and_true, Bool.not_true, Bool.not_false, Nat.reduceLeDiff, Nat.reduceMul, Nat.reduceSub, Nat.le_refl, Int.reduceToNat, Int.reduceLT, Int.reduceLE, Nat.one_mul, Nat.mul_one, e8, g, e9, f1, f4]
        have gt : ((t : Int) == (t : Int)) = true := beq_self_eq_true _
        have e10 : IntKind.wrap .i64 ((t : Int) + 1) = ((t + 1 : Nat) : Int) := by rw [wrap_i64 (by omega) (by omega)]; rfl
        obtain ⟨b', m', p1, p2, p3, p4⟩ := hv.put (k := .i64) (i := l.length) (o := 1) (w := .int .i64 ((t + 1 : Nat) : Int)) hx2 (by omega) (by omega) rfl rfl
        cases f1.symm.trans p1
        simp only [go_sem, not_true_eq_false, beq_self_eq_true, bne_self_eq_false, Bool.false_eq_true, if_false, if_true, Int.cast_ofNat_Int, decide_true, decide_false, reduceCtorEq, Nat.reduceEqDiff, Nat.reduceAdd, ne_eq, not_false_eq_true, Option.map_some, Option.bind_some, Option.map_none, Option.bind_none, true_and, and_true, Bool.not_true, Bool.not_false, Nat.reduceLeDiff, Nat.reduceMul, Nat.reduceSub, Nat.le_refl, Int.reduceToNat, Int.reduceLT, Int.reduceLE, Nat.one_mul, Nat.mul_one, gt, e8, e9, e10, p2]
        refine next v m' ?_ p4
        have e11 : (l ++ [(s, t + 1)]).length = l.length + 1 := by simp
        rw [e11, pairsV_append]
        rw [pairsV_set] at p3
        exact p3
      · simp only [decide_eq_false_iff_not] at g; omega
    · -- a new run
      have hp : t = 0 ∨ x.getLsbD (t - 1) = false := by
        by_cases h0 : t = 0
        · exact .inl h0
        · right
          cases hb : x.getLsbD (t - 1) with
          | false => rfl
          | true => exact absurd ⟨by omega, hb⟩ hm
      obtain ⟨h1, h2⟩ := runsAt_new t1 t2 hp
      rw [h1] at next
      have e10 : IntKind.wrap .i64 ((t : Int) + 1) = ((t + 1 : Nat) : Int) := by rw [wrap_i64 (by omega) (by omega)]; rfl
      obtain ⟨v', m', p1, p2, p3⟩ := hv.app (by_ := 16) (es := [.int .i64 (t : Int), .int .i64 ((t + 1 : Nat) : Int)]) hx2 (by omega) rfl rfl (by omega) (by omega)
      have fin : Own m1 m' 2 (runsAt x t ++ [(t, t + 1)]).length (pairsV (runsAt x t ++ [(t, t + 1)])) v' := by
        have e11 : (runsAt x t ++ [(t, t + 1)]).length = (runsAt x t).length + 1 := by simp
        rw [e11, pairsV_append]; exact p2
      refine gT.of (fun g => ?_) (fun g => ?_)
      · rcases List.eq_nil_or_concat (runsAt x t) with hL | ⟨l, ⟨s, e⟩, hL⟩
        · rw [hL] at g; simp at g
        · rw [List.concat_eq_append] at hL
          have he : e < t := h2 s e (by rw [hL]; simp)
          have e8 : (runsAt x t).length = l.length + 1 := by rw [hL]; simp
          have e9 : IntKind.wrap .i64 (((l.length + 1 : Nat) : Int) - 1) = ((l.length : Nat) : Int) := by rw [wrap_i64 (by omega) (by omega)]; omega
          obtain ⟨b, o, f1, f2, f3⟩ := hv.sl.cell (k := .i64) (i := l.length) (by omega)
          have f4 := f2 1 (by omega)
          rw [hL, pairsV_append, pairsV_last rfl] at f4
          have ge : ((e : Int) == (t : Int)) = false := by rw [beq_eq_false_iff_ne]; omega
          rw [e8] at g
          simp only [go_sem, not_true_eq_false, beq_self_eq_true, bne_self_eq_false, Bool.false_eq_true, if_false, if_true, Int.cast_ofNat_Int, decide_true, decide_false, reduceCtorEq, Nat.reduceEqDiff, Nat.reduceAdd, ne_eq, not_false_eq_true, Option.map_some, Option.bind_some, Option.map_none, Option.bind_none, true_and, and_true, Bool.not_true, Bool.not_false, Nat.reduceLeDiff, Nat.reduceMul, Nat.reduceSub, Nat.le_refl, Int.reduceToNat, Int.reduceLT, Int.reduceLE, Nat.one_mul, Nat.mul_one, e8, g, e9, f1, f4]
          simp only [go_sem, not_true_eq_false, beq_self_eq_true, bne_self_eq_false, Bool.false_eq_true, if_false, if_true, Int.cast_ofNat_Int, decide_true, decide_false, reduceCtorEq, Nat.reduceEqDiff, Nat.reduceAdd, ne_eq, not_false_eq_true, Option.map_some, Option.bind_some, Option.map_none, Option.bind_none, true_and, and_true, Bool.not_true, Bool.not_false, Nat.reduceLeDiff, Nat.reduceMul, Nat.reduceSub, Nat.le_refl, Int.reduceToNat, Int.reduceLT, Int.reduceLE, Nat.one_mul, Nat.mul_one, ge, e10, p1]
          exact next v' m' fin p3
      · simp only [go_sem, not_true_eq_false, beq_self_eq_true, bne_self_eq_false, Bool.false_eq_true, if_false, if_true, Int.cast_ofNat_Int, decide_true, decide_false, reduceCtorEq, Nat.reduceEqDiff, Nat.reduceAdd, ne_eq, not_false_eq_true, Option.map_some, Option.bind_some, Option.map_none, Option.bind_none, true_and, and_true, Bool.not_true, Bool.not_false, Nat.reduceLeDiff, Nat.reduceMul, Nat.reduceSub, Nat.le_refl, Int.reduceToNat, Int.reduceLT, Int.reduceLE, Nat.one_mul, Nat.mul_one, g, e10, p1]
        exact next v' m' fin p3
  · simp only [go_sem, not_true_eq_false, beq_self_eq_true, bne_self_eq_false, Bool.false_eq_true, if_false, if_true, Int.cast_ofNat_Int, decide_true, decide_false, reduceCtorEq, Nat.reduceEqDiff, Nat.reduceAdd, ne_eq, not_false_eq_true, Option.map_some, Option.bind_some, Option.map_none, Option.bind_none, true_and, and_true, Bool.not_true, Bool.not_false, Nat.reduceLeDiff, Nat.reduceMul, Nat.reduceSub, Nat.le_refl, Int.reduceToNat, Int.reduceLT, Int.reduceLE, Nat.one_mul, Nat.mul_one, h]
    simp only [decide_eq_false_iff_not] at h
    have e : rank x q = rank x 64 := by
      have : rank x 64 = (tks x 64).length := rfl
      omega
    have hall : runsAt x 64 = runsAt x q := runsAt_upto hq (by omega) fun j g1 g2 => by
      cases hb : x.getLsbD j with
      | false => rfl
      | true =>
        have g3 := rank_lt g2 hb
        have g4 := rank_mono (x := x) g1
        omega
    rw [← runsAt_64, hall]
    exact ⟨hv.weak hx, hx.trans hx2⟩
end Go.Am
