/- Parts of the proofs of the statements of this seat: TtLocalW5, TtLocalX1, RingW1, RingW2, AmIns2, RingW3, RingW4, RingX1, RingX2, WTopTwo. No conditions. -/
import Derived.Test.YtaoebjknldmkiaaGreatDoorTopTwoPart5
import Derived.Test.YtaoebjknldmkiaaGreatDoorTopTwoPart6
import Derived.Test.YtaoebjknldmkiaaGreatDoorTopTwoPart3
set_option linter.unusedVariables false
set_option linter.unusedSimpArgs false

/- LocalW5 over the table of tt (relayset.py). -/
set_option linter.unusedVariables false
set_option linter.unusedSimpArgs false
namespace Go.Am
variable {m : Mem}

def sumW : List Sp → Int
  | [] => 0
  | w :: r => w.2 + sumW r
theorem sumW_perm {l l' : List Sp} (h : l.Perm l') : sumW l = sumW l' := by
  induction h with
  | nil => rfl
  | cons x _ ih => simp only [sumW, ih]
  | swap x y l => simp only [sumW]; omega
  | trans _ _ h1 h2 => exact h1.trans h2
theorem sumW_wts : ∀ {L : List En}, sumW (wts L) = sumN sI L
  | [] => rfl
  | e :: L => by
    show e.s + sumW (wts L) = e.s + sumN sI L
    rw [sumW_wts]
theorem sumW_nn {l : List Sp} (h : ∀ w ∈ l, 0 ≤ w.2) : 0 ≤ sumW l := by
  induction l with
  | nil => exact Int.le_refl _
  | cons w l ih =>
    have := h w (by simp)
    have := ih fun x hx => h x (by simp [hx])
    show 0 ≤ w.2 + sumW l
    omega

theorem totO_sum : ∀ {l : List Sp} {n : Int}, (∀ w ∈ l, 0 ≤ w.2 ∧ w.2 ≤ 1000) → 0 ≤ n → n + 1000 * l.length ≤ 1000000000 → totO n l = some (n + sumW l)
  | [], n, _, _, _ => by show some n = some (n + 0); rw [Int.add_zero]
  | w :: l, n, h, hn, hb => by
    have hw := h w (by simp)
    simp only [List.length_cons] at hb
    rw [totO, if_pos (by unfold inR; omega), totO_sum (fun x hx => h x (by simp [hx])) (by omega) (by omega)]
    show some (n + w.2 + sumW l) = some (n + (w.2 + sumW l))
    congr 1; omega

theorem chkF_zero {f : Int} : ∀ {l pre : List Sp}, chkF f pre l = 0 → (∀ w ∈ l, isU w.1 ∧ 1 ≤ w.2 ∧ w.2 ≤ f) ∧ (l.map Prod.fst).Nodup ∧ ∀ w ∈ l, ∀ p ∈ pre, p.1 ≠ w.1
  | [], pre, _ => by simp
  | w :: l, pre, h => by
    rw [chkF] at h
    split at h
    · cases h
    · rename_i h1
      split at h
      · cases h
      · rename_i h2
        split at h
        · cases h
        · rename_i h3
          obtain ⟨k1, k2, k3⟩ := chkF_zero h
          refine ⟨fun x hx => ?_, ?_, fun x hx p hp => ?_⟩
          · rcases List.mem_cons.1 hx with rfl | hx
            · exact ⟨Classical.not_not.1 h1, by omega, by omega⟩
            · exact k1 x hx
          · rw [List.map_cons, List.nodup_cons]
            refine ⟨fun hm => ?_, k2⟩
            obtain ⟨y, hy, e⟩ := List.mem_map.1 hm
            exact k3 y hy w (by simp) e.symm
          · rcases List.mem_cons.1 hx with rfl | hx
            · intro e; exact h3 ⟨p, hp, e⟩
            · exact k3 x hx p (by simp [hp])

theorem newE_zero {f : Int} {l : List Sp} (h : newE f l = 0) (hl : l.length ≤ 1000) : 2 ≤ f ∧ f ≤ 64 ∧ (∀ w ∈ l, isU w.1 ∧ 1 ≤ w.2 ∧ w.2 ≤ f) ∧ (l.map Prod.fst).Nodup ∧ sumW l ≤ f := by
  unfold newE at h
  split at h
  · rename_i hc
    unfold chkA at hc
    split at hc
    · cases hc
    · rename_i hf
      obtain ⟨k1, k2, k3⟩ := chkF_zero hc
      have ht := totO_sum (n := 0) (l := l) (fun w hw => by have := k1 w hw; omega) (by omega) (by omega)
      rw [ht] at h
      simp only at h
      split at h
      · cases h
      · exact ⟨by omega, by omega, k1, k2, by omega⟩
  · rename_i hc; exact absurd h hc

theorem wts_keys {L : List En} : wts L = keys L := rfl
theorem keys_ent {l : List Sp} : keys (l.map ent) = l := by
  unfold keys; rw [List.map_map]
  have : (fun e : En => (e.u, e.s)) ∘ ent = id := by funext w; rfl
  rw [this, List.map_id]
theorem keys_perm {L L' : List En} (h : L.Perm L') : (keys L).Perm (keys L') := h.map _

theorem locTotal {m0 : Mem} {b : Nat} {L : List En} {lv : Value} (h : LocV m0 m b L lv) (hl : L.length ≤ 1000) (hS : ∀ e ∈ L, 0 ≤ e.s ∧ e.s ≤ 1000) :
    WC R F.local_Local_Total [.pointer (some ⟨b, 0, none⟩)] m fun r m' => r = .int .i64 (sumN sI L) ∧ Ext m m' := by
  refine WC.of R.local_Local_Total rfl ?_
  simp only [RC.local_Local_Total, go_sem]
  refine gC.of (locWants h (by omega)) ?_
  rintro wv m1 ⟨ho, hx1⟩
  have hw : (wts L).length = L.length := by simp [wts]
  have hb : ∀ w ∈ wts L, 0 ≤ w.2 ∧ w.2 ≤ 1000 := fun w hw => by
    obtain ⟨e, he, rfl⟩ := List.mem_map.1 hw
    exact hS e he
  simp only [go_sem]
  refine gC.of (orTotal ho.sl ho.lt (by omega) (fun w hw => by have := hb w hw; unfold inR; omega)) ?_
  have ht := totO_sum (n := 0) (l := wts L) hb (by omega) (by omega)
  rintro _ m2 ⟨⟨n, hn, rfl⟩ | ⟨hn, rfl⟩, hx2⟩
  · rw [ht] at hn
    have : n = sumN sI L := by rw [← sumW_wts]; have := Option.some.inj hn; omega
    subst this
    simp only [go_sem, aExt0, aExt1]
    exact hx1.trans hx2
  · rw [ht] at hn; cases hn

theorem pick_g {L : List En} {off : Int → Bool} {K : Nat} (hs : ∀ e ∈ L, 0 < e.s) (h : ∀ e ∈ L, e.g ≤ K) : ∀ e ∈ pick L off, e.g ≤ K + 1 := by
  have sp := bst_spec (off := off) hs L.length (Nat.le_refl _)
  intro e he
  cases hb : bst L off L.length with
  | none =>
    have : pick L off = L := by unfold pick; rw [hb]
    rw [this] at he
    have := h e he; omega
  | some b =>
    rw [hb] at sp
    rw [pick_some hb sp.1] at he
    rcases List.mem_or_eq_of_mem_set he with h1 | h1
    · have := h e h1; omega
    · have := h _ (List.getElem_mem sp.1)
      rw [h1]; show L[b].g + 1 ≤ K + 1; omega

/-- Bounds of all. -/
structure Bd (L : List En) (K : Nat) : Prop where
  s : ∀ e ∈ L, 0 < e.s ∧ e.s ≤ 64
  g : ∀ e ∈ L, e.g ≤ K
theorem Bd.pos {L : List En} {K : Nat} (h : Bd L K) : ∀ e ∈ L, 0 < e.s := fun e he => (h.s e he).1
theorem Bd.sm {L : List En} {K : Nat} (h : Bd L K) (hK : K < 900000) : ∀ e ∈ L, Sm e := fun e he => ⟨(h.s e he).1, by have := (h.s e he).2; omega, by have := h.g e he; omega⟩
theorem Bd.pick {L : List En} {K : Nat} {off : Int → Bool} (h : Bd L K) : Bd (pick L off) (K + 1) := by
  refine ⟨fun e he => ?_, pick_g h.pos h.g⟩
  have hk := pick_keys (off := off) h.pos
  have : (e.u, e.s) ∈ keys L := by rw [← hk]; exact List.mem_map.2 ⟨e, he, rfl⟩
  obtain ⟨e', he', heq⟩ := List.mem_map.1 this
  have := h.s e' he'
  have : e'.s = e.s := congrArg Prod.snd heq
  omega

/-- A local of a law: nobody got anything yet. -/
structure MadeL (l : List Sp) (L : List En) : Prop where
  perm : (keys L).Perm l
  zero : ∀ e ∈ L, e.g = 0
  bd : Bd L 0
end Go.Am


/- LocalX1 over the table of tt (relayset.py). -/
set_option linter.unusedVariables false
set_option linter.unusedSimpArgs false
namespace Go.Am
variable {m : Mem}

theorem w_read {m : Mem} {v : Value} (h : Rd m (.sl [.int .i64, .int .i64]) v) : ∃ l : List Sp, Sl m 2 l.length (l.flatMap spV) v ∧ SlLt m v ∧ Cut 2 m v ∧ ∀ w ∈ l, inR w.1 ∧ inR w.2 := by
  obtain ⟨l, h1, h2, -⟩ := Rd.slice (f := fun (s : { s : Sp // inR s.1 ∧ inR s.2 }) => spV s.1) (fun cs hc => by
    obtain ⟨c, r, rfl, h1, h2⟩ := hc.one
    obtain ⟨d, r2, rfl, h3, h4⟩ := h2.one
    cases h4.none
    obtain ⟨a, rfl, a1, a2⟩ := h1.i64
    obtain ⟨b, rfl, b1, b2⟩ := h3.i64
    exact ⟨⟨(a, b), ⟨a1, a2⟩, b1, b2⟩, rfl⟩) h
  refine ⟨l.map Subtype.val, ?_, h2, h.free.cut, fun w hw => ?_⟩
  · rw [List.length_map, List.flatMap_map]
    exact h1
  · obtain ⟨s, -, rfl⟩ := List.mem_map.1 hw
    exact s.2

/-- The first ones of an argument. -/
theorem cutTo {l : List Sp} {v : Value} {N : Nat} (hs : Sl m 2 l.length (l.flatMap spV) v) (hb : SlLt m v) (hc : Cut 2 m v) :
    ∃ v', aSub 2 m v none (some (.int .i64 ((min l.length N : Nat) : Int))) none = some v' ∧ Sl m 2 (l.take N).length ((l.take N).flatMap spV) v' ∧ SlLt m v' ∧ (l.take N).length ≤ N := by
  obtain ⟨v', a1, a2, a3, a4⟩ := hs.to hc (k := .i64) (i := min l.length N) (by omega)
  have h : (l.take N).length = min l.length N := by rw [List.length_take]; omega
  have h2 : (l.flatMap spV).take (min l.length N * 2) = (l.take N).flatMap spV := by
    have e : l.flatMap spV = (l.take N).flatMap spV ++ (l.drop N).flatMap spV := by rw [← List.flatMap_append, List.take_append_drop]
    rw [e, List.take_left' (by rw [flat_len spV_len, h])]
  rw [h2, ← h] at a2
  exact ⟨v', a1, a2, a3 hb, by rw [h]; omega⟩

theorem same_unit : ∀ {l : List Sp}, (l.map Prod.fst).Nodup → ∀ {x y : Sp}, x ∈ l → y ∈ l → x.1 = y.1 → x = y
  | [], _, _, _, h, _, _ => by simp at h
  | w :: l, hn, x, y, hx, hy, e => by
    rw [List.map_cons, List.nodup_cons] at hn
    rcases List.mem_cons.1 hx with h1 | h1 <;> rcases List.mem_cons.1 hy with h2 | h2
    · rw [h1, h2]
    · exact absurd (List.mem_map.2 ⟨y, h2, by rw [← e, h1]⟩) hn.1
    · exact absurd (List.mem_map.2 ⟨x, h1, by rw [e, h2]⟩) hn.1
    · exact same_unit hn.2 h1 h2 e

/-- Behind some picks, with nobody off. -/
structure Picks (l : List Sp) (L : List En) (t : Nat) : Prop where
  perm : (keys L).Perm l
  fair : ∀ i, i < L.length → Fair L i
  sum : sumN gI L = t
  bd : Bd L t
theorem Picks.start {l : List Sp} {L : List En} (h : MadeL l L) : Picks l L 0 := by
  refine ⟨h.perm, fun i hi hi' j hj => ?_, ?_, h.bd⟩
  · rw [h.zero _ (List.getElem_mem hj), h.zero _ (List.getElem_mem hi)]
    have := (h.bd.s _ (List.getElem_mem hj)).1
    simp; omega
  · rw [sumN_congr (g := fun _ => 0) fun e he => by show (e.g : Int) = 0; rw [h.zero e he]; rfl, sumN_const]; simp
theorem Picks.pick {l : List Sp} {L : List En} {t : Nat} (h : Picks l L t) (h0 : 0 < L.length) : Picks l (pick L (offF [])) (t + 1) ∧ ∃ b, bst L (offF []) L.length = some b := by
  have hk := pick_keys (off := offF []) h.bd.pos
  have hl := keys_len hk
  obtain ⟨-, hs, hb⟩ := pick_fair (off := offF []) h.bd.pos h0 rfl (h.fair 0 h0)
  refine ⟨⟨by rw [hk]; exact h.perm, fun i hi => (pick_fair (off := offF []) h.bd.pos (by omega) rfl (h.fair i (by omega))).1, by rw [hs, h.sum]; omega, h.bd.pick⟩, hb⟩
theorem Picks.total {l : List Sp} {L : List En} {t : Nat} (h : Picks l L t) : sumN sI L = sumW l := by
  rw [← sumW_wts, wts_keys]; exact sumW_perm h.perm
theorem Picks.len {l : List Sp} {L : List En} {t : Nat} (h : Picks l L t) : L.length = l.length := by
  have := h.perm.length_eq; simpa [keys] using this
/-- Each want is there. -/
theorem Picks.there {l : List Sp} {L : List En} {t : Nat} (h : Picks l L t) {w : Sp} (hw : w ∈ l) : ∃ e ∈ L, e.u = w.1 := by
  obtain ⟨e, he, heq⟩ := List.mem_map.1 (h.perm.mem_iff.2 hw)
  exact ⟨e, he, congrArg Prod.fst heq⟩
theorem Picks.share {l : List Sp} {L : List En} {t : Nat} (h : Picks l L t) (hn : (l.map Prod.fst).Nodup) {w : Sp} (hw : w ∈ l) {i : Nat} (hi : i < L.length) (e : L[i].u = w.1) : L[i].s = w.2 := by
  have h1 : (L[i].u, L[i].s) ∈ l := h.perm.mem_iff.1 (List.mem_map.2 ⟨L[i], List.getElem_mem hi, rfl⟩)
  have := same_unit hn h1 hw e
  exact congrArg Prod.snd this
end Go.Am


/- A ring: where one would stand; who is next; a new one. -/
set_option linter.unusedVariables false
set_option linter.unusedSimpArgs false
namespace Go.Am
variable {m : Mem}

/-- A ring in its cell. -/
structure RingV (m0 m : Mem) (b : Nat) (L : List Rm) (lv : Value) : Prop where
  box : Bk m b [u64 (2048#64), lv, u64 (0#64), u64 (1#64)] 4
  own : Own m0 m 4 L.length (L.flatMap rmV) lv
  ext : Ext m0 m
  ge : m0.next ≤ b
  off : ∀ c ∈ vb lv, b < c
theorem RingV.keep {m0 m m' : Mem} {b : Nat} {L : List Rm} {lv : Value} (h : RingV m0 m b L lv) (hx : Ext m m') : RingV m0 m' b L lv :=
  ⟨h.box.keep hx, h.own.keep hx, h.ext.trans hx, h.ge, h.off⟩

theorem rmFlat {l : List Rm} : (l.flatMap rmV).length = l.length * 4 := flat_len rmV_len

theorem kfill_ru : fillL [u64 0#64, u64 0#64] [(0, 1, u64 0#64), (1, 1, u64 1#64)] = some [u64 0#64, u64 1#64] := rfl
theorem kfill_rr {x : BitVec 64} : fillL [u64 0#64, .slice none 0 0, u64 0#64, u64 0#64] [(0, 1, u64 x), (2, 2, .agg #[u64 0#64, u64 1#64])] = some [u64 x, .slice none 0 0, u64 0#64, u64 1#64] := rfl
theorem ringNew : WC R F.ring_New [.int .i64 2048] m fun r m' => ∃ b, r = .tuple #[.pointer (some ⟨b, 0, none⟩), .int .i64 0] ∧ RingV m m' b [] (.slice none 0 0) := by
  refine WC.of R.ring_New rfl ?_
  simp only [RC.ring_New, go_sem, ↓kfill_ru, ↓kfill_rr]
  try simp only [go_sem, ruB, ↓kfill_ru, ↓kfill_rr]
  exact ⟨m.next, rfl, Bk.new, .nil rfl rfl, Ext.new, Nat.le_refl _, fun c hc => by simp [vb] at hc⟩

theorem ringNone {m0 : Mem} {b : Nat} {L : List Rm} {lv : Value} (h : RingV m0 m b L lv) : WC R F.ring_Ring_none [.pointer (some ⟨b, 0, none⟩)] m fun r m' => r = .bool false ∧ m' = m := by
  refine WC.of R.ring_Ring_none rfl ?_
  simp only [RC.ring_Ring_none, go_sem]
  try simp only [go_sem, ruB, h.box.at_]
  rfl

theorem ringFind1 {e : Rm} {x : Int} : WC R F.ring_Ring_find_1 [.agg (rmV e).toArray, .int .i64 x] m fun r m' => r = .int .i64 (cmpI e.id x) ∧ Ext m m' := by
  refine WC.of R.ring_Ring_find_1 rfl ?_
  simp only [RC.ring_Ring_find_1, go_sem, rmV]
  try simp only [go_sem, ruB]
  refine gC.of cmpInt ?_
  rintro _ _ ⟨rfl, hm⟩
  subst hm
  try simp only [go_sem, ruB]
  exact Ext.new

theorem shr1 {a b : Nat} (h : a + b < 1000000) : (IntKind.wrap .i64 ((BitVec.ofInt 64 ((a + b : Nat) : Int) >>> (1#64).toNat).toNat : Int)) = ((a + b) / 2 : Nat) := by
  have e : BitVec.ofInt 64 ((a + b : Nat) : Int) = BitVec.ofNat 64 (a + b) := rfl
  have e1 : (1#64).toNat = 1 := rfl
  rw [e, e1, BitVec.toNat_ushiftRight, BitVec.toNat_ofNat, Nat.mod_eq_of_lt (by omega), Nat.shiftRight_eq_div_pow, wrap_i64 (by omega) (by omega)]

/-- Where a member would stand whose id is above all. -/
theorem ringBin {m0 : Mem} {b : Nat} {L : List Rm} {lv : Value} {x : Int} (h : RingV m0 m b L lv) (hl : L.length < 1000) (hx : ∀ e ∈ L, e.id < x) :
    WC R F.slices_BinarySearchFunc_ring_member_ring_member_int [lv, .int .i64 x, .func (.func F.ring_Ring_find_1) #[] #[]] m fun r m' => r = .tuple #[.int .i64 L.length, .bool false] ∧ Ext m m' := by
  refine WC.of R.slices_BinarySearchFunc_ring_member_ring_member_int rfl ?_
  have hsl := h.own.sl
  have hlt := h.own.lt
  simp only [RC.slices_BinarySearchFunc_ring_member_ring_member_int, go_sem, hsl.len]
  refine WL.of (fun n e m' => ∃ i : Nat, i ≤ L.length ∧ n = L.length - i ∧ e = [(0, lv), (1, .int .i64 x), (2, .func (.func F.ring_Ring_find_1) #[] #[]), (8, .int .i64 L.length), (9, .int .i64 i), (10, .int .i64 L.length)] ∧ Ext m m') L.length
    ⟨0, by omega, by omega, by simp only [go_sem] <;> rfl, Ext.refl _⟩ ?_
  rintro _ _ m1 ⟨i, hi, rfl, rfl, hx1⟩
  simp only [RB.slices_BinarySearchFunc_ring_member_ring_member_int_1, go_sem]
  refine gT.of (fun g1' => ?_) (fun g1' => ?_) <;> (have g1 := g1'; try simp only [decide_eq_true_eq, decide_eq_false_iff_not, beq_iff_eq, bne_iff_ne, beq_eq_false_iff_ne, ne_eq, Bool.not_eq_true', Bool.not_eq_false', bne_eq_false_iff_eq, Int.not_lt, Int.not_le] at g1)
  · have hh : (i + L.length) / 2 < L.length := by omega
    have w1 : IntKind.wrap .i64 ((i : Int) + (L.length : Int)) = ((i + L.length : Nat) : Int) := by rw [wrap_i64 (by omega) (by omega)]; rfl
    simp only [go_sem, g1', w1]
    obtain ⟨p, o, a1, a2, -, -⟩ := (hsl.keep hlt hx1).elem rmV_len (k := .i64) hh
    simp only [go_sem, shr1 (show i + L.length < 1000000 by omega), a1, a2]
    refine gC.of ringFind1 ?_
    rintro _ m2 ⟨rfl, hx2⟩
    have e1 : decide (cmpI L[(i + L.length) / 2].id x < 0) = true := decide_eq_true (cmpI_neg.2 (hx _ (List.getElem_mem hh)))
    simp only [go_sem, e1, step1 (show (i + L.length) / 2 < 1000000 by omega)]
    exact ⟨L.length - ((i + L.length) / 2 + 1), by omega, (i + L.length) / 2 + 1, by omega, rfl, rfl, hx1.trans hx2⟩
  · obtain rfl : i = L.length := by omega
    simp only [go_sem, g1']
    exact hx1
end Go.Am


/- A ring: who is next; the floor. -/
set_option linter.unusedVariables false
set_option linter.unusedSimpArgs false
namespace Go.Am
variable {m : Mem}

def RSm (e : Rm) : Prop := 0 < e.w ∧ e.w < 1000000 ∧ e.n < 1000000
def rI : Option Nat → Int
  | none => 0
  | some b => b

set_option maxHeartbeats 2000000 in
theorem ringLeast {m0 : Mem} {b : Nat} {L : List Rm} {lv : Value} (h : RingV m0 m b L lv) (hl : L.length < 1000) (hS : ∀ e ∈ L, RSm e) :
    WC R F.ring_Ring_least [.pointer (some ⟨b, 0, none⟩)] m fun r m' => r = .tuple #[.int .i64 (rI (rbst L L.length)), .bool (rbst L L.length).isSome] ∧ Ext m m' := by
  refine WC.of R.ring_Ring_least rfl ?_
  have hsl := h.own.sl
  have hlt := h.own.lt
  simp only [RC.ring_Ring_least, go_sem]
  try simp only [go_sem, ruB, h.box.at_, hsl.len]
  refine WL.of (fun n e m' => ∃ k : Nat, k ≤ L.length ∧ n = L.length - k ∧ e = [(0, .pointer (some ⟨b, 0, none⟩)), (4, .int .i64 (rI (rbst L k))), (5, .bool (rbst L k).isSome), (13, lv), (14, .int .i64 L.length), (15, .int .i64 k)] ∧ Ext m m') L.length
    ⟨0, by omega, by omega, by simp only [go_sem] <;> rfl, Ext.refl _⟩ ?_
  rintro _ _ m1 ⟨k, hk, rfl, rfl, hx⟩
  have sp := rbst_spec (fun e he => (hS e he).1) k hk
  simp only [RB.ring_Ring_least_1, go_sem]
  refine gT.of (fun g1' => ?_) (fun g1' => ?_) <;> (have g1 := g1'; try simp only [decide_eq_true_eq, decide_eq_false_iff_not, beq_iff_eq, bne_iff_ne, beq_eq_false_iff_ne, ne_eq, Bool.not_eq_true', Bool.not_eq_false', bne_eq_false_iff_eq, Int.not_lt, Int.not_le] at g1)
  · have hkl : k < L.length := by omega
    have s1 := step1 (show k < 1000000 by omega)
    obtain ⟨p, o, a1, a2, -, -⟩ := (hsl.keep hlt hx).elem rmV_len (k := .i64) hkl
    have hSk := hS _ (List.getElem_mem hkl)
    have hbs : rbst L (k + 1) = match rbst L k with | none => some k | some b => if L[k]!.n * L[b]!.w < L[b]!.n * L[k]!.w then some k else some b := rfl
    rw [getElem!_pos L k hkl] at hbs
    simp only [go_sem, g1', a1, a2]
    generalize L[k] = w at hSk hbs ⊢
    have hst : aStore 4 (m1.new (.cells [(.int .i64 0), u64 0#64, u64 0#64, (.bool false)] (some 4))) (.pointer (some ⟨m1.next, 0, none⟩)) (.agg (rmV w).toArray) = some (m1.new (.cells [.int .i64 w.id, u64 (BitVec.ofNat 64 w.w), u64 (BitVec.ofNat 64 w.n), .bool true] (some 4))) := by
      simp only [rmV]
      simp only [go_sem, ruB]
    simp only [go_sem, hst]
    have hxx : Ext m1 (m1.new (.cells [.int .i64 w.id, u64 (BitVec.ofNat 64 w.w), u64 (BitVec.ofNat 64 w.n), .bool true] (some 4))) := Ext.new
    have hbx : Bk (m1.new (.cells [.int .i64 w.id, u64 (BitVec.ofNat 64 w.w), u64 (BitVec.ofNat 64 w.n), .bool true] (some 4))) m1.next [.int .i64 w.id, u64 (BitVec.ofNat 64 w.w), u64 (BitVec.ofNat 64 w.n), .bool true] 4 := Bk.new
    generalize m1.new (.cells [.int .i64 w.id, u64 (BitVec.ofNat 64 w.w), u64 (BitVec.ofNat 64 w.n), .bool true] (some 4)) = m2 at hxx hbx ⊢
    have hx2 := hx.trans hxx
    have h2 := h.keep hx2
    -- the best one so far, or the first one
    have hq : ∃ q : Nat, q < L.length ∧ rI (rbst L k) = (q : Int) ∧ ∀ i, rbst L k = some i → q = i := by
      revert sp
      cases rbst L k with
      | none => intro e; exact ⟨0, by omega, rfl, fun i hi => by cases hi⟩
      | some i => rintro ⟨i1, -⟩; exact ⟨i, by omega, rfl, fun j hj => by cases hj; rfl⟩
    obtain ⟨q, hqL, hq1, hq2⟩ := hq
    obtain ⟨p', o', b1, b2, b3, -⟩ := (hsl.keep hlt hx2).elem rmV_len (k := .i64) hqL
    have hSq := hS _ (List.getElem_mem hqL)
    have c1 : aLoad false 1 m2 (.pointer (some ⟨p', o' + 1, none⟩)) = some (u64 (BitVec.ofNat 64 L[q].w)) := b3 1 (by omega)
    have c2 : aLoad false 1 m2 (.pointer (some ⟨p', o' + 2, none⟩)) = some (u64 (BitVec.ofNat 64 L[q].n)) := b3 2 (by omega)
    try simp only [go_sem, ruB, hq1, hbx.at_, h2.box.at_, b1, c1, c2]
    refine gC.of (fixCmp hSk.2.2 hSk.2.1 hSq.2.2 hSq.2.1 hSk.1 hSq.1) ?_
    rintro _ m_ ⟨rfl, hm⟩
    replace hm := hm.symm
    subst hm
    cases hb0 : rbst L k with
    | none =>
      rw [hb0] at hbs
      simp only [go_sem, Option.isSome_none, s1, aExt0, aExt1]
      exact ⟨L.length - (k + 1), by omega, k + 1, by omega, rfl, by rw [hbs]; rfl, hx2⟩
    | some i =>
      rw [hb0] at hbs
      obtain rfl := hq2 i hb0
      dsimp only at hbs
      rw [getElem!_pos L q hqL] at hbs
      simp only [go_sem, Option.isSome_some, s1, aExt0, aExt1]
      by_cases g4 : w.n * L[q].w < L[q].n * w.w
      · have e4 : decide ((if w.n * L[q].w < L[q].n * w.w then (-1 : Int) else if w.n * L[q].w = L[q].n * w.w then 0 else 1) < 0) = true := by rw [if_pos g4]; rfl
        simp only [if_pos g4] at hbs
        simp only [go_sem, e4, s1]
        exact ⟨L.length - (k + 1), by omega, k + 1, by omega, rfl, by rw [hbs]; rfl, hx2⟩
      · have e4 : decide ((if w.n * L[q].w < L[q].n * w.w then (-1 : Int) else if w.n * L[q].w = L[q].n * w.w then 0 else 1) < 0) = false := by rw [if_neg g4]; split <;> rfl
        simp only [if_neg g4] at hbs
        simp only [go_sem, e4, s1]
        exact ⟨L.length - (k + 1), by omega, k + 1, by omega, rfl, by rw [hbs]; rfl, hx2⟩
  · obtain rfl : k = L.length := by omega
    simp only [go_sem, g1']
    exact hx

theorem kfill_rf {a b : BitVec 64} : fillL [u64 0#64, u64 0#64] [(0, 1, u64 a), (1, 1, u64 b)] = some [u64 a, u64 b] := rfl
/-- Where nobody has run the floor is zero. -/
theorem ringFloor {m0 : Mem} {b : Nat} {L : List Rm} {lv : Value} (h : RingV m0 m b L lv) (hl : L.length < 1000) (hS : ∀ e ∈ L, RSm e) (hz : ∀ e ∈ L, e.n = 0) :
    WC R F.ring_Ring_floor [.pointer (some ⟨b, 0, none⟩)] m fun r m' => (∃ d : Nat, 0 < d ∧ d < 1000000 ∧ r = .agg #[u64 0#64, u64 (BitVec.ofNat 64 d)]) ∧ Ext m m' := by
  refine WC.of R.ring_Ring_floor rfl ?_
  simp only [RC.ring_Ring_floor, go_sem]
  try simp only [go_sem, ruB]
  have hx : Ext m (m.new (.cells [u64 0#64, u64 0#64] (some 2))) := Ext.new
  have hb : Bk (m.new (.cells [u64 0#64, u64 0#64] (some 2))) m.next [u64 0#64, u64 0#64] 2 := Bk.new
  generalize m.new (.cells [u64 0#64, u64 0#64] (some 2)) = m1 at hx hb ⊢
  have h1 := h.keep hx
  refine gC.of (ringLeast h1 hl hS) ?_
  rintro _ m2 ⟨rfl, hx2⟩
  have h2 := h1.keep hx2
  have hb2 := hb.keep hx2
  have sp := rbst_spec (fun e he => (hS e he).1) L.length (Nat.le_refl _)
  simp only [go_sem, aExt0, aExt1]
  cases hb0 : rbst L L.length with
  | none =>
    simp only [go_sem, Option.isSome_none]
    try simp only [go_sem, ruB, h2.box.at_, hb2.at_]
    exact ⟨⟨1, by omega, by omega, rfl⟩, (hx.trans hx2).set (Nat.le_refl _)⟩
  | some i =>
    rw [hb0] at sp
    obtain ⟨i1, -⟩ := sp
    obtain ⟨p', o', b1, b2, b3, -⟩ := h2.own.sl.elem rmV_len (k := .i64) i1
    have hSi := hS _ (List.getElem_mem i1)
    have c1 : aLoad false 1 m2 (.pointer (some ⟨p', o' + 1, none⟩)) = some (u64 (BitVec.ofNat 64 L[i].w)) := b3 1 (by omega)
    have c2 : aLoad false 1 m2 (.pointer (some ⟨p', o' + 2, none⟩)) = some (u64 (BitVec.ofNat 64 L[i].n)) := b3 2 (by omega)
    rw [hz _ (List.getElem_mem i1)] at c2
    simp only [go_sem, Option.isSome_some, rI]
    try simp only [go_sem, ruB, h2.box.at_, hb2.at_, b1, c1, c2, ↓kfill_rf]
    exact ⟨⟨L[i].w, hSi.1, hSi.2.1, rfl⟩, (hx.trans hx2).set (Nat.le_refl _)⟩

theorem nz64 {x : Nat} (h : x < 1000000) (h0 : 0 < x) : decide (BitVec.ofNat 64 x = 0#64) = false := decide_eq_false fun e => by
  have := congrArg BitVec.toNat e
  simp at this
  omega

theorem u_quo0 {d : Nat} (h : d < 1000000) (h0 : 0 < d) : aBin .quo (u64 0#64) (u64 (BitVec.ofNat 64 d)) = some (u64 0#64) := by
  have e : u64 (BitVec.ofNat 64 d) = .int .u64 (d : Nat) := by
    unfold u64; rw [BitVec.toNat_ofNat, Nat.mod_eq_of_lt (by omega)]
  have e0 : u64 0#64 = .int .u64 0 := rfl
  rw [e, e0, bin_quo, if_pos (by omega), Int.zero_tdiv]; rfl
theorem u_rem0 {d : Nat} (h : d < 1000000) (h0 : 0 < d) : aBin .rem (u64 0#64) (u64 (BitVec.ofNat 64 d)) = some (u64 0#64) := by
  have e : u64 (BitVec.ofNat 64 d) = .int .u64 (d : Nat) := by
    unfold u64; rw [BitVec.toNat_ofNat, Nat.mod_eq_of_lt (by omega)]
  have e0 : u64 0#64 = .int .u64 0 := rfl
  rw [e, e0, bin_rem, if_pos (by omega), Int.zero_tmod]

theorem Div64_0 {d : Nat} (h : d < 1000000) (h0 : 0 < d) : WC R F.math_bits_Div64 [u64 0#64, u64 0#64, u64 (BitVec.ofNat 64 d)] m fun v m' => v = .tuple #[u64 0#64, u64 0#64] ∧ m' = m := by
  refine WC.of R.math_bits_Div64 rfl ?_
  have t : (BitVec.ofNat 64 d).toNat = d := by rw [BitVec.toNat_ofNat, Nat.mod_eq_of_lt (by omega)]
  have e0 : decide ((BitVec.ofNat 64 d).toNat ≤ (0#64).toNat) = false := decide_eq_false (by rw [t]; simp; omega)
  have e1 : decide (0#64 = 0#64) = true := rfl
  simp only [RC.math_bits_Div64, go_sem, nz64 h h0, e0, e1, ↓u_quo0 h h0, ↓u_rem0 h h0]

theorem MulDiv_0 {w d : Nat} (h : d < 1000000) (h0 : 0 < d) : WC R F.fixq_MulDiv [u64 0#64, u64 (BitVec.ofNat 64 w), u64 (BitVec.ofNat 64 d)] m fun v m' => v = .tuple #[u64 0#64, u64 0#64, .int .i64 0] ∧ m' = m := by
  refine WC.of R.fixq_MulDiv rfl ?_
  have t : (BitVec.ofNat 64 d).toNat = d := by rw [BitVec.toNat_ofNat, Nat.mod_eq_of_lt (by omega)]
  have e0 : decide ((BitVec.ofNat 64 d).toNat ≤ (0#64).toNat) = false := decide_eq_false (by rw [t]; simp; omega)
  have z1 : hiW 0#64 (BitVec.ofNat 64 w) = 0#64 := by
    apply BitVec.eq_of_toNat_eq
    rw [hiW_spec]; simp
  have z2 : 0#64 * BitVec.ofNat 64 w = 0#64 := BitVec.zero_mul
  simp only [RC.fixq_MulDiv, go_sem, nz64 h h0]
  refine gC.of Mul64_spec ?_
  rintro _ m_ ⟨rfl, hm⟩
  replace hm := hm.symm
  subst hm
  simp only [go_sem, aExt0, aExt1, z1, z2, e0]
  refine gC.of (Div64_0 h h0) ?_
  rintro _ m_ ⟨rfl, hm⟩
  replace hm := hm.symm
  subst hm
  simp only [go_sem, aExt0, aExt1]

theorem Ceil_0 {w d : Nat} (h : d < 1000000) (h0 : 0 < d) : WC R F.fixq_Ceil [u64 0#64, u64 (BitVec.ofNat 64 w), u64 (BitVec.ofNat 64 d)] m fun v m' => v = .tuple #[u64 0#64, .int .i64 0] ∧ m' = m := by
  refine WC.of R.fixq_Ceil rfl ?_
  have e1 : decide (0#64 = 0#64) = true := rfl
  simp only [RC.fixq_Ceil, go_sem]
  refine gC.of (MulDiv_0 h h0) ?_
  rintro _ m_ ⟨rfl, hm⟩
  replace hm := hm.symm
  subst hm
  simp only [go_sem, aExt0, aExt1, aExt2, e1]

theorem ringLow {w d : Nat} (h : d < 1000000) (h0 : 0 < d) : WC R F.ring_low [.agg #[u64 0#64, u64 (BitVec.ofNat 64 d)], u64 (BitVec.ofNat 64 w)] m fun v m' => v = u64 0#64 ∧ Ext m m' := by
  refine WC.of R.ring_low rfl ?_
  simp only [RC.ring_low, go_sem]
  try simp only [go_sem, ruB]
  refine gC.of (Ceil_0 h h0) ?_
  rintro _ m_ ⟨rfl, hm⟩
  replace hm := hm.symm
  subst hm
  simp only [go_sem, aExt0, aExt1]
  exact Ext.new

theorem ringFind {m0 : Mem} {b : Nat} {L : List Rm} {lv : Value} {x : Int} (h : RingV m0 m b L lv) (hl : L.length < 1000) (hx : ∀ e ∈ L, e.id < x) :
    WC R F.ring_Ring_find [.pointer (some ⟨b, 0, none⟩), .int .i64 x] m fun r m' => r = .tuple #[.int .i64 L.length, .bool false] ∧ Ext m m' := by
  refine WC.of R.ring_Ring_find rfl ?_
  simp only [RC.ring_Ring_find, go_sem]
  try simp only [go_sem, ruB, h.box.at_]
  refine gC.of (ringBin h hl hx) ?_
  rintro _ m1 ⟨rfl, hx1⟩
  simp only [go_sem, aExt0, aExt1]
  exact hx1

theorem ringWeight {w : Int} (h : 1 ≤ w) (h2 : w ≤ 1000) : WC R F.ring_weight [.int .i64 w] m fun r m' => r = .bool true ∧ m' = m := by
  refine WC.of R.ring_weight rfl ?_
  have e1 : decide (1 ≤ w) = true := decide_eq_true h
  have e2 : decide (w ≤ 1000) = true := decide_eq_true h2
  simp only [RC.ring_weight, go_sem, e1, e2]
end Go.Am


/- slices.Insert at one's own row. -/
set_option linter.unusedVariables false
set_option linter.unusedSimpArgs false
namespace Go.Am

/-- One more behind one's own, out of another block. -/
theorem Own.app1 {m0 m : Mem} {u n by_ : Nat} {cs xs : List Value} {v x : Value} (h : Own m0 m u n cs v) (hx : Ext m0 m) (hs : Sl m u 1 xs x) (h1 : oneCells xs = true) (hby : (n + 1) * by_ ≤ 2 ^ 47) (hn : n + 1 < 2 ^ 62) :
    ∃ v' m', aApp none u by_ m v x = some (v', m') ∧ Own m0 m' u (n + 1) (cs ++ xs) v' ∧ Ext m0 m' := by
  obtain ⟨hsrc, hlen⟩ := hs.src
  have hxl := hs.length
  cases h with
  | nil h hc =>
    subst h; subst hc
    refine ⟨.slice (some ⟨m.next, 0, none⟩) 1 1, m.new (.cells xs (some u)), ?_, ?_, hx.trans Ext.new⟩
    · simp only [aApp, hlen, Option.bind_some, hsrc, Nat.one_ne_zero, if_false]
      rw [if_pos ⟨by simpa using hby, by simp, h1⟩]
      rfl
    · rw [Nat.zero_add, List.nil_append]
      exact .at (all := xs) hx.next (by simp [Mem.new]) (Nat.le_refl _) (by simp [Mem.new]) hxl (by rw [← hxl, List.take_length]) h1
  | @«at» b c all hb hb2 hnc hm hl hcs hone =>
    by_cases hroom : n + 1 ≤ c
    · have hle : n * u + 1 * u ≤ c * u := by rw [← Nat.add_mul]; exact Nat.mul_le_mul_right _ hroom
      refine ⟨.slice (some ⟨b, 0, none⟩) (n + 1) c, m.set b (some (.cells (writeL all (n * u) xs) (some u))), ?_, ?_, hx.set hb⟩
      · simp only [aApp, hlen, Option.bind_some, hsrc, Nat.one_ne_zero, if_false, Nat.zero_add]
        rw [if_pos hroom]
        unfold aWrite
        rw [hm]
        simp only
        rw [if_pos ⟨by omega, h1⟩]; rfl
      · refine .at (all := writeL all (n * u) xs) hb (by simpa [Mem.set] using hb2) hroom (by simp [Mem.set]) ?_ ?_ (oneCells_append hone h1)
        · unfold writeL; simp; omega
        · unfold writeL
          rw [Nat.add_mul, List.append_assoc, List.take_append]
          have e : (all.take (n * u)).length = n * u := by simp; omega
          rw [e, List.take_of_length_le (by omega), show n * u + 1 * u - n * u = xs.length by omega, List.take_left, hcs]
    · have hcn : n = c := by omega
      subst hcn
      have hall : all.take (n * u) = all := by rw [← hl, List.take_length]
      rw [hall] at hcs
      subst hcs
      refine ⟨.slice (some ⟨m.next, 0, none⟩) (n + 1) (n + 1), (m.set b none).new (.cells (all ++ xs) (some u)), ?_, ?_, (hx.set hb).trans Ext.new⟩
      · simp only [aApp, hlen, Option.bind_some, hsrc, Nat.one_ne_zero, if_false, Nat.zero_add]
        rw [if_neg hroom, hm]
        simp only [List.drop_zero, hall]
        rw [if_pos ⟨hby, hn, h1, hone, Nat.le_refl _, by omega, .inr ⟨by first | rfl | trivial, .inr (by first | rfl | trivial)⟩⟩]
        simp only [Option.isSome_some, true_and, hl, if_true, place]
        rfl
      · refine .at (all := all ++ xs) (by have := hx.next; omega) (by simp [Mem.new, Mem.set]) (Nat.le_refl _) (by simp [Mem.new, Mem.set]) (by simp [hl, hxl, Nat.add_mul]) ?_ (oneCells_append hone h1)
        rw [Nat.add_mul, List.take_of_length_le (by simp; omega)]

theorem oneCells_ins {u i : Nat} {cs es : List Value} (h1 : oneCells cs = true) (h2 : oneCells es = true) : oneCells (insRow u i cs es) = true := by
  unfold insRow
  exact oneCells_append (oneCells_append (oneCells_sub h1 fun x hx => List.mem_of_mem_take hx) h2) (oneCells_sub h1 fun x hx => List.mem_of_mem_drop hx)

/-- One element into one's own row. -/
theorem insert_own {m0 m : Mem} {u n by_ q i : Nat} {cs es : List Value} {v : Value} (h : Own m0 m u n cs v) (hx : Ext m0 m) (hq : Bk m q es u) (hqv : q ∉ vb v) (he : es.length = u) (h1 : oneCells es = true) (hu : 0 < u) (hb0 : 0 < by_) (hby : (n + 1) * by_ ≤ 2 ^ 47) (hn : n < 1000000000) (hi : i ≤ n) :
    ∃ v' m', X.insert u by_ [v, .int .i64 i, .slice (some ⟨q, 0, none⟩) 1 1] m = some (v', m') ∧ Own m0 m' u (n + 1) (insRow u i cs es) v' ∧ Ext m0 m' := by
  have hs : Sl m u 1 es (.slice (some ⟨q, 0, none⟩) 1 1) := by
    refine .at (Nat.le_refl _) ?_
    unfold aCells
    rw [hq.at_]
    simp only [Nat.zero_add, List.drop_zero, Nat.one_mul]
    rw [if_pos (by omega), ← he, List.take_length]
  obtain ⟨v', m', e1, e2, e3⟩ := h.app1 (by_ := by_) hx hs h1 hby (by omega)
  have hcl := h.sl.length
  have hend : i = n → insRow u i cs es = cs ++ es := by
    rintro rfl
    unfold insRow
    rw [List.take_of_length_le (by omega), List.drop_of_length_le (by omega), List.append_nil]
  cases h with
  | nil hn0 hc =>
    subst hn0
    obtain rfl : i = 0 := by omega
    refine ⟨v', m', ?_, by rw [hend rfl]; exact e2, e3⟩
    simp only [X.insert]
    rw [if_pos (by rfl)]; exact e1
  | @«at» b c all hb hb2 hnc hm hl hcs hone =>
    by_cases hin : i = n
    · refine ⟨v', m', ?_, by rw [hend hin]; exact e2, e3⟩
      simp only [X.insert]
      rw [if_pos (by rw [hin])]; exact e1
    · have hnu : n * u ≤ c * u := Nat.mul_le_mul_right _ hnc
      have hqb : q ≠ b := fun e => hqv (by simp [vb, e])
      have hrow : (all.drop 0).take (n * u) = cs := by rw [List.drop_zero, hcs]
      have hx2 : (es.drop 0).take u = es := by rw [List.drop_zero, ← he, List.take_length]
      refine ⟨.slice (some ⟨m.next, 0, none⟩) (n + 1) (n + 1), (m.set b none).new (.cells (insRow u i cs es) (some u)), ?_, ?_, (hx.set hb).trans Ext.new⟩
      · simp only [X.insert]
        rw [if_neg (by omega), hm, hq.at_]
        simp only []
        rw [hrow, hx2, if_pos ⟨by first | rfl | trivial, hu, hb0, by omega, by omega, hqb, hnc, by omega, by omega, hn, by omega, hone, h1⟩, Int.toNat_natCast]
      · have hlen : (insRow u i cs es).length = (n + 1) * u := insRow_len hcl he (by omega)
        exact .at (all := insRow u i cs es) (by have := hx.next; omega) (by simp [Mem.new, Mem.set]) (Nat.le_refl _) (by simp [Mem.new, Mem.set]) hlen (by rw [← hlen, List.take_length]) (oneCells_ins hone h1)

theorem insRow_flat {α : Type} {f : α → List Value} {u i : Nat} {l : List α} {a : α} (hf : ∀ a, (f a).length = u) (hi : i ≤ l.length) : insRow u i (l.flatMap f) (f a) = (l.take i ++ a :: l.drop i).flatMap f := by
  unfold insRow
  have e : l.flatMap f = (l.take i).flatMap f ++ (l.drop i).flatMap f := by rw [← List.flatMap_append, List.take_append_drop]
  have hl : ((l.take i).flatMap f).length = i * u := by rw [flat_len hf, List.length_take]; congr 1; omega
  rw [e, List.take_left' hl, List.drop_left' hl]
  simp
end Go.Am


/- A ring: a member joins. -/
set_option linter.unusedVariables false
set_option linter.unusedSimpArgs false
namespace Go.Am
variable {m : Mem}

theorem Own.baseR {m0 ma m : Mem} {u n : Nat} {cs : List Value} {v : Value} (h : Own m0 m u n cs v) (hb : ∀ c ∈ vb v, ma.next ≤ c) : Own ma m u n cs v := by
  cases h with
  | nil h hc => exact .nil h hc
  | @«at» b c all h0 hb2 hn hm hl hcs h1 => exact .at (hb b (by simp [vb])) hb2 hn hm hl hcs h1

theorem kfill_rm {a : Int} {x y : BitVec 64} : fillL [.int .i64 0, u64 0#64, u64 0#64, .bool false] [(0, 1, .int .i64 a), (1, 1, u64 x), (2, 1, u64 y), (3, 1, .bool true)] = some [.int .i64 a, u64 x, u64 y, .bool true] := rfl
set_option maxHeartbeats 2000000 in
theorem ringJoin {m0 : Mem} {b : Nat} {L : List Rm} {lv : Value} {x : Int} {w : Nat} (h : RingV m0 m b L lv) (hl : L.length < 32) (hS : ∀ e ∈ L, RSm e) (hz : ∀ e ∈ L, e.n = 0) (hx : ∀ e ∈ L, e.id < x) (hx1 : 1 ≤ x) (hx2 : x ≤ 200) (hw1 : 1 ≤ w) (hw2 : w ≤ 1000) :
    WC R F.ring_Ring_Join [.pointer (some ⟨b, 0, none⟩), .int .i64 x, .int .i64 (w : Nat)] m fun r m' => r = .int .i64 0 ∧ ∃ lv', RingV m0 m' b (L ++ [⟨x, w, 0⟩]) lv' := by
  refine WC.of R.ring_Ring_Join rfl ?_
  have e1 : decide (x < 1) = false := decide_eq_false (by omega)
  have e2 : decide (200 < x) = false := decide_eq_false (by omega)
  have e3 : decide (32 ≤ (L.length : Int)) = false := decide_eq_false (by omega)
  have ew : BitVec.ofInt 64 (w : Int) = BitVec.ofNat 64 w := rfl
  simp only [RC.ring_Ring_Join, go_sem]
  refine gC.of (ringNone h) ?_
  rintro _ m_ ⟨rfl, hm⟩
  replace hm := hm.symm
  subst hm
  simp only [go_sem, e1, e2]
  refine gC.of (ringWeight (by omega) (by omega)) ?_
  rintro _ m_ ⟨rfl, hm⟩
  replace hm := hm.symm
  subst hm
  simp only [go_sem]
  refine gC.of (ringFind h (by omega) hx) ?_
  rintro _ m1 ⟨rfl, hy1⟩
  have h1 := h.keep hy1
  simp only [go_sem, aExt0, aExt1]
  try simp only [go_sem, ruB, h1.box.at_, h1.own.sl.len, e3]
  refine gC.of (ringFloor h1 (by omega) hS hz) ?_
  rintro _ m2 ⟨⟨d, d0, d1, rfl⟩, hy2⟩
  have h2 := h1.keep hy2
  simp only [go_sem, ew]
  refine gC.of (ringLow d1 d0) ?_
  rintro _ m3 ⟨rfl, hy3⟩
  have h3 := h2.keep hy3
  have hst : aStore 4 (m3.new (.cells [(.int .i64 0), u64 0#64, u64 0#64, (.bool false)] (some 4))) (.pointer (some ⟨m3.next, 0, none⟩)) (.agg #[.int .i64 x, u64 (BitVec.ofNat 64 w), u64 0#64, .bool true]) = some (m3.new (.cells [.int .i64 x, u64 (BitVec.ofNat 64 w), u64 0#64, .bool true] (some 4))) := by
    simp only [go_sem, ruB]
  simp only [go_sem, ↓kfill_rm, hst]
  have hy4 : Ext m3 (m3.new (.cells [.int .i64 x, u64 (BitVec.ofNat 64 w), u64 0#64, .bool true] (some 4))) := Ext.new
  have hq4 : Bk (m3.new (.cells [.int .i64 x, u64 (BitVec.ofNat 64 w), u64 0#64, .bool true] (some 4))) m3.next [.int .i64 x, u64 (BitVec.ofNat 64 w), u64 0#64, .bool true] 4 := Bk.new
  have hn4 : (m3.new (.cells [.int .i64 x, u64 (BitVec.ofNat 64 w), u64 0#64, .bool true] (some 4))).next = m3.next + 1 := rfl
  generalize m3.new (.cells [.int .i64 x, u64 (BitVec.ofNat 64 w), u64 0#64, .bool true] (some 4)) = m4 at hy4 hq4 hn4 ⊢
  have h4 := h3.keep hy4
  have h5 : RingV m0 (m4.bump 12) b L lv := h4.keep Ext.bump
  have hbl := h4.box.at_
  have hql := hq4.at_
  have f1 : ∀ a b c d : Value, fillL [.int .i64 0, u64 0#64, u64 0#64, .bool false] [(0, 4, .agg #[a, b, c, d])] = some [a, b, c, d] := fun a b c d => rfl
  have hbm := h4.box.lt
  have ne1 : (b = m4.next + 7) = False := eq_false (by omega)
  simp only [go_sem, ruB, hbl, hql, ↓f1]
  have hu6 : Upd (m4.bump 12) ((m4.bump 12).set (m4.next + 7) (some (.cells [.int .i64 x, u64 (BitVec.ofNat 64 w), u64 0#64, .bool true] (some 4)))) [m4.next + 7] := Upd.set (by simp)
  have hb6 : Bk ((m4.bump 12).set (m4.next + 7) (some (.cells [.int .i64 x, u64 (BitVec.ofNat 64 w), u64 0#64, .bool true] (some 4)))) (m4.next + 7) [.int .i64 x, u64 (BitVec.ofNat 64 w), u64 0#64, .bool true] 4 := ⟨by simp [Mem.set], by simp [Mem.set]⟩
  have hvl := h4.own.lt
  generalize (m4.bump 12).set (m4.next + 7) (some (.cells [.int .i64 x, u64 (BitVec.ofNat 64 w), u64 0#64, .bool true] (some 4))) = m6 at hu6 hb6 ⊢
  have hvq : m4.next + 7 ∉ vb lv := fun hc => by
    have hO := h4.own
    cases hO with
    | nil => simp [vb] at hc
    | «at» h0 hb2 => simp [vb] at hc; omega
  have hbx6 : m6.blk b = m4.blk b := by
    rw [hu6.same b (by simp; omega) (by simp; omega)]; rfl
  have hO6 := (h5.own).updq hu6 (fun c hc => by simp; intro e; subst e; exact hvq hc)
  have hE6 : Ext m0 m6 := hu6.ext_of h5.ext (fun c hc => by simp at hc; have := h4.ext.next; omega)
  have hnx6 := hu6.next
  have hOB := hO6.baseR (ma := ⟨b + 1, m6.blk⟩) (fun c hc => h.off c hc)
  have hEB : Ext ⟨b + 1, m6.blk⟩ m6 := ⟨by simp at hnx6 ⊢; omega, fun _ _ => rfl⟩
  obtain ⟨v', m7, i1, i2, i3⟩ := insert_own (u := 4) (by_ := 32) (i := L.length) hOB hEB hb6 hvq rfl rfl (by omega) (by omega) (by omega) (by omega) (Nat.le_refl _)
  refine gC.of (WC.ext (Q := fun v'' m'' => v'' = v' ∧ m'' = m7) R.slices_Insert_ring_member_ring_member (v := v') (m' := m7) i1 ⟨rfl, rfl⟩) ?_
  rintro v_ m_ ⟨hv, hm⟩
  replace hv := hv.symm
  replace hm := hm.symm
  subst hv
  subst hm
  have hb7 : m7.blk b = some (.cells [u64 2048#64, lv, u64 0#64, u64 1#64] (some 4)) := by
    rw [i3.same b (by simp), hbx6]; exact hbl
  have hge := i2.ge
  have hn7 := i3.next
  have hst7 : aStore 1 m7 (.pointer (some ⟨b, 1, none⟩)) v' = some (m7.set b (some (.cells [u64 2048#64, v', u64 0#64, u64 1#64] (some 4)))) := by
    cases i2 with
    | nil => simp only [go_sem, ruB, hb7]
    | «at» => simp only [go_sem, ruB, hb7]
  simp only [go_sem, hst7]
  have hfl : insRow 4 L.length (L.flatMap rmV) [.int .i64 x, u64 (BitVec.ofNat 64 w), u64 0#64, .bool true] = (L ++ [(⟨x, w, 0⟩ : Rm)]).flatMap rmV := by
    have := insRow_flat (f := rmV) (u := 4) (i := L.length) (l := L) (a := (⟨x, w, 0⟩ : Rm)) rmV_len (Nat.le_refl _)
    rw [List.take_length, List.drop_length] at this
    exact this
  rw [hfl] at i2
  have hu8 : Upd m7 (m7.set b (some (.cells [u64 2048#64, v', u64 0#64, u64 1#64] (some 4)))) [b] := Upd.set (by simp)
  have hoff : ∀ c ∈ vb v', b < c := fun c hc => by have := hge c hc; simp at this; omega
  refine ⟨v', ⟨by simp [Mem.set], by simp [Mem.set] at hn7 ⊢; omega⟩, ?_, ?_, h.ge, hoff⟩
  · rw [List.length_append]
    refine (i2.baseR (ma := m0) (fun c hc => ?_)).updq hu8 (fun c hc => ?_)
    · have := hoff c hc; have := h.ge; omega
    · have := hoff c hc; simp; omega
  · have hE7 : Ext m0 m7 := ⟨by have := h.ge; simp at hn7; omega, fun k hk => by
      have := h.ge
      rw [i3.same k (by simp; omega)]; exact hE6.same k hk⟩
    exact hu8.ext_of hE7 (fun c hc => by simp at hc; subst hc; exact h.ge)
end Go.Am


/- A ring: a pick. -/
set_option linter.unusedVariables false
set_option linter.unusedSimpArgs false
namespace Go.Am
variable {m : Mem}

theorem rmSet {l : List Rm} {i n : Nat} (hi : i < l.length) : (l.flatMap rmV).set (i * 4 + 2) (u64 (BitVec.ofNat 64 n)) = (l.set i { l[i] with n := n }).flatMap rmV := by
  have e : l = l.take i ++ l[i] :: l.drop (i + 1) := by rw [← List.drop_eq_getElem_cons hi, List.take_append_drop]
  have hl : (l.take i).length = i := by rw [List.length_take]; omega
  have e2 : l.set i { l[i] with n := n } = l.take i ++ { l[i] with n := n } :: l.drop (i + 1) := by
    rw [List.set_eq_take_append_cons_drop, if_pos hi]
  rw [e2]
  conv => lhs; rw [e]
  rw [List.flatMap_append, List.flatMap_append, List.flatMap_cons, List.flatMap_cons, List.set_append_right _ _ (by rw [rmFlat, hl]; omega), rmFlat, hl, Nat.add_sub_cancel_left]
  rfl

/-- A count is set. -/
theorem RingV.put {m0 m : Mem} {b i : Nat} {L : List Rm} {lv : Value} {k : IntKind} (h : RingV m0 m b L lv) (hi : i < L.length) :
    ∃ c m', aIdxS 4 lv (.int k i) = some (.pointer (some ⟨c, i * 4, none⟩)) ∧ aStore 1 m (.pointer (some ⟨c, i * 4 + 2, none⟩)) (u64 (BitVec.ofNat 64 (L[i].n + 1))) = some m' ∧ RingV m0 m' b (L.set i L[i].up) lv ∧ Upd m m' (vb lv) := by
  obtain ⟨c, m', e1, e2, e3, e4⟩ := h.own.put (k := k) (o := 2) (w := u64 (BitVec.ofNat 64 (L[i].n + 1))) h.ext hi (by omega) rfl rfl
  have hcv : c ∈ vb lv := by
    cases h.own with
    | nil h hc => omega
    | @«at» b2 c2 all hb hb2 hn hm hl hcs h1 =>
      simp only [aIdxS] at e1
      split at e1
      · have e1 := Option.some.inj e1
        simp only [Value.pointer.injEq, Option.some.injEq, Addr.mk.injEq] at e1
        rw [← e1.1]; simp [vb]
      · cases e1
  have hw' : aWrite m c (i * 4 + 2) (u64 (BitVec.ofNat 64 (L[i].n + 1))).cells.toList = some m' := by
    simp only [aStore] at e2
    split at e2
    · exact e2
    · cases e2
  obtain ⟨a1, a2⟩ := aWrite_upd hw'
  have hu : Upd m m' (vb lv) := a1.trans (Upd.refl _ _) (fun x hx => by simp at hx; subst hx; exact hcv) (fun x hx => .inl hx)
  rw [rmSet hi] at e3
  exact ⟨c, m', e1, e2, ⟨h.box.upd hu (fun hb => Nat.lt_irrefl _ (h.off b hb)), by rw [List.length_set]; exact e3, e4, h.ge, h.off⟩, hu⟩

theorem u64_add1 {n : Nat} : BitVec.ofNat 64 n + 1#64 = BitVec.ofNat 64 (n + 1) := by rw [BitVec.ofNat_add]

set_option maxHeartbeats 2000000 in
theorem ringPick {m0 : Mem} {b i : Nat} {L : List Rm} {lv : Value} (h : RingV m0 m b L lv) (hl : L.length < 1000) (hS : ∀ e ∈ L, RSm e) (hb : rbst L L.length = some i) (hi : i < L.length) (hn : L[i].n < 2000) :
    WC R F.ring_Ring_Pick [.pointer (some ⟨b, 0, none⟩)] m fun r m' => r = .tuple #[.int .i64 L[i].id, .bool true] ∧ RingV m0 m' b (L.set i L[i].up) lv ∧ Upd m m' (vb lv) := by
  refine WC.of R.ring_Ring_Pick rfl ?_
  simp only [RC.ring_Ring_Pick, go_sem]
  refine gC.of (ringNone h) ?_
  rintro _ m_ ⟨rfl, hm⟩
  replace hm := hm.symm
  subst hm
  simp only [go_sem]
  refine gC.of (ringLeast h hl hS) ?_
  rintro _ m1 ⟨rfl, hx1⟩
  have h1 := h.keep hx1
  rw [hb]
  simp only [go_sem, aExt0, aExt1, Option.isSome_some, rI]
  obtain ⟨c, m2, p1, p2, p3, p4⟩ := h1.put (k := .i64) hi
  obtain ⟨p', o', b1, -, b3, -⟩ := h1.own.sl.elem rmV_len (k := .i64) hi
  rw [p1] at b1
  cases b1
  have f0 : aLoad false 1 m1 (.pointer (some ⟨c, i * 4, none⟩)) = some (.int .i64 L[i].id) := by
    have := b3 0 (by omega)
    rw [Nat.add_zero] at this
    exact this
  have f2 : aLoad false 1 m1 (.pointer (some ⟨c, i * 4 + 2, none⟩)) = some (u64 (BitVec.ofNat 64 L[i].n)) := b3 2 (by omega)
  have hlen2 : i < (L.set i L[i].up).length := by simpa using hi
  obtain ⟨p', o', b1, -, b4, -⟩ := p3.own.sl.elem rmV_len (k := .i64) hlen2
  rw [p1] at b1
  cases b1
  have f3 : aLoad false 1 m2 (.pointer (some ⟨c, i * 4 + 2, none⟩)) = some (u64 (BitVec.ofNat 64 (L[i].n + 1))) := by
    have := b4 2 (by omega)
    rw [this]; simp [rmV, Rm.up]
  have tn : (BitVec.ofNat 64 (L[i].n + 1)).toNat = L[i].n + 1 := by rw [BitVec.toNat_ofNat, Nat.mod_eq_of_lt (by omega)]
  have eg : decide ((2048#64).toNat ≤ (BitVec.ofNat 64 (L[i].n + 1)).toNat) = false := decide_eq_false (by rw [tn]; simp; omega)
  try simp only [go_sem, ruB, h1.box.at_, p1, f0, f2, u64_add1, p2, p3.box.at_, f3, eg]
  exact ⟨p3, hx1.upd.trans p4 (fun _ h => h) (fun _ h => .inl h)⟩
end Go.Am


/- TopTwo: rings and locals agree. -/
set_option linter.unusedVariables false
set_option linter.unusedSimpArgs false
namespace Go.Am
variable {m : Mem}

def mkL : Nat → List Sp → List Rm
  | _, [] => []
  | i, w :: r => ⟨(i : Int) + 1, w.2.toNat, 0⟩ :: mkL (i + 1) r
theorem mkL_app : ∀ {l k : List Sp} {i : Nat}, mkL i (l ++ k) = mkL i l ++ mkL (i + l.length) k
  | [], k, i => rfl
  | w :: l, k, i => by
    simp only [List.cons_append, mkL, List.length_cons]
    rw [mkL_app, show i + 1 + l.length = i + (l.length + 1) by omega]
theorem mkL_len : ∀ {l : List Sp} {i : Nat}, (mkL i l).length = l.length
  | [], i => rfl
  | w :: l, i => by simp only [mkL, List.length_cons, mkL_len]
theorem mkL_get : ∀ {l : List Sp} {i j : Nat} (h : j < l.length), (mkL i l)[j]'(by rw [mkL_len]; exact h) = ⟨((i + j : Nat) : Int) + 1, l[j].2.toNat, 0⟩
  | w :: l, i, 0, h => rfl
  | w :: l, i, j + 1, h => by
    simp only [mkL, List.getElem_cons_succ]
    rw [mkL_get (by simpa using h), show i + 1 + j = i + (j + 1) by omega]
theorem mkL_take {l : List Sp} {k : Nat} (h : k < l.length) : mkL 0 (l.take (k + 1)) = mkL 0 (l.take k) ++ [⟨(k : Int) + 1, l[k].2.toNat, 0⟩] := by
  rw [List.take_succ_eq_append_getElem h, mkL_app, List.length_take, Nat.min_eq_left (by omega), Nat.zero_add]
  rfl
theorem mkL_sum : ∀ {l : List Sp} {i : Nat}, (∀ w ∈ l, 0 ≤ w.2) → ((sumR (·.w) (mkL i l) : Nat) : Int) = sumW l
  | [], i, _ => rfl
  | w :: l, i, h => by
    have h1 := h w (by simp)
    have h2 := mkL_sum (l := l) (i := i + 1) fun x hx => h x (by simp [hx])
    simp only [mkL, sumR, List.map_cons, List.sum_cons, sumW] at *
    omega
theorem mkL_zero : ∀ {l : List Sp} {i : Nat}, ∀ e ∈ mkL i l, e.n = 0
  | [], i => by simp [mkL]
  | w :: l, i => by
    intro e he
    simp only [mkL] at he
    rcases List.mem_cons.1 he with rfl | he
    · rfl
    · exact mkL_zero e he
theorem mkL_mem : ∀ {l : List Sp} {i : Nat}, ∀ e ∈ mkL i l, (i : Int) < e.id ∧ e.id ≤ i + l.length ∧ ∃ w ∈ l, e.w = w.2.toNat
  | [], i => by simp [mkL]
  | w :: l, i => by
    intro e he
    simp only [mkL] at he
    rcases List.mem_cons.1 he with rfl | he
    · refine ⟨by simp only; omega, by simp; omega, w, by simp, rfl⟩
    · obtain ⟨h1, h2, x, hx, h3⟩ := mkL_mem (l := l) (i := i + 1) e he
      exact ⟨by omega, by simp; omega, x, by simp [hx], h3⟩

def idsR (l : List Sp) : List (Int × Nat) := (mkL 0 l).map fun e => (e.id, e.w)
theorem RPicks.start {l : List Sp} (h : ∀ w ∈ l, 1 ≤ w.2) : RPicks (idsR l) (mkL 0 l) 0 := by
  refine ⟨rfl, fun e he => ?_, fun e he => by rw [mkL_zero e he]; exact Nat.zero_le _, ?_⟩
  · obtain ⟨-, -, w, hw, e1⟩ := mkL_mem e he
    have := h w hw; omega
  · have h0 := sumR_le (f := (·.n)) (g := fun _ => 0) (L := mkL 0 l) fun e he => by rw [mkL_zero e he]; exact Nat.le_refl _
    have : ∀ L : List Rm, sumR (fun _ => 0) L = 0 := fun L => by induction L with
      | nil => rfl
      | cons e L ih => simp only [sumR, List.map_cons, List.sum_cons] at *; omega
    rw [this] at h0
    exact Nat.le_zero.1 h0
theorem RPicks.at_ {l : List Sp} {L : List Rm} {t : Nat} (h : RPicks (idsR l) L t) : L.length = l.length ∧ ∀ j (hj : j < L.length) (hl : j < l.length), L[j].id = (j : Int) + 1 ∧ L[j].w = l[j].2.toNat := by
  have hl : L.length = l.length := by have := congrArg List.length h.ids; simpa [idsR, mkL_len] using this
  refine ⟨hl, fun j hj hj2 => ?_⟩
  have h1 : (L.map fun e => (e.id, e.w))[j]? = (idsR l)[j]? := by rw [h.ids]
  rw [List.getElem?_map, List.getElem?_eq_getElem hj] at h1
  unfold idsR at h1
  rw [List.getElem?_map, List.getElem?_eq_getElem (by rw [mkL_len]; exact hj2), mkL_get hj2] at h1
  simp only [Option.map_some, Option.some.injEq, Prod.mk.injEq, Nat.zero_add] at h1
  exact h1

theorem RingV.updq {m0 m m' : Mem} {b : Nat} {L : List Rm} {lv : Value} {fp : List Nat} (h : RingV m0 m b L lv) (hx : Upd m m' fp) (h1 : b ∉ fp) (h2 : ∀ c ∈ vb lv, c ∉ fp) (h3 : ∀ c ∈ fp, m0.next ≤ c) : RingV m0 m' b L lv :=
  ⟨h.box.upd hx h1, h.own.updq hx h2, hx.ext_of h.ext h3, h.ge, h.off⟩
theorem RingV.weak {m0 m1 m : Mem} {b : Nat} {L : List Rm} {lv : Value} (h : RingV m1 m b L lv) (hx : Ext m0 m1) : RingV m0 m b L lv :=
  ⟨h.box, h.own.weak hx, hx.trans h.ext, Nat.le_trans hx.next h.ge, h.off⟩
theorem LocV.updq {m0 m m' : Mem} {b : Nat} {L : List En} {lv : Value} {fp : List Nat} (h : LocV m0 m b L lv) (hx : Upd m m' fp) (h1 : b ∉ fp) (h2 : ∀ c ∈ vb lv, c ∉ fp) (h3 : ∀ c ∈ fp, m0.next ≤ c) : LocV m0 m' b L lv :=
  ⟨h.box.upd hx h1, h.own.updq hx h2, hx.ext_of h.ext h3, h.ge, h.off⟩

theorem Own.putU {m0 m : Mem} {u n : Nat} {cs : List Value} {v w : Value} (h : Own m0 m u n cs v) (hx : Ext m0 m) {k : IntKind} {i o : Nat} (hi : i < n) (ho : o < u) (hw : w.cells = #[w]) (hone : w.oneCell' = true) :
    ∃ b m', aIdxS u v (.int k i) = some (.pointer (some ⟨b, i * u, none⟩)) ∧ aStore 1 m (.pointer (some ⟨b, i * u + o, none⟩)) w = some m' ∧ Own m0 m' u n (cs.set (i * u + o) w) v ∧ Ext m0 m' ∧ Upd m m' (vb v) := by
  obtain ⟨b, m', e1, e2, e3, e4⟩ := h.put (k := k) hx hi ho hw hone
  refine ⟨b, m', e1, e2, e3, e4, ?_⟩
  have hbv : b ∈ vb v := by
    cases h with
    | nil h hc => omega
    | @«at» b2 c all hb hb2 hn hm hl hcs h1 =>
      simp only [aIdxS] at e1
      split at e1
      · have e1 := Option.some.inj e1
        simp only [Value.pointer.injEq, Option.some.injEq, Addr.mk.injEq] at e1
        rw [← e1.1]; simp [vb]
      · cases e1
  have hw' : aWrite m b (i * u + o) w.cells.toList = some m' := by
    simp only [aStore] at e2
    split at e2
    · exact e2
    · cases e2
  exact (aWrite_upd hw').1.trans (Upd.refl _ _) (fun x hx => by simp at hx; subst hx; exact hbv) (fun x hx => .inl hx)

/-- What each got, behind the first cell. -/
def gotC (R : List Rm) : List Value := .int .i64 0 :: R.map fun e => .int .i64 (e.n : Nat)
theorem gotC_len {R : List Rm} : (gotC R).length = R.length + 1 := by simp [gotC]
theorem gotC_get {R : List Rm} {i : Nat} (h : i < R.length) : (gotC R)[i + 1]? = some (.int .i64 (R[i].n : Nat)) := by simp [gotC, h]
theorem gotC_set {R : List Rm} {i : Nat} (h : i < R.length) : (gotC R).set (i + 1) (.int .i64 ((R[i].n + 1 : Nat) : Int)) = gotC (R.set i R[i].up) := by
  simp [gotC, List.map_set, Rm.up]
theorem gotC_start {l : List Sp} {i : Nat} : gotC (mkL i l) = zeros [.int .i64 0] (l.length + 1) := by
  unfold gotC
  rw [zeros]
  simp only [List.cons_append, List.nil_append, List.cons.injEq, true_and]
  induction l generalizing i with
  | nil => rfl
  | cons w l ih => simp only [mkL, List.map_cons, List.length_cons, zeros, List.cons_append, List.nil_append, ih]; rfl
end Go.Am


/- TopTwo, walked. -/
set_option linter.unusedVariables false
set_option linter.unusedSimpArgs false
namespace Go.Am
variable {m : Mem}

theorem Own.vlt {m0 m : Mem} {u n : Nat} {cs : List Value} {v : Value} (h : Own m0 m u n cs v) : ∀ c ∈ vb v, c < m.next := by
  cases h with
  | nil h hc => intro c hc; simp [vb] at hc
  | «at» hb hb2 hn hm hl hcs h1 => intro c hc; simp [vb] at hc; subst hc; exact hb2

/-- The rings of blocks: the local's, the ring's, what each got. -/
structure Tri (N1 N2 b rb : Nat) (lv rv gv : Value) : Prop where
  b : b < N1
  lv : ∀ c ∈ vb lv, c < N1
  r1 : N1 ≤ rb
  r2 : rb < N2
  rv : ∀ c ∈ vb rv, N1 ≤ c ∧ c < N2
  gv : ∀ c ∈ vb gv, N2 ≤ c

structure TT (m0 m : Mem) (l : List Sp) (b rb : Nat) (lv rv gv : Value) (L : List En) (Q : List Rm) (t : Nat) : Prop where
  loc : LocV m0 m b L lv
  ring : RingV m0 m rb Q rv
  got : Own m0 m 1 (l.length + 1) (gotC Q) gv
  hl : Picks l L t
  hr : RPicks (idsR l) Q t

theorem top_ge {N1 N2 b rb : Nat} {lv rv gv : Value} (h : Tri N1 N2 b rb lv rv gv) : b ∉ vb rv ∧ b ∉ vb gv ∧ rb ∉ vb lv ∧ rb ∉ vb gv ∧ (∀ c ∈ vb lv, c ∉ vb rv ∧ c ∉ vb gv) ∧ (∀ c ∈ vb rv, c ∉ vb lv ∧ c ∉ vb gv) ∧ (∀ c ∈ vb gv, c ∉ vb lv ∧ c ∉ vb rv) := by
  have h1 := h.b; have h2 := h.r1; have h3 := h.r2
  refine ⟨fun hc => ?_, fun hc => ?_, fun hc => ?_, fun hc => ?_, fun c hc => ⟨fun hd => ?_, fun hd => ?_⟩, fun c hc => ⟨fun hd => ?_, fun hd => ?_⟩, fun c hc => ⟨fun hd => ?_, fun hd => ?_⟩⟩
  · have := h.rv _ hc; omega
  · have := h.gv _ hc; omega
  · have := h.lv _ hc; omega
  · have := h.gv _ hc; omega
  · have := h.rv _ hd; have := h.lv _ hc; omega
  · have := h.gv _ hd; have := h.lv _ hc; omega
  · have := h.lv _ hd; have := h.rv _ hc; omega
  · have := h.gv _ hd; have := h.rv _ hc; omega
  · have := h.lv _ hd; have := h.gv _ hc; omega
  · have := h.rv _ hd; have := h.gv _ hc; omega

theorem got_perm {l : List Sp} {L : List En} (hp : L.Perm (l.map ent)) (hn : ∀ w ∈ l, 1 ≤ w.2 ∧ w.2 ≤ 64) : MadeL l L := by
  have hkp : (keys L).Perm l := by have := keys_perm hp; rw [keys_ent] at this; exact this
  have hg0 : ∀ e ∈ L, e.g = 0 := fun e he => by
    obtain ⟨w, -, rfl⟩ := List.mem_map.1 (hp.mem_iff.1 he); rfl
  refine ⟨hkp, hg0, fun e he => ?_, fun e he => by rw [hg0 e he]; exact Nat.le_refl _⟩
  have : (e.u, e.s) ∈ l := hkp.mem_iff.1 (List.mem_map.2 ⟨e, he, rfl⟩)
  have := hn _ this
  simp only at this; omega

set_option maxHeartbeats 4000000 in
theorem TopTwo_spec {l : List Sp} {v : Value} (hs : Sl m 2 l.length (l.flatMap spV) v) (hb : SlLt m v) (hc : Cut 2 m v) (hr : ∀ w ∈ l, inR w.1 ∧ inR w.2) : WC R F.top_TopTwo [v] m fun r _ => r = .bool true := by
  refine WC.of R.top_TopTwo rfl ?_
  simp only [RC.top_TopTwo, go_sem, hs.len]
  have e : (if (30 : Int) < l.length then (30 : Int) else l.length) = ((min l.length 30 : Nat) : Int) := by
    split <;> omega
  obtain ⟨v', a1, hs', hb', hL⟩ := cutTo (N := 30) hs hb hc
  have hrL : ∀ w ∈ l.take 30, inR w.2 := fun w hw => (hr w (List.mem_of_mem_take hw)).2
  generalize l.take 30 = l' at hs' hL hrL
  simp only [go_sem, e, a1]
  refine gC.of (locNew hs' hb' (by omega) hrL) ?_
  rintro _ m1 (⟨hE, rfl, hx⟩ | ⟨hE, b, L, lv, rfl, hV, hp, -⟩)
  · simp only [go_sem, aExt0, aExt1]
    refine gC.of ringNew ?_
    rintro _ m2 ⟨rb, rfl, hR⟩
    have e1 : (newE 64 l' != 0) = true := by rw [bne_iff_ne]; exact hE
    simp only [go_sem, aExt0, aExt1, e1]
    refine gC.of (ok_spec R.top_begins20) ?_
    rintro _ m_ ⟨rfl, hm_⟩
    replace hm_ := hm_.symm
    subst hm_
    simp only [go_sem]
  · obtain ⟨f1, f2, k1, k2, k3⟩ := newE_zero hE (by omega)
    simp only [go_sem, aExt0, aExt1]
    refine gC.of ringNew ?_
    rintro _ m2 ⟨rb, rfl, hR0⟩
    have e1 : ((0 : Int) != 0) = false := rfl
    have e2 : ∀ b, aEq .ptr (.pointer (some ⟨b, 0, none⟩)) (.pointer none) = some false := fun _ => rfl
    simp only [go_sem, aExt0, aExt1, e1, e2]
    have hW1 : ∀ w ∈ l', 1 ≤ w.2 ∧ w.2 ≤ 64 := fun w hw => by have := k1 w hw; omega
    have hM := got_perm hp hW1
    have hVlt := hV.own.vlt
    have hbN := hV.box.lt
    have hrbN := hR0.ge
    refine WL.of (fun n e m' => ∃ (k : Nat) (rv : Value), k ≤ l'.length ∧ n = l'.length - k ∧ e = [(0, v'), (3, .pointer (some ⟨b, 0, none⟩)), (5, .pointer (some ⟨rb, 0, none⟩)), (7, .int .i64 k)] ∧ RingV m1 m' rb (mkL 0 (l'.take k)) rv) l'.length
      ⟨0, _, by omega, by omega, by simp only [go_sem] <;> rfl, hR0⟩ ?_
    rintro _ _ m3 ⟨k, rv, hk, rfl, rfl, hR⟩
    have hs3 := hs'.keep hb' (hV.ext.trans hR.ext)
    simp only [RB.top_TopTwo_3, go_sem, hs3.len]
    refine gT.of (fun g1' => ?_) (fun g1' => ?_) <;> (have g1 := g1'; try simp only [decide_eq_true_eq, decide_eq_false_iff_not, beq_iff_eq, bne_iff_ne, beq_eq_false_iff_ne, ne_eq, Bool.not_eq_true', Bool.not_eq_false', bne_eq_false_iff_eq, Int.not_lt, Int.not_le] at g1)
    · have hkl : k < l'.length := by omega
      have s1 := step1 (show k < 1000000 by omega)
      obtain ⟨p, o, b1, -, b3, -⟩ := hs3.elem spV_len (k := .i64) hkl
      have c1 : aLoad false 1 m3 (.pointer (some ⟨p, o + 1, none⟩)) = some (.int .i64 l'[k].2) := b3 1 (by omega)
      have hw := hW1 _ (List.getElem_mem hkl)
      have eN : l'[k].2 = ((l'[k].2.toNat : Nat) : Int) := by omega
      rw [eN] at c1
      simp only [go_sem, g1', b1, c1, s1]
      have hmem := fun e he => mkL_mem (l := l'.take k) (i := 0) e he
      have hlen : (mkL 0 (l'.take k)).length = k := by rw [mkL_len, List.length_take]; omega
      have hSm : ∀ e ∈ mkL 0 (l'.take k), RSm e := fun e he => by
        obtain ⟨-, -, w, hw', e3⟩ := hmem e he
        have := hW1 w (List.mem_of_mem_take hw')
        have h0 := mkL_zero e he
        exact ⟨by omega, by omega, by omega⟩
      refine gC.of (ringJoin (x := ((k + 1 : Nat) : Int)) hR (by omega) hSm mkL_zero (fun e he => by
        obtain ⟨-, h2, -⟩ := hmem e he
        rw [List.length_take] at h2; omega) (by omega) (by omega) (by omega) (by omega)) ?_
      rintro _ m4 ⟨rfl, rv', hR4⟩
      have ht := mkL_take hkl
      rw [show (((k + 1 : Nat) : Int)) = (k : Int) + 1 by omega, ← ht] at hR4
      have e3 : ((0 : Int) != 0) = false := rfl
      simp only [go_sem, e3, s1]
      exact ⟨l'.length - (k + 1), by omega, k + 1, rv', by omega, rfl, rfl, hR4⟩
    · obtain rfl : k = l'.length := by omega
      rw [List.take_length] at hR
      have s1 := step1 (show l'.length < 1000000 by omega)
      simp only [go_sem, g1', hs3.len, s1]
      have hmk := make_eq (m := m3) (u := 1) (by_ := 8) (n := l'.length + 1) (z := [.int .i64 0]) (k := .i64) (k' := .i64) (by omega) (by omega) rfl rfl
      simp only [go_sem, hmk]
      have hG0 : Own m3 (m3.new (.cells (zeros [.int .i64 0] (l'.length + 1)) (some 1))) 1 (l'.length + 1) (gotC (mkL 0 l')) (.slice (some ⟨m3.next, 0, none⟩) (l'.length + 1) (l'.length + 1)) := by
        rw [gotC_start]
        have hz : (zeros [.int .i64 0] (l'.length + 1)).length = (l'.length + 1) * 1 := by rw [← gotC_start (i := 0), gotC_len, mkL_len]; omega
        refine .at (Nat.le_refl _) (by simp [Mem.new]) (Nat.le_refl _) (by simp [Mem.new]) hz (by rw [← hz, List.take_length]) ?_
        rw [← gotC_start (i := 0)]
        simp [oneCells, gotC, Value.oneCell']
      have hx4 : Ext m3 (m3.new (.cells (zeros [.int .i64 0] (l'.length + 1)) (some 1))) := Ext.new
      generalize m3.new (.cells (zeros [.int .i64 0] (l'.length + 1)) (some 1)) = m4 at hG0 hx4 ⊢
      generalize hgv : Value.slice (some ⟨m3.next, 0, none⟩) (l'.length + 1) (l'.length + 1) = gv at hG0 ⊢
      have hR4 := hR.keep hx4
      have hV4 := hV.keep hR4.ext
      have hP0 := Picks.start hM
      refine gC.of (locTotal hV4 (by have := hP0.len; omega) (fun e he => by have := hP0.bd.s e he; omega)) ?_
      rintro _ m5 ⟨rfl, hx5⟩
      rw [hP0.total]
      have hV5 := hV4.keep hx5
      have hR5 := hR4.keep hx5
      have hTri : Tri m1.next m3.next b rb lv rv gv := ⟨hbN, hVlt, hrbN, hR.box.lt, fun c hc => ⟨hR.own.ge c hc, hR.own.vlt c hc⟩, hG0.ge⟩
      obtain ⟨d1, d2, d3, d4, d5, d6, d7⟩ := top_ge hTri
      have hg1 : ∀ c ∈ vb gv, m.next ≤ c := fun c hc => by have := hG0.ge c hc; have := hR.ext.next; have := hV.ext.next; omega
      have hg2 : ∀ c ∈ vb rv, m.next ≤ c := fun c hc => by have := hR.own.ge c hc; have := hV.ext.next; omega
      have hg3 : ∀ c ∈ vb lv, m.next ≤ c := hV.own.ge
      have hW0 : ∀ w ∈ l', 0 ≤ w.2 := fun w hw => by have := hW1 w hw; omega
      have hT := sumW_nn hW0
      have hmS := mkL_sum (l := l') (i := 0) hW0
      have hTT0 : TT m m5 l' b rb lv rv gv L (mkL 0 l') 0 := ⟨hV5, hR5.weak hV.ext, (hG0.keep hx5).weak (hV.ext.trans hR.ext), hP0, .start fun w hw => (hW1 w hw).1⟩
      simp only [go_sem]
      refine WL.of (fun n e m' => ∃ (t : Nat) (L : List En) (Q : List Rm), (t : Int) ≤ sumW l' ∧ n = (sumW l').toNat - t ∧ e = [(0, v'), (3, .pointer (some ⟨b, 0, none⟩)), (5, .pointer (some ⟨rb, 0, none⟩)), (8, gv), (64, .int .i64 (sumW l')), (65, .int .i64 t)] ∧ TT m m' l' b rb lv rv gv L Q t ∧ sumR (·.w) Q = sumR (·.w) (mkL 0 l')) (sumW l').toNat
        ⟨0, L, _, by omega, by omega, by simp only [go_sem] <;> rfl, hTT0, rfl⟩ ?_
      clear hTT0 hV5 hR5 hP0 hV4 hR4
      rintro _ _ m6 ⟨t, L6, Q, ht, rfl, rfl, hTT, hQ⟩
      have hRl := hTT.hl.len
      have hQl := hTT.hr.at_.1
      simp only [RB.top_TopTwo_2, go_sem]
      refine gT.of (fun g2' => ?_) (fun g2' => ?_) <;> (have g2 := g2'; try simp only [decide_eq_true_eq, decide_eq_false_iff_not, beq_iff_eq, bne_iff_ne, beq_eq_false_iff_ne, ne_eq, Bool.not_eq_true', Bool.not_eq_false', bne_eq_false_iff_eq, Int.not_lt, Int.not_le] at g2)
      · have h0 : 0 < L6.length := by
          by_cases h : L6.length = 0
          · have : l' = [] := List.eq_nil_of_length_eq_zero (by omega)
            subst this
            simp only [sumW] at g2; omega
          · omega
        obtain ⟨hR', bb, hbb⟩ := hTT.hl.pick h0
        obtain ⟨i, hri, hi, hin, hQ', hQs⟩ := hTT.hr.pick (by rw [hQ]; omega)
        have s1' := step1 (show t < 1000000 by omega)
        simp only [go_sem, g2']
        refine gC.of (locPickU (off := []) hTT.loc (hTT.hl.bd.sm (by omega)) (by omega) (.nil rfl rfl) trivial (by simp)) ?_
        rintro _ m7 ⟨⟨hn, -⟩ | ⟨j, hj, rfl⟩, hV7, hu7⟩
        · rw [hbb] at hn; cases hn
        · have hR7 := hTT.ring.updq hu7 d3 (fun c hc => (d6 c hc).1) hg3
          have hG7 := hTT.got.updq hu7 (fun c hc => (d7 c hc).1)
          have hSm : ∀ e ∈ Q, RSm e := fun e he => by
            have h1 := hTT.hr.pos e he
            have h2 := hTT.hr.le e he
            obtain ⟨q, hq, rfl⟩ := List.getElem_of_mem he
            have h3 := (hTT.hr.at_.2 q hq (by omega)).2
            have h4 := hW1 _ (List.getElem_mem (show q < l'.length by omega))
            exact ⟨h1, by omega, by omega⟩
          have hid := (hTT.hr.at_.2 i hi (by omega)).1
          have hni : Q[i].n < 2000 := by have := (hSm _ (List.getElem_mem hi)).2.1; have h3 := (hTT.hr.at_.2 i hi (by omega)).2; have h4 := hW1 _ (List.getElem_mem (show i < l'.length by omega)); omega
          simp only [go_sem, aExt0, aExt1]
          refine gC.of (ringPick hR7 (by omega) hSm hri hi hni) ?_
          rintro _ m8 ⟨rfl, hR8, hu8⟩
          have hV8 := hV7.updq hu8 d1 (fun c hc => (d5 c hc).1) hg2
          have hG8 := hG7.updq hu8 (fun c hc => (d7 c hc).2)
          have e4 : decide (((i + 1 : Nat) : Int) < 1) = false := decide_eq_false (by omega)
          have e5 : decide ((l'.length : Int) < ((i + 1 : Nat) : Int)) = false := decide_eq_false (by omega)
          have hs8 := hs'.keep hb' hV8.ext
          obtain ⟨gb, m9, p1, p2, p3, p4, p5⟩ := hG8.putU (k := .i64) (i := i + 1) (o := 0) (w := .int .i64 ((Q[i].n + 1 : Nat) : Int)) hV8.ext (by omega) (by omega) rfl rfl
          simp only [Nat.mul_one, Nat.add_zero] at p1 p2 p3
          obtain ⟨q1, q2, q3⟩ := hG8.sl.get (k := .i64) (i := i + 1) (by omega)
          rw [p1] at q2
          cases q2
          rw [gotC_get hi] at q3
          rw [gotC_set hi] at p3
          have hV9 := hV8.updq p5 d2 (fun c hc => (d5 c hc).2) hg1
          have hR9 := hR8.updq p5 d4 (fun c hc => (d6 c hc).2) hg1
          have s2' := step1 (show Q[i].n < 1000000 by omega)
          have hidn : Q[i].id = ((i + 1 : Nat) : Int) := by rw [hid]; rfl
          simp only [go_sem, aExt0, aExt1, e4, e5, hs8.len, hidn, p1, q3, s2', p2, s1']
          exact ⟨(sumW l').toNat - (t + 1), by omega, t + 1, _, _, by omega, rfl, rfl, ⟨hV9, hR9, by rw [show l'.length = l'.length from rfl]; exact p3, hR', hQ'⟩, by rw [hQs, hQ]⟩
      · have htS : (t : Int) = sumW l' := by omega
        simp only [go_sem, g2']
        refine WL.of (fun n e m' => ∃ j : Nat, j ≤ l'.length ∧ n = l'.length - j ∧ e = [(0, v'), (3, .pointer (some ⟨b, 0, none⟩)), (8, gv), (13, .int .i64 j)] ∧ Ext m6 m') l'.length
          ⟨0, by omega, by omega, by simp only [go_sem] <;> rfl, Ext.refl _⟩ ?_
        rintro _ _ m7 ⟨j, hj, rfl, rfl, hx7⟩
        have hV7 := hTT.loc.keep hx7
        have hs7 := hs'.keep hb' hV7.ext
        simp only [RB.top_TopTwo_1, go_sem, hs7.len]
        refine gT.of (fun g3' => ?_) (fun g3' => ?_) <;> (have g3 := g3'; try simp only [decide_eq_true_eq, decide_eq_false_iff_not, beq_iff_eq, bne_iff_ne, beq_eq_false_iff_ne, ne_eq, Bool.not_eq_true', Bool.not_eq_false', bne_eq_false_iff_eq, Int.not_lt, Int.not_le] at g3)
        · have hjl : j < l'.length := by omega
          have s1 := step1 (show j < 1000000 by omega)
          obtain ⟨p, o, a1, -, a3, -⟩ := hs7.elem spV_len (k := .i64) hjl
          have c1 : aLoad false 1 m7 (.pointer (some ⟨p, o + 0, none⟩)) = some (.int .i64 l'[j].1) := a3 0 (by omega)
          have hw := List.getElem_mem hjl
          simp only [go_sem, g3', a1, c1]
          refine gC.of (locGot hV7 (by omega)) ?_
          rintro _ m8 ⟨⟨hno, rfl⟩ | ⟨i, hi, rfl, hu⟩, hx8⟩
          · obtain ⟨e, he, heq⟩ := hTT.hl.there hw
            exact absurd heq (hno e he)
          · obtain ⟨p, o, a1, -, a3, -⟩ := (hs7.keep (hb'.keep hV7.ext) hx8).elem spV_len (k := .i64) hjl
            have c2 : aLoad false 1 m8 (.pointer (some ⟨p, o + 1, none⟩)) = some (.int .i64 l'[j].2) := a3 1 (by omega)
            have hjust := fair_just hTT.hl.bd.pos hTT.hl.fair (by rw [hTT.hl.sum, hTT.hl.total]; exact htS) hi
            rw [hTT.hl.share k2 hw hi hu] at hjust
            have e3 : ((L6[i].g : Int) != l'[j].2) = false := by rw [hjust]; exact bne_self_eq_false _
            have hjQ : j < Q.length := by omega
            have hG8 := (hTT.got.keep hx7).keep hx8
            obtain ⟨q1, q2, q3⟩ := hG8.sl.get (k := .i64) (i := j + 1) (by omega)
            rw [gotC_get hjQ] at q3
            have hq := hTT.hr.just (by rw [hQ]; omega) _ (List.getElem_mem hjQ)
            have hq2 := (hTT.hr.at_.2 j hjQ hjl).2
            have hw1 := (hW1 _ hw).1
            have e4 : (((Q[j].n : Nat) : Int) != l'[j].2) = false := by
              rw [hq, hq2, show ((l'[j].2.toNat : Nat) : Int) = l'[j].2 by omega]; exact bne_self_eq_false _
            simp only [go_sem, aExt0, aExt1, a1, c2, e3, s1, q2, q3, e4]
            exact ⟨l'.length - (j + 1), by omega, j + 1, by omega, rfl, rfl, hx7.trans hx8⟩
        · simp only [go_sem, g3']
          refine gC.of (ok_spec R.top_begins20) ?_
          rintro _ m_ ⟨rfl, hm_⟩
          replace hm_ := hm_.symm
          subst hm_
          simp only [go_sem]
end Go.Am


/- TopTwo, of arguments as they are read. -/
set_option linter.unusedVariables false
namespace Go.Am
theorem top_TopTwo_walk (m : Mem) (us : List Value) (h : RdAs m [(false, [.sl [.int .i64, .int .i64]])] us) : WC R F.top_TopTwo us m fun v _ => v = .bool true := by
  obtain ⟨_, _, rfl, h2, h⟩ := h.one; cases h.none
  obtain ⟨l, hs, hb, hc, hr⟩ := w_read h2.rd
  exact TopTwo_spec hs hb hc hr
end Go.Am
