/- Parts of the proofs of the statements of this seat: LedgerzRosterP2, LedgerzRosterP3, LedgerzRosterP4, LedgerzRosterX1, LedgerzRosterR1, LedgerzRosterR2, LedgerzRosterR3, LedgerzRosterR4, LedgerzRosterR5, LedgerzRosterR6, LedgerzRosterR7, LedgerzRosterR8, LedgerzRosterR9, LedgerzRosterRA. No conditions. -/
import Derived.Test.YtapnnihajniakaaGreatLedgerForkPart4
import Derived.Test.YtapnnihajniakaaGreatLedgerForkPart5
set_option linter.unusedVariables false
set_option linter.unusedSimpArgs false

/- RosterP2 over the table of ledgerz (relayset.py). -/
set_option linter.unusedVariables false
set_option linter.unusedSimpArgs false
namespace Go.Am
open Classical

theorem RsWf.mend {s : Rs} (h : RsWf s) {id : Int} {t t' : Tk} (ht : lkp s.T id = some t) (h1 : t'.id = t.id) (h2 : t'.grp = t.grp) (hok : TkOk s t') : RsWf { s with T := updL s.T id t' } := by
  have hin : id ∈ kys s.T := List.mem_map.2 ⟨_, lkp_some ht, rfl⟩
  refine h.put (by rw [h1]; exact (h.tk ht).2) hok (by rw [updL_len, if_pos hin]; exact h.k.tl) rfl fun p hp => ⟨p.2, hp, rfl, rfl, ?_⟩
  rw [h.mem p hp, cnt_upd h.k.tn, cnt_old h.k.tn ht, h2]
theorem RsWf.arrive {s : Rs} (h : RsWf s) {id sh : Int} : RsWf (arriveS s id sh).1 := by
  unfold arriveS
  split
  · exact h
  · rename_i g1
    split
    · exact h
    · rename_i g2
      split
      · exact h
      · rename_i g3
        have g1 : freshE s id = 0 := by simpa using g1
        unfold freshE at g1
        have hr : 1 ≤ id ∧ id ≤ 200 := by
          apply Classical.byContradiction; intro hn; rw [if_pos hn] at g1; omega
        have hm : id ∉ kys s.T := fun hm => by rw [if_neg (fun h => h hr), if_pos hm] at g1; omega
        have g2 : shOk s sh := by simpa using g2
        have hf := h.fr
        unfold shOk at g2
        refine h.put (t := ⟨id, 0, sh, 0, 0, false⟩) (id := id) rfl ⟨hr, fun e => absurd rfl e, fun _ => ⟨by show 1 ≤ sh; omega, by show sh ≤ 64; omega, rfl, rfl⟩, fun e => absurd rfl e⟩ (by rw [updL_len, if_neg hm]; omega) rfl fun p hp => ⟨p.2, hp, rfl, rfl, ?_⟩
        have hp1 := h.k.gr p.1 (List.mem_map.2 ⟨p, hp, rfl⟩)
        rw [h.mem p hp, cnt_upd h.k.tn, cnt_new hm, if_neg (by show (0 : Int) ≠ p.1; omega)]; rfl
theorem RsWf.depart {s : Rs} (h : RsWf s) {id : Int} : RsWf (departS s id).1 := by
  unfold departS
  cases hl : lkp s.T id with
  | none => exact h
  | some t =>
    show RsWf ⟨s.f, delL s.T id, cntU s.G t.grp (-1)⟩
    have hout : ∀ p ∈ delL s.T id, p ∈ s.T := fun p hp => ((mem_del h.k.tn).1 hp).1
    have hlen := cntU_len (G := s.G) (k := t.grp) (by_ := -1)
    refine ⟨⟨kys_del h.k.tn, by show (kys (cntU _ _ _)).Nodup; rw [kys_cntU]; exact h.k.gn, fun x hx => h.k.tr x ((mem_kys_del h.k.tn).1 hx).1, fun x hx => h.k.gr x (by rw [← kys_cntU]; exact hx), Nat.le_trans delL_len h.k.tl, by show (cntU _ _ _).length ≤ 40; rw [hlen]; exact h.k.gl⟩, fun p hp => h.ti p (hout p hp), fun p hp => ?_, fun p hp => ?_, fun p hp hne => ?_, fun p hp => h.sh0 p (hout p hp), fun p hp => h.sh1 p (hout p hp), fun p hp => ?_, h.fr⟩
    · obtain ⟨g, a, b, -⟩ := mem_cntU h.k.gn hp
      rw [b]; exact h.gi _ a
    · obtain ⟨g, a, b, c, d⟩ := mem_cntU h.k.gn hp
      have hm := h.mem _ a
      simp only at hm
      rw [d, hm, cnt_old h.k.tn hl]
      show _ = ((cntT (delL s.T id) p.1 : Nat) : Int)
      rw [delL_eq h.k.tn]
      by_cases e : p.1 = t.grp
      · rw [if_pos e, if_pos e.symm]; omega
      · rw [if_neg e, if_neg (fun e' => e e'.symm)]; omega
    · show p.2.grp ∈ kys (cntU _ _ _)
      rw [kys_cntU]
      exact h.grp p (hout p hp) hne
    · obtain ⟨g, a, b, c, d⟩ := mem_cntU h.k.gn hp
      rw [c]; exact h.gsh _ a
theorem RsWf.reweight {s : Rs} (h : RsWf s) {id sh : Int} : RsWf (reweightS s id sh).1 := by
  unfold reweightS
  cases hl : lkp s.T id with
  | none => exact h
  | some t =>
    simp only []
    split
    · exact h
    · rename_i g1
      split
      · exact h
      · rename_i g2
        have g1 : t.grp = 0 := by simpa using g1
        have g2 : shOk s sh := by simpa using g2
        have hf := h.fr
        unfold shOk at g2
        have hk := (h.tk hl).1
        have h0 := hk.sh0 g1
        exact h.mend hl rfl rfl ⟨hk.id, hk.grp, fun _ => ⟨by show 1 ≤ sh; omega, by show sh ≤ 64; omega, h0.2.2⟩, fun e => absurd g1 e⟩
theorem RsWf.off {s : Rs} (h : RsWf s) {id : Int} {o : Bool} : RsWf (offS s id o).1 := by
  unfold offS
  cases hl : lkp s.T id with
  | none => exact h
  | some t =>
    simp only []
    split
    · exact h
    · have hk := (h.tk hl).1
      exact h.mend hl rfl rfl ⟨hk.id, hk.grp, hk.sh0, hk.sh1⟩
theorem RsWf.weigh {s : Rs} (h : RsWf s) {id w : Int} : RsWf (weighS s id w).1 := by
  unfold weighS
  cases hl : lkp s.T id with
  | none => exact h
  | some t =>
    simp only []
    split
    · exact h
    · rename_i g1
      split
      · exact h
      · rename_i g2
        have g2 : 1 ≤ w ∧ w ≤ 1000 := by simpa using g2
        have hk := (h.tk hl).1
        have h0 := hk.sh1 g1
        exact h.mend hl rfl rfl ⟨hk.id, hk.grp, fun e => absurd e g1, fun _ => ⟨h0.1, g2.1, g2.2, h0.2.2.2⟩⟩
theorem RsWf.limit {s : Rs} (h : RsWf s) {id c : Int} : RsWf (limitS s id c).1 := by
  unfold limitS
  cases hl : lkp s.T id with
  | none => exact h
  | some t =>
    simp only []
    split
    · exact h
    · rename_i g1
      split
      · exact h
      · rename_i g2
        have hf := h.fr
        have hk := (h.tk hl).1
        have h0 := hk.sh1 g1
        exact h.mend hl rfl rfl ⟨hk.id, hk.grp, fun e => absurd e g1, fun _ => ⟨h0.1, h0.2.1, h0.2.2.1, by show 0 ≤ c; omega, by show c ≤ 64; omega⟩⟩
theorem RsWf.found {s : Rs} (h : RsWf s) {k sh : Int} : RsWf (foundS s k sh).1 := by
  unfold foundS
  split
  · exact h
  · rename_i g1
    split
    · exact h
    · rename_i g2
      split
      · exact h
      · rename_i g3
        have hr : 1 ≤ k ∧ k ≤ 40 := by simpa using g1
        have g3 : shOk s sh := by simpa using g3
        have hf := h.fr
        unfold shOk at g3
        have hgr : ∀ x ∈ kys (updL s.G k ⟨k, sh, 0⟩), 1 ≤ x ∧ x ≤ 40 := fun x hx => by
          rcases (mem_kys_upd h.k.gn).1 hx with hx | rfl
          · exact h.k.gr x hx
          · exact hr
        have hgl : (updL s.G k (⟨k, sh, 0⟩ : Gp)).length ≤ 40 := by
          have := range_card (n := 40) (kys_upd (a := ⟨k, sh, 0⟩) h.k.gn) hgr
          simpa [kys] using this
        show RsWf ⟨s.f, s.T, updL s.G k ⟨k, sh, 0⟩⟩
        refine ⟨⟨h.k.tn, kys_upd h.k.gn, h.k.tr, hgr, h.k.tl, hgl⟩, h.ti, fun p hp => ?_, fun p hp => ?_, fun p hp hne => (mem_kys_upd h.k.gn).2 (.inl (h.grp p hp hne)), h.sh0, h.sh1, fun p hp => ?_, h.fr⟩
        · rcases (mem_upd h.k.gn).1 hp with ⟨hp, -⟩ | rfl
          · exact h.gi p hp
          · rfl
        · rcases (mem_upd h.k.gn).1 hp with ⟨hp, -⟩ | rfl
          · exact h.mem p hp
          · have : cntT s.T k = 0 := cnt_zero.2 fun p hp e => g2 (by rw [← e]; exact h.grp p hp (by omega))
            show (0 : Int) = ((cntT s.T k : Nat) : Int)
            rw [this]; rfl
        · rcases (mem_upd h.k.gn).1 hp with ⟨hp, -⟩ | rfl
          · exact h.gsh p hp
          · show 1 ≤ sh ∧ sh ≤ 64; omega
theorem RsWf.fund {s : Rs} (h : RsWf s) {k sh : Int} : RsWf (fundS s k sh).1 := by
  unfold fundS
  cases hl : lkp s.G k with
  | none => exact h
  | some g =>
    simp only []
    split
    · exact h
    · rename_i g3
      have g3 : shOk s sh := by simpa using g3
      have hf := h.fr
      unfold shOk at g3
      have hin : k ∈ kys s.G := List.mem_map.2 ⟨_, lkp_some hl, rfl⟩
      have hk : kys (updL s.G k { g with share := sh }) = kys s.G := kys_upd_eq hin
      show RsWf ⟨s.f, s.T, updL s.G k { g with share := sh }⟩
      refine ⟨⟨h.k.tn, kys_upd h.k.gn, h.k.tr, fun x hx => h.k.gr x (by rw [← hk]; exact hx), h.k.tl, by show (updL _ _ _).length ≤ 40; rw [updL_len, if_pos hin]; exact h.k.gl⟩, h.ti, fun p hp => ?_, fun p hp => ?_, fun p hp hne => by show _ ∈ kys (updL _ _ _); rw [hk]; exact h.grp p hp hne, h.sh0, h.sh1, fun p hp => ?_, h.fr⟩
      · rcases (mem_upd h.k.gn).1 hp with ⟨hp, -⟩ | rfl
        · exact h.gi p hp
        · exact h.gi (k, g) (lkp_some hl)
      · rcases (mem_upd h.k.gn).1 hp with ⟨hp, -⟩ | rfl
        · exact h.mem p hp
        · exact h.mem (k, g) (lkp_some hl)
      · rcases (mem_upd h.k.gn).1 hp with ⟨hp, -⟩ | rfl
        · exact h.gsh p hp
        · show 1 ≤ sh ∧ sh ≤ 64; omega
theorem RsWf.disband {s : Rs} (h : RsWf s) {k : Int} : RsWf (disbandS s k).1 := by
  unfold disbandS
  cases hl : lkp s.G k with
  | none => exact h
  | some g =>
    simp only []
    split
    · exact h
    · rename_i g3
      have hm : ∀ p ∈ delL s.G k, p ∈ s.G := fun p hp => ((mem_del h.k.gn).1 hp).1
      have hg := h.mem _ (lkp_some hl)
      simp only at hg
      have hz : cntT s.T k = 0 := by omega
      have hz := cnt_zero.1 hz
      show RsWf ⟨s.f, s.T, delL s.G k⟩
      refine ⟨⟨h.k.tn, kys_del h.k.gn, h.k.tr, fun x hx => h.k.gr x ((mem_kys_del h.k.gn).1 hx).1, h.k.tl, Nat.le_trans delL_len h.k.gl⟩, h.ti, fun p hp => h.gi p (hm p hp), fun p hp => h.mem p (hm p hp), fun p hp hne => (mem_kys_del h.k.gn).2 ⟨h.grp p hp hne, hz p hp⟩, h.sh0, h.sh1, fun p hp => h.gsh p (hm p hp), h.fr⟩
theorem RsWf.enter {s : Rs} (h : RsWf s) {id k w c : Int} : RsWf (enterS s id k w c).1 := by
  unfold enterS
  split
  · exact h
  · rename_i g1
    cases hl : lkp s.G k with
    | none => exact h
    | some g =>
      simp only []
      split
      · exact h
      · rename_i g2
        split
        · exact h
        · rename_i g3
          split
          · exact h
          · rename_i g4
            have g1 : freshE s id = 0 := by simpa using g1
            unfold freshE at g1
            have hr : 1 ≤ id ∧ id ≤ 200 := by
              apply Classical.byContradiction; intro hn; rw [if_pos hn] at g1; omega
            have hm : id ∉ kys s.T := fun hm => by rw [if_neg (fun h => h hr), if_pos hm] at g1; omega
            have g2 : 1 ≤ w ∧ w ≤ 1000 := by simpa using g2
            have hf := h.fr
            have hin : k ∈ kys s.G := List.mem_map.2 ⟨_, lkp_some hl, rfl⟩
            have hk1 := h.k.gr k hin
            refine h.put (t := ⟨id, k, 0, w, c, false⟩) (id := id) rfl ⟨hr, fun _ => hin, fun e => by exfalso; have : k = 0 := e; omega, fun _ => ⟨rfl, g2.1, g2.2, by show 0 ≤ c; omega, by show c ≤ 64; omega⟩⟩ (by rw [updL_len, if_neg hm]; omega) kys_cntU fun p hp => ?_
            obtain ⟨g', a, b, c', d⟩ := mem_cntU h.k.gn hp
            refine ⟨g', a, b, c', ?_⟩
            have hmm := h.mem _ a
            simp only at hmm
            rw [d, hmm, cnt_upd h.k.tn, cnt_new hm]
            by_cases e : p.1 = k
            · rw [if_pos e, if_pos e.symm]; omega
            · rw [if_neg e, if_neg (fun e' => e e'.symm)]; omega
theorem RsWf.move {s : Rs} (h : RsWf s) {id k : Int} : RsWf (moveS s id k).1 := by
  unfold moveS
  cases hl : lkp s.T id with
  | none => exact h
  | some t =>
    simp only []
    split
    · exact h
    · rename_i g1
      cases hg : lkp s.G k with
      | none => exact h
      | some g =>
        simp only []
        split
        · exact h
        · rename_i g2
          split
          · exact h
          · rename_i g3
            have hin : k ∈ kys s.G := List.mem_map.2 ⟨_, lkp_some hg, rfl⟩
            have hit : id ∈ kys s.T := List.mem_map.2 ⟨_, lkp_some hl, rfl⟩
            have hk1 := h.k.gr k hin
            obtain ⟨hk, hid⟩ := h.tk hl
            have h0 := hk.sh1 g1
            refine h.put (t := { t with grp := k }) (id := id) hid ⟨hk.id, fun _ => hin, fun e => by exfalso; have : k = 0 := e; omega, fun _ => h0⟩ (by rw [updL_len, if_pos hit]; exact h.k.tl) (by rw [kys_cntU, kys_cntU]) fun p hp => ?_
            obtain ⟨g1', a1, b1, c1, d1⟩ := mem_cntU (by rw [kys_cntU]; exact h.k.gn) hp
            obtain ⟨g', a, b, c', d⟩ := mem_cntU h.k.gn a1
            simp only at a b c' d
            refine ⟨g', a, b1.trans b, c1.trans c', ?_⟩
            have hmm := h.mem _ a
            simp only at hmm
            rw [d1, d, hmm, cnt_upd h.k.tn, cnt_old h.k.tn hl]
            show ((cntT (outK s.T id) p.1 + if t.grp = p.1 then 1 else 0 : Nat) : Int) + (if p.1 = t.grp then -1 else 0) + (if p.1 = k then 1 else 0) = ((cntT (outK s.T id) p.1 + if k = p.1 then 1 else 0 : Nat) : Int)
            have g2 : ¬ t.grp = k := g2
            generalize t.grp = tg at *
            (repeat' split) <;> omega

/-- A command. -/
structure Cm where
  op : Int
  id : Int
  grp : Int
  share : Int
  weight : Int
  cap : Int
  core : Int
  n : Int
def cmV (c : Cm) : List Value := [.int .i64 c.op, .int .i64 c.id, .int .i64 c.grp, .int .i64 c.share, .int .i64 c.weight, .int .i64 c.cap, .int .i64 c.core, .int .i64 c.n]
theorem cmV_len (c : Cm) : (cmV c).length = 8 := rfl
noncomputable def doS (s : Rs) (c : Cm) : Rs × Int :=
  if c.op = 1 then arriveS s c.id c.share else if c.op = 2 then departS s c.id else if c.op = 3 then reweightS s c.id c.share else if c.op = 4 then offS s c.id true
  else if c.op = 5 then offS s c.id false else if c.op = 6 then foundS s c.grp c.share else if c.op = 7 then fundS s c.grp c.share else if c.op = 8 then disbandS s c.grp
  else if c.op = 9 then enterS s c.id c.grp c.weight c.cap else if c.op = 10 then weighS s c.id c.weight else if c.op = 11 then limitS s c.id c.cap else if c.op = 12 then moveS s c.id c.grp else (s, 0)
theorem RsWf.do_ {s : Rs} (h : RsWf s) {c : Cm} : RsWf (doS s c).1 := by
  unfold doS
  by_cases h1 : c.op = 1
  · rw [if_pos h1]; exact h.arrive
  rw [if_neg h1]
  by_cases h2 : c.op = 2
  · rw [if_pos h2]; exact h.depart
  rw [if_neg h2]
  by_cases h3 : c.op = 3
  · rw [if_pos h3]; exact h.reweight
  rw [if_neg h3]
  by_cases h4 : c.op = 4
  · rw [if_pos h4]; exact h.off
  rw [if_neg h4]
  by_cases h5 : c.op = 5
  · rw [if_pos h5]; exact h.off
  rw [if_neg h5]
  by_cases h6 : c.op = 6
  · rw [if_pos h6]; exact h.found
  rw [if_neg h6]
  by_cases h7 : c.op = 7
  · rw [if_pos h7]; exact h.fund
  rw [if_neg h7]
  by_cases h8 : c.op = 8
  · rw [if_pos h8]; exact h.disband
  rw [if_neg h8]
  by_cases h9 : c.op = 9
  · rw [if_pos h9]; exact h.enter
  rw [if_neg h9]
  by_cases h10 : c.op = 10
  · rw [if_pos h10]; exact h.weigh
  rw [if_neg h10]
  by_cases h11 : c.op = 11
  · rw [if_pos h11]; exact h.limit
  rw [if_neg h11]
  by_cases h12 : c.op = 12
  · rw [if_pos h12]; exact h.move
  rw [if_neg h12]
  exact h
theorem RsWf.new {f : Int} (hf : 2 ≤ f ∧ f ≤ 64) : RsWf ⟨f, [], []⟩ := by
  refine ⟨⟨?_, ?_, ?_, ?_, ?_, ?_⟩, ?_, ?_, ?_, ?_, ?_, ?_, ?_, hf⟩ <;> simp [kys]
end Go.Am


/- RosterP3 over the table of ledgerz (relayset.py). -/
set_option linter.unusedVariables false
set_option linter.unusedSimpArgs false
namespace Go.Am
open Classical
variable {m : Mem}

end Go.Am


/- RosterP4 over the table of ledgerz (relayset.py). -/
set_option linter.unusedVariables false
set_option linter.unusedSimpArgs false
namespace Go.Am
open Classical

theorem map_lkp {α : Type} {z : α} {L : List (Int × α)} (hn : (kys L).Nodup) : (kys L).map (fun x => (lkp L x).getD z) = L.map Prod.snd := by
  unfold kys
  rw [List.map_map]
  refine List.map_congr_left fun p hp => ?_
  show (lkp L p.1).getD z = p.2
  rw [lkp_mem hn (a := p.2) hp]; rfl
theorem tasksL_perm {s : Rs} (hn : (kys s.T).Nodup) : (tasksL s).Perm (s.T.map Prod.snd) := by
  rw [← map_lkp (z := zT) hn]
  exact sortI_perm.map _
theorem groupsL_perm {s : Rs} (hn : (kys s.G).Nodup) : (groupsL s).Perm (s.G.map Prod.snd) := by
  rw [← map_lkp (z := zG) hn]
  exact sortI_perm.map _

theorem perm_sumI {a b : List Int} (h : a.Perm b) : a.sum = b.sum := by
  induction h with
  | nil => rfl
  | cons x _ ih => simp [ih]
  | swap x y l => simp; omega
  | trans _ _ ih1 ih2 => exact ih1.trans ih2
end Go.Am


/- RosterX1 over the table of ledgerz (relayset.py). -/
set_option linter.unusedVariables false
set_option linter.unusedSimpArgs false
namespace Go.Am
open Classical
variable {m : Mem}

/-- A roster that is ours. -/
structure RI (m0 m : Mem) (b q1 q2 : Nat) (s : Rs) : Prop where
  v : RosV m b q1 q2 s
  w : RsWf s
  g1 : m0.next ≤ q1
  g2 : m0.next ≤ q2
  g0 : m0.next ≤ b
  x : Ext m0 m
theorem RI.keep {m0 m m' : Mem} {b q1 q2 : Nat} {s : Rs} (h : RI m0 m b q1 q2 s) (hx : Ext m m') : RI m0 m' b q1 q2 s := ⟨h.v.keep hx, h.w, h.g1, h.g2, h.g0, h.x.trans hx⟩
theorem RI.do_ {m0 m m' : Mem} {b q1 q2 : Nat} {s : Rs} {c : Cm} {r : Value} (h : RI m0 m b q1 q2 s) (hp : Post m b q1 q2 (doS s c) r m') : RI m0 m' b q1 q2 (doS s c).1 :=
  ⟨hp.2.1, h.w.do_, h.g1, h.g2, h.g0, hp.2.2.ext_of h.x fun x hx => by
    rcases List.mem_cons.1 hx with rfl | hx
    · exact h.g1
    · rw [List.mem_singleton] at hx; rw [hx]; exact h.g2⟩
end Go.Am


/- RosterR1 over the table of ledgerz (relayset.py). -/
set_option linter.unusedVariables false
set_option linter.unusedSimpArgs false
namespace Go.Am
open Classical
variable {m : Mem}

/-- The document's roster. -/
structure Rr where
  f : Int
  T : List Tk
  G : List Sp
abbrev rrA (f : Int) (tv gv : Value) : Value := .agg #[.int .i64 f, tv, gv]
structure RrV (m : Mem) (w : Rr) (tv gv : Value) : Prop where
  t : Sl m 6 w.T.length (w.T.flatMap tkV) tv
  tl : SlLt m tv
  g : Sl m 2 w.G.length (w.G.flatMap spV) gv
  gl : SlLt m gv
  tn : w.T.length ≤ 100
  gn : w.G.length ≤ 100
theorem RrV.keep {m m' : Mem} {w : Rr} {tv gv : Value} (h : RrV m w tv gv) (hx : Ext m m') : RrV m' w tv gv := ⟨h.t.keep h.tl hx, h.tl.keep hx, h.g.keep h.gl hx, h.gl.keep hx, h.tn, h.gn⟩

theorem refFind28 {w : Rr} {tv gv : Value} {id : Int} (h : RrV m w tv gv) : WC R F.ref28_find [rrA w.f tv gv, .int .i64 id] m fun r m' => Ext m m' ∧ ((∃ (i : Nat) (h : i < w.T.length), (w.T[i]).id = id ∧ r = .int .i64 ((i : Nat) : Int)) ∨ ((∀ t ∈ w.T, t.id ≠ id) ∧ r = .int .i64 (-1))) := by
  refine WC.of R.ref28_find rfl ?_
  simp only [RC.ref28_find, go_sem, h.t.one, h.g.one]
  have hx1 : Ext m (m.new (.cells [.int .i64 w.f, tv, gv] (some 3))) := Ext.new
  have hb1 : Bk (m.new (.cells [.int .i64 w.f, tv, gv] (some 3))) m.next [.int .i64 w.f, tv, gv] 3 := Bk.new
  generalize m.new (.cells [.int .i64 w.f, tv, gv] (some 3)) = m1 at hx1 hb1 ⊢
  have hl := h.tn
  have ht := h.t.keep h.tl hx1
  refine WL.of (fun n e m' => ∃ i : Nat, i ≤ w.T.length ∧ n = w.T.length - i ∧ e = [(1, .int .i64 id), (2, pt m.next), (5, .int .i64 i)] ∧ (∀ j (hj : j < w.T.length), j < i → (w.T[j]).id ≠ id) ∧ m' = m1) w.T.length
    ⟨0, by omega, by omega, by simp only [go_sem] <;> rfl, fun _ _ h => by omega, rfl⟩ ?_
  rintro _ _ _ ⟨i, hi, rfl, rfl, hj, rfl⟩
  simp only [RB.ref28_find_1, pt, go_sem]
  have s1 := st1 (show i < 1000000 by omega)
  by_cases g1 : i < w.T.length
  · have e1 : decide (((i : Nat) : Int) < ((w.T.length : Nat) : Int)) = true := decide_eq_true (by omega)
    obtain ⟨b, o, a1, -, a3, -⟩ := ht.elem tkV_len (k := .i64) g1
    have a30 := a3 0 (by omega)
    simp only [tkV, List.getElem?_cons_zero, Nat.add_zero] at a30
    by_cases g2 : (w.T[i]).id = id
    · have e2 : ((w.T[i]).id == id) = true := by rw [beq_iff_eq]; exact g2
      try simp only [go_sem, ruB, hb1.at_, ht.len, e1, a1, a30, e2]
      exact ⟨hx1, .inl ⟨i, g1, g2, rfl⟩⟩
    · have e2 : ((w.T[i]).id == id) = false := by rw [beq_eq_false_iff_ne]; exact g2
      try simp only [go_sem, ruB, hb1.at_, ht.len, e1, a1, a30, e2, s1]
      refine ⟨w.T.length - (i + 1), by omega, i + 1, by omega, rfl, rfl, fun j h1 h2 => ?_⟩
      by_cases e : j = i
      · subst e; exact g2
      · exact hj j h1 (by omega)
  · have e1 : decide (((i : Nat) : Int) < ((w.T.length : Nat) : Int)) = false := decide_eq_false (by omega)
    try simp only [go_sem, ruB, hb1.at_, ht.len, e1]
    refine ⟨hx1, .inr fun t ht => ?_⟩
    obtain ⟨j, h1, rfl⟩ := List.mem_iff_getElem.1 ht
    exact hj j h1 (by omega)
theorem refGroup0 {w : Rr} {tv gv : Value} {id : Int} (h : RrV m w tv gv) : WC R F.ref28_Group0 [rrA w.f tv gv, .int .i64 id] m fun r m' => Ext m m' ∧ ((∃ (i : Nat) (h : i < w.G.length), (w.G[i]).1 = id ∧ r = .int .i64 ((i : Nat) : Int)) ∨ ((∀ t ∈ w.G, t.1 ≠ id) ∧ r = .int .i64 (-1))) := by
  refine WC.of R.ref28_Group0 rfl ?_
  simp only [RC.ref28_Group0, go_sem, h.t.one, h.g.one]
  have hx1 : Ext m (m.new (.cells [.int .i64 w.f, tv, gv] (some 3))) := Ext.new
  have hb1 : Bk (m.new (.cells [.int .i64 w.f, tv, gv] (some 3))) m.next [.int .i64 w.f, tv, gv] 3 := Bk.new
  generalize m.new (.cells [.int .i64 w.f, tv, gv] (some 3)) = m1 at hx1 hb1 ⊢
  have hl := h.gn
  have ht := h.g.keep h.gl hx1
  refine WL.of (fun n e m' => ∃ i : Nat, i ≤ w.G.length ∧ n = w.G.length - i ∧ e = [(1, .int .i64 id), (2, pt m.next), (5, .int .i64 i)] ∧ (∀ j (hj : j < w.G.length), j < i → (w.G[j]).1 ≠ id) ∧ m' = m1) w.G.length
    ⟨0, by omega, by omega, by simp only [go_sem] <;> rfl, fun _ _ h => by omega, rfl⟩ ?_
  rintro _ _ _ ⟨i, hi, rfl, rfl, hj, rfl⟩
  simp only [RB.ref28_Group0_1, pt, go_sem]
  have s1 := st1 (show i < 1000000 by omega)
  by_cases g1 : i < w.G.length
  · have e1 : decide (((i : Nat) : Int) < ((w.G.length : Nat) : Int)) = true := decide_eq_true (by omega)
    obtain ⟨b, o, a1, -, a3, -⟩ := ht.elem spV_len (k := .i64) g1
    have a30 := a3 0 (by omega)
    simp only [spV, List.getElem?_cons_zero, Nat.add_zero] at a30
    by_cases g2 : (w.G[i]).1 = id
    · have e2 : ((w.G[i]).1 == id) = true := by rw [beq_iff_eq]; exact g2
      try simp only [go_sem, ruB, hb1.at_, ht.len, e1, a1, a30, e2]
      exact ⟨hx1, .inl ⟨i, g1, g2, rfl⟩⟩
    · have e2 : ((w.G[i]).1 == id) = false := by rw [beq_eq_false_iff_ne]; exact g2
      try simp only [go_sem, ruB, hb1.at_, ht.len, e1, a1, a30, e2, s1]
      refine ⟨w.G.length - (i + 1), by omega, i + 1, by omega, rfl, rfl, fun j h1 h2 => ?_⟩
      by_cases e : j = i
      · subst e; exact g2
      · exact hj j h1 (by omega)
  · have e1 : decide (((i : Nat) : Int) < ((w.G.length : Nat) : Int)) = false := decide_eq_false (by omega)
    try simp only [go_sem, ruB, hb1.at_, ht.len, e1]
    refine ⟨hx1, .inr fun t ht => ?_⟩
    obtain ⟨j, h1, rfl⟩ := List.mem_iff_getElem.1 ht
    exact hj j h1 (by omega)
def cntL (T : List Tk) (k : Int) : Nat := T.countP fun t => decide (t.grp = k)
theorem refMembers {w : Rr} {tv gv : Value} {k : Int} (h : RrV m w tv gv) : WC R F.ref28_Members [rrA w.f tv gv, .int .i64 k] m fun r m' => Ext m m' ∧ r = .int .i64 ((cntL w.T k : Nat) : Int) := by
  refine WC.of R.ref28_Members rfl ?_
  simp only [RC.ref28_Members, go_sem, h.t.one, h.g.one]
  have hx1 : Ext m (m.new (.cells [.int .i64 w.f, tv, gv] (some 3))) := Ext.new
  have hb1 : Bk (m.new (.cells [.int .i64 w.f, tv, gv] (some 3))) m.next [.int .i64 w.f, tv, gv] 3 := Bk.new
  generalize m.new (.cells [.int .i64 w.f, tv, gv] (some 3)) = m1 at hx1 hb1 ⊢
  have hl := h.tn
  have ht := h.t.keep h.tl hx1
  refine WL.of (fun n e m' => ∃ i : Nat, i ≤ w.T.length ∧ n = w.T.length - i ∧ e = [(1, .int .i64 k), (2, pt m.next), (5, .int .i64 ((cntL (w.T.take i) k : Nat) : Int)), (6, .int .i64 i)] ∧ m' = m1) w.T.length
    ⟨0, by omega, by omega, by simp only [go_sem] <;> rfl, rfl⟩ ?_
  rintro _ _ _ ⟨i, hi, rfl, rfl, rfl⟩
  simp only [RB.ref28_Members_1, pt, go_sem]
  have s1 := st1 (show i < 1000000 by omega)
  have hc : cntL (w.T.take i) k ≤ (w.T.take i).length := List.countP_le_length
  rw [List.length_take] at hc
  have s2 := st1 (show cntL (w.T.take i) k < 1000000 by omega)
  by_cases g1 : i < w.T.length
  · have e1 : decide (((i : Nat) : Int) < ((w.T.length : Nat) : Int)) = true := decide_eq_true (by omega)
    obtain ⟨b, o, a1, -, a3, -⟩ := ht.elem tkV_len (k := .i64) g1
    have a31 := a3 1 (by omega)
    simp only [tkV, List.getElem?_cons_zero, List.getElem?_cons_succ] at a31
    have htk : cntL (w.T.take (i + 1)) k = cntL (w.T.take i) k + if (w.T[i]).grp = k then 1 else 0 := by
      unfold cntL
      rw [List.take_succ_eq_append_getElem g1, List.countP_append, List.countP_singleton]
      simp only [decide_eq_true_eq]
    by_cases g2 : (w.T[i]).grp = k
    · have e2 : ((w.T[i]).grp == k) = true := by rw [beq_iff_eq]; exact g2
      rw [if_pos g2] at htk
      try simp only [go_sem, ruB, hb1.at_, ht.len, e1, a1, a31, e2, s1, s2]
      exact ⟨w.T.length - (i + 1), by omega, i + 1, by omega, rfl, by rw [htk]⟩
    · have e2 : ((w.T[i]).grp == k) = false := by rw [beq_eq_false_iff_ne]; exact g2
      have htk : cntL (w.T.take (i + 1)) k = cntL (w.T.take i) k := by rw [htk, if_neg g2]; rfl
      try simp only [go_sem, ruB, hb1.at_, ht.len, e1, a1, a31, e2, s1]
      exact ⟨w.T.length - (i + 1), by omega, i + 1, by omega, rfl, by rw [htk]⟩
  · have e1 : decide (((i : Nat) : Int) < ((w.T.length : Nat) : Int)) = false := decide_eq_false (by omega)
    have hi2 : i = w.T.length := by omega
    subst hi2
    rw [List.take_length]
    try simp only [go_sem, ruB, hb1.at_, ht.len, e1]
    exact hx1
theorem refShare {w : Rr} {tv gv : Value} {n : Int} (h : RrV m w tv gv) : WC R F.ref28_share [rrA w.f tv gv, .int .i64 n] m fun r m' => Ext m m' ∧ r = .bool (decide (1 ≤ n ∧ n ≤ w.f)) := by
  refine WC.of R.ref28_share rfl ?_
  simp only [RC.ref28_share, go_sem, h.t.one, h.g.one]
  have hx1 : Ext m (m.new (.cells [.int .i64 w.f, tv, gv] (some 3))) := Ext.new
  have hb1 : Bk (m.new (.cells [.int .i64 w.f, tv, gv] (some 3))) m.next [.int .i64 w.f, tv, gv] 3 := Bk.new
  generalize m.new (.cells [.int .i64 w.f, tv, gv] (some 3)) = m1 at hx1 hb1 ⊢
  by_cases h1 : 1 ≤ n
  · by_cases h2 : n ≤ w.f
    · have e : decide (1 ≤ n ∧ n ≤ w.f) = true := decide_eq_true ⟨h1, h2⟩
      try simp only [go_sem, ruB, decide_eq_true h1, decide_eq_true h2, hb1.at_, e]
      exact hx1
    · have e : decide (1 ≤ n ∧ n ≤ w.f) = false := decide_eq_false fun h => h2 h.2
      try simp only [go_sem, ruB, decide_eq_true h1, decide_eq_false h2, hb1.at_, e]
      exact hx1
  · have e : decide (1 ≤ n ∧ n ≤ w.f) = false := decide_eq_false fun h => h1 h.1
    try simp only [go_sem, ruB, decide_eq_false h1, e]
    exact hx1
end Go.Am


/- RosterR2 over the table of ledgerz (relayset.py). -/
set_option linter.unusedVariables false
set_option linter.unusedSimpArgs false
namespace Go.Am
open Classical
variable {m : Mem}

def outT (T : List Tk) (id : Int) : List Tk := T.filter fun t => decide (t.id ≠ id)
def outG (G : List Sp) (id : Int) : List Sp := G.filter fun t => decide (t.1 ≠ id)
theorem outT_take {T : List Tk} {id : Int} {i : Nat} (h : i < T.length) : outT (T.take (i + 1)) id = outT (T.take i) id ++ if T[i].id = id then [] else [T[i]] := by
  unfold outT
  rw [List.take_succ_eq_append_getElem h, List.filter_append]
  by_cases e : T[i].id = id <;> simp [e]
theorem outG_take {T : List Sp} {id : Int} {i : Nat} (h : i < T.length) : outG (T.take (i + 1)) id = outG (T.take i) id ++ if T[i].1 = id then [] else [T[i]] := by
  unfold outG
  rw [List.take_succ_eq_append_getElem h, List.filter_append]
  by_cases e : T[i].1 = id <;> simp [e]
theorem outT_len {T : List Tk} {id : Int} : (outT T id).length ≤ T.length := List.length_filter_le ..
theorem outG_len {T : List Sp} {id : Int} : (outG T id).length ≤ T.length := List.length_filter_le ..

set_option maxHeartbeats 2000000 in
theorem refWith {w : Rr} {tv gv : Value} {t : Tk} (h : RrV m w tv gv) (hl : (outT w.T t.id).length ≤ 99) : WC R F.ref28_with [rrA w.f tv gv, tvA t] m fun r m' => Ext m m' ∧ ∃ tv', r = rrA w.f tv' gv ∧ RrV m' ⟨w.f, outT w.T t.id ++ [t], w.G⟩ tv' gv ∧ ∀ b ∈ vb tv', m.next ≤ b := by
  refine WC.of R.ref28_with rfl ?_
  simp only [RC.ref28_with, tvA, tkV, go_sem, h.t.one, h.g.one]
  have hx1 : Ext m (m.new (.cells [.int .i64 w.f, tv, gv] (some 3))) := Ext.new
  have hb1 : Bk (m.new (.cells [.int .i64 w.f, tv, gv] (some 3))) m.next [.int .i64 w.f, tv, gv] 3 := Bk.new
  have hn1 : (m.new (.cells [.int .i64 w.f, tv, gv] (some 3))).next = m.next + 1 := rfl
  generalize m.new (.cells [.int .i64 w.f, tv, gv] (some 3)) = m1 at hx1 hb1 hn1 ⊢
  have hx2 : Ext m1 (m1.new (.cells [.int .i64 t.id, .int .i64 t.grp, .int .i64 t.share, .int .i64 t.weight, .int .i64 t.cap, .bool t.off] (some 6))) := Ext.new
  have hb2 : Bk (m1.new (.cells [.int .i64 t.id, .int .i64 t.grp, .int .i64 t.share, .int .i64 t.weight, .int .i64 t.cap, .bool t.off] (some 6))) m1.next [.int .i64 t.id, .int .i64 t.grp, .int .i64 t.share, .int .i64 t.weight, .int .i64 t.cap, .bool t.off] 6 := Bk.new
  have hn2 : (m1.new (.cells [.int .i64 t.id, .int .i64 t.grp, .int .i64 t.share, .int .i64 t.weight, .int .i64 t.cap, .bool t.off] (some 6))).next = m1.next + 1 := rfl
  generalize m1.new (.cells [.int .i64 t.id, .int .i64 t.grp, .int .i64 t.share, .int .i64 t.weight, .int .i64 t.cap, .bool t.off] (some 6)) = m2 at hx2 hb2 hn2 ⊢
  have hx3 : Ext m2 (m2.new (.cells [.int .i64 0, .slice none 0 0, .slice none 0 0] (some 3))) := Ext.new
  have hb3 : Bk (m2.new (.cells [.int .i64 0, .slice none 0 0, .slice none 0 0] (some 3))) m2.next [.int .i64 0, .slice none 0 0, .slice none 0 0] 3 := Bk.new
  have hn3 : (m2.new (.cells [.int .i64 0, .slice none 0 0, .slice none 0 0] (some 3))).next = m2.next + 1 := rfl
  generalize m2.new (.cells [.int .i64 0, .slice none 0 0, .slice none 0 0] (some 3)) = m3 at hx3 hb3 hn3 ⊢
  have ho0 : Own m3 (m3.new (.cells [] (some 6))) 6 0 [] (.slice (some ⟨m3.next, 0, none⟩) 0 0) := .at (all := []) (Nat.le_refl _) (by simp [Mem.new]) (Nat.le_refl _) (by simp [Mem.new]) rfl rfl rfl
  have B1 := (hb1.keep hx2).keep hx3
  have B2 := hb2.keep hx3
  have hX := (hx1.trans hx2).trans hx3
  have ht := h.t.keep h.tl hX
  have htl := h.tl.keep hX
  have htn := h.tn
  refine WL.of (fun n e m' => ∃ (i : Nat) (z : Value), i ≤ w.T.length ∧ n = w.T.length - i ∧ e = [(2, pt m.next), (3, pt m1.next), (4, pt m2.next), (5, z), (6, .int .i64 i)] ∧ Own m3 m' 6 (outT (w.T.take i) t.id).length ((outT (w.T.take i) t.id).flatMap tkV) z ∧ Ext m3 m') w.T.length
    ⟨0, _, by omega, by omega, by simp only [go_sem] <;> rfl, ho0, Ext.new⟩ ?_
  rintro _ _ m4 ⟨i, z, hi, rfl, rfl, hz, hx4⟩
  simp only [RB.ref28_with_1, pt, go_sem]
  have s1 := st1 (show i < 1000000 by omega)
  have C1 := B1.keep hx4
  have C2 := B2.keep hx4
  have C3 := hb3.keep hx4
  have hk := ht.keep htl hx4
  have hle := outT_len (T := w.T.take i) (id := t.id)
  rw [List.length_take] at hle
  by_cases g1 : i < w.T.length
  · have e1 : decide (((i : Nat) : Int) < ((w.T.length : Nat) : Int)) = true := decide_eq_true (by omega)
    obtain ⟨b, o, a1, a2, a3, -⟩ := hk.elem tkV_len (k := .i64) g1
    have htk := outT_take (id := t.id) g1
    generalize w.T[i] = x at *
    have a30 := a3 0 (by omega)
    simp only [tkV, List.getElem?_cons_zero, Nat.add_zero] at a30
    simp only [tkV] at a2
    by_cases g2 : x.id = t.id
    · have e2 : (x.id != t.id) = false := by rw [bne_eq_false_iff_eq]; exact g2
      have htk : outT (w.T.take (i + 1)) t.id = outT (w.T.take i) t.id := by rw [htk, if_pos g2, List.append_nil]
      try simp only [go_sem, ruB, C1.at_, C2.at_, C3.at_, hk.len, e1, a1, a30, e2, s1]
      exact ⟨w.T.length - (i + 1), by omega, i + 1, z, by omega, rfl, rfl, by rw [htk]; exact hz, hx4⟩
    · have e2 : (x.id != t.id) = true := by rw [bne_iff_ne]; exact g2
      rw [if_neg g2] at htk
      obtain ⟨v', m5, p1, p2, p3⟩ := hz.app (by_ := 48) (es := tkV x) hx4 (by omega) rfl rfl (by omega) (by omega)
      simp only [tkV] at p1
      try simp only [go_sem, ruB, C1.at_, C2.at_, C3.at_, hk.len, e1, a1, a30, a2, e2, p1, s1]
      refine ⟨w.T.length - (i + 1), by omega, i + 1, v', by omega, rfl, rfl, ?_, p3⟩
      rw [htk, List.length_append, List.flatMap_append]
      simpa using p2
  · have e1 : decide (((i : Nat) : Int) < ((w.T.length : Nat) : Int)) = false := decide_eq_false (by omega)
    have hi2 : i = w.T.length := by omega
    subst hi2
    rw [List.take_length] at hz
    obtain ⟨v', m5, p1, p2, p3⟩ := hz.app (by_ := 48) (es := tkV t) hx4 (by omega) rfl rfl (by omega) (by omega)
    have n3 := hx3.next; have n4 := hx4.next; have n5 := p3.next
    have D1 := B1.keep p3
    have D3 := hb3.keep p3
    have ne1 : (m.next = m2.next) = False := eq_false (by omega)
    have ne2 : (m2.next = m.next) = False := eq_false (by omega)
    have hv1 := p2.sl.one
    have hv2 := p2.sl.cells
    have hv3 := h.g.cells
    simp only [tkV] at p1
    try simp only [go_sem, ruB, C1.at_, C2.at_, C3.at_, hk.len, e1, p1, D1.at_, D3.at_, ne1, ne2, hv1, h.g.one, ↓hv2, ↓hv3]
    have hU : Upd m5 ((m5.set m.next (some (.cells [.int .i64 w.f, v', gv] (some 3)))).set m2.next (some (.cells [.int .i64 w.f, v', gv] (some 3)))) [m.next, m2.next] := (Upd.set (by simp)).sameF (Upd.set (by simp))
    have hE : Ext m ((m5.set m.next (some (.cells [.int .i64 w.f, v', gv] (some 3)))).set m2.next (some (.cells [.int .i64 w.f, v', gv] (some 3)))) := ((hX.trans p3).set (Nat.le_refl _)).set (by omega)
    have q2 := p2.updq hU (fun c hc hm => by have := p2.ge c hc; simp at hm; omega)
    refine ⟨hE, v', rfl, ⟨?_, q2.lt, h.g.keep h.gl hE, h.gl.keep hE, by rw [List.length_append]; simp; omega, h.gn⟩, fun c hc => by have := q2.ge c hc; omega⟩
    rw [List.length_append, List.flatMap_append]
    simpa using q2.sl

set_option maxHeartbeats 2000000 in
theorem refWithout {w : Rr} {tv gv : Value} {id : Int} (h : RrV m w tv gv) : WC R F.ref28_without [rrA w.f tv gv, .int .i64 id] m fun r m' => Ext m m' ∧ ∃ tv', r = rrA w.f tv' gv ∧ RrV m' ⟨w.f, outT w.T id, w.G⟩ tv' gv ∧ ∀ b ∈ vb tv', m.next ≤ b := by
  refine WC.of R.ref28_without rfl ?_
  simp only [RC.ref28_without, go_sem, h.t.one, h.g.one]
  have hx1 : Ext m (m.new (.cells [.int .i64 w.f, tv, gv] (some 3))) := Ext.new
  have hb1 : Bk (m.new (.cells [.int .i64 w.f, tv, gv] (some 3))) m.next [.int .i64 w.f, tv, gv] 3 := Bk.new
  have hn1 : (m.new (.cells [.int .i64 w.f, tv, gv] (some 3))).next = m.next + 1 := rfl
  generalize m.new (.cells [.int .i64 w.f, tv, gv] (some 3)) = m1 at hx1 hb1 hn1 ⊢
  have hx3 : Ext m1 (m1.new (.cells [.int .i64 0, .slice none 0 0, .slice none 0 0] (some 3))) := Ext.new
  have hb3 : Bk (m1.new (.cells [.int .i64 0, .slice none 0 0, .slice none 0 0] (some 3))) m1.next [.int .i64 0, .slice none 0 0, .slice none 0 0] 3 := Bk.new
  have hn3 : (m1.new (.cells [.int .i64 0, .slice none 0 0, .slice none 0 0] (some 3))).next = m1.next + 1 := rfl
  generalize m1.new (.cells [.int .i64 0, .slice none 0 0, .slice none 0 0] (some 3)) = m3 at hx3 hb3 hn3 ⊢
  have ho0 : Own m3 (m3.new (.cells [] (some 6))) 6 0 [] (.slice (some ⟨m3.next, 0, none⟩) 0 0) := .at (all := []) (Nat.le_refl _) (by simp [Mem.new]) (Nat.le_refl _) (by simp [Mem.new]) rfl rfl rfl
  have B1 := hb1.keep hx3
  have hX := hx1.trans hx3
  have ht := h.t.keep h.tl hX
  have htl := h.tl.keep hX
  have htn := h.tn
  refine WL.of (fun n e m' => ∃ (i : Nat) (z : Value), i ≤ w.T.length ∧ n = w.T.length - i ∧ e = [(1, .int .i64 id), (2, pt m.next), (4, pt m1.next), (5, z), (6, .int .i64 i)] ∧ Own m3 m' 6 (outT (w.T.take i) id).length ((outT (w.T.take i) id).flatMap tkV) z ∧ Ext m3 m') w.T.length
    ⟨0, _, by omega, by omega, by simp only [go_sem] <;> rfl, ho0, Ext.new⟩ ?_
  rintro _ _ m4 ⟨i, z, hi, rfl, rfl, hz, hx4⟩
  simp only [RB.ref28_without_1, pt, go_sem]
  have s1 := st1 (show i < 1000000 by omega)
  have C1 := B1.keep hx4
  have C3 := hb3.keep hx4
  have hk := ht.keep htl hx4
  have hle := outT_len (T := w.T.take i) (id := id)
  rw [List.length_take] at hle
  by_cases g1 : i < w.T.length
  · have e1 : decide (((i : Nat) : Int) < ((w.T.length : Nat) : Int)) = true := decide_eq_true (by omega)
    obtain ⟨b, o, a1, a2, a3, -⟩ := hk.elem tkV_len (k := .i64) g1
    have htk := outT_take (id := id) g1
    generalize w.T[i] = x at *
    have a30 := a3 0 (by omega)
    simp only [tkV, List.getElem?_cons_zero, Nat.add_zero] at a30
    simp only [tkV] at a2
    by_cases g2 : x.id = id
    · have e2 : (x.id != id) = false := by rw [bne_eq_false_iff_eq]; exact g2
      have htk : outT (w.T.take (i + 1)) id = outT (w.T.take i) id := by rw [htk, if_pos g2, List.append_nil]
      try simp only [go_sem, ruB, C1.at_, C3.at_, hk.len, e1, a1, a30, e2, s1]
      exact ⟨w.T.length - (i + 1), by omega, i + 1, z, by omega, rfl, rfl, by rw [htk]; exact hz, hx4⟩
    · have e2 : (x.id != id) = true := by rw [bne_iff_ne]; exact g2
      rw [if_neg g2] at htk
      obtain ⟨v', m5, p1, p2, p3⟩ := hz.app (by_ := 48) (es := tkV x) hx4 (by omega) rfl rfl (by omega) (by omega)
      simp only [tkV] at p1
      try simp only [go_sem, ruB, C1.at_, C3.at_, hk.len, e1, a1, a30, a2, e2, p1, s1]
      refine ⟨w.T.length - (i + 1), by omega, i + 1, v', by omega, rfl, rfl, ?_, p3⟩
      rw [htk, List.length_append, List.flatMap_append]
      simpa using p2
  · have e1 : decide (((i : Nat) : Int) < ((w.T.length : Nat) : Int)) = false := decide_eq_false (by omega)
    have hi2 : i = w.T.length := by omega
    subst hi2
    rw [List.take_length] at hz
    have n3 := hx3.next; have n4 := hx4.next
    have ne1 : (m.next = m1.next) = False := eq_false (by omega)
    have ne2 : (m1.next = m.next) = False := eq_false (by omega)
    have hv1 := hz.sl.one
    have hv2 := hz.sl.cells
    have hv3 := h.g.cells
    try simp only [go_sem, ruB, C1.at_, C3.at_, hk.len, e1, ne1, ne2, hv1, h.g.one, ↓hv2, ↓hv3]
    have hU : Upd m4 ((m4.set m.next (some (.cells [.int .i64 w.f, z, gv] (some 3)))).set m1.next (some (.cells [.int .i64 w.f, z, gv] (some 3)))) [m.next, m1.next] := (Upd.set (by simp)).sameF (Upd.set (by simp))
    have hE : Ext m ((m4.set m.next (some (.cells [.int .i64 w.f, z, gv] (some 3)))).set m1.next (some (.cells [.int .i64 w.f, z, gv] (some 3)))) := ((hX.trans hx4).set (Nat.le_refl _)).set (by omega)
    have q2 := hz.updq hU (fun c hc hm => by have := hz.ge c hc; simp at hm; omega)
    exact ⟨hE, z, rfl, ⟨q2.sl, q2.lt, h.g.keep h.gl hE, h.gl.keep hE, by show (outT w.T id).length ≤ 100; have := outT_len (T := w.T) (id := id); omega, h.gn⟩, fun c hc => by have := q2.ge c hc; omega⟩

set_option maxHeartbeats 2000000 in
theorem refGroupWith {w : Rr} {tv gv : Value} {t : Sp} {th : Bool} (h : RrV m w tv gv) (hl : (outG w.G t.1).length ≤ 99) : WC R F.ref28_groupWith [rrA w.f tv gv, .agg #[.int .i64 t.1, .int .i64 t.2], .bool th] m fun r m' => Ext m m' ∧ ∃ gv', r = rrA w.f tv gv' ∧ RrV m' ⟨w.f, w.T, outG w.G t.1 ++ if th then [t] else []⟩ tv gv' ∧ ∀ b ∈ vb gv', m.next ≤ b := by
  refine WC.of R.ref28_groupWith rfl ?_
  simp only [RC.ref28_groupWith, go_sem, h.t.one, h.g.one]
  have hx1 : Ext m (m.new (.cells [.int .i64 w.f, tv, gv] (some 3))) := Ext.new
  have hb1 : Bk (m.new (.cells [.int .i64 w.f, tv, gv] (some 3))) m.next [.int .i64 w.f, tv, gv] 3 := Bk.new
  have hn1 : (m.new (.cells [.int .i64 w.f, tv, gv] (some 3))).next = m.next + 1 := rfl
  generalize m.new (.cells [.int .i64 w.f, tv, gv] (some 3)) = m1 at hx1 hb1 hn1 ⊢
  have hx2 : Ext m1 (m1.new (.cells [.int .i64 t.1, .int .i64 t.2] (some 2))) := Ext.new
  have hb2 : Bk (m1.new (.cells [.int .i64 t.1, .int .i64 t.2] (some 2))) m1.next [.int .i64 t.1, .int .i64 t.2] 2 := Bk.new
  have hn2 : (m1.new (.cells [.int .i64 t.1, .int .i64 t.2] (some 2))).next = m1.next + 1 := rfl
  generalize m1.new (.cells [.int .i64 t.1, .int .i64 t.2] (some 2)) = m2 at hx2 hb2 hn2 ⊢
  have hx3 : Ext m2 (m2.new (.cells [.int .i64 0, .slice none 0 0, .slice none 0 0] (some 3))) := Ext.new
  have hb3 : Bk (m2.new (.cells [.int .i64 0, .slice none 0 0, .slice none 0 0] (some 3))) m2.next [.int .i64 0, .slice none 0 0, .slice none 0 0] 3 := Bk.new
  have hn3 : (m2.new (.cells [.int .i64 0, .slice none 0 0, .slice none 0 0] (some 3))).next = m2.next + 1 := rfl
  generalize m2.new (.cells [.int .i64 0, .slice none 0 0, .slice none 0 0] (some 3)) = m3 at hx3 hb3 hn3 ⊢
  have ho0 : Own m3 (m3.new (.cells [] (some 2))) 2 0 [] (.slice (some ⟨m3.next, 0, none⟩) 0 0) := .at (all := []) (Nat.le_refl _) (by simp [Mem.new]) (Nat.le_refl _) (by simp [Mem.new]) rfl rfl rfl
  have B1 := (hb1.keep hx2).keep hx3
  have B2 := hb2.keep hx3
  have hX := (hx1.trans hx2).trans hx3
  have ht := h.g.keep h.gl hX
  have htl := h.gl.keep hX
  have htn := h.gn
  refine WL.of (fun n e m' => ∃ (i : Nat) (z : Value), i ≤ w.G.length ∧ n = w.G.length - i ∧ e = [(2, .bool th), (3, pt m.next), (4, pt m1.next), (6, pt m2.next), (7, z), (8, .int .i64 i)] ∧ Own m3 m' 2 (outG (w.G.take i) t.1).length ((outG (w.G.take i) t.1).flatMap spV) z ∧ Ext m3 m') w.G.length
    ⟨0, _, by omega, by omega, by simp only [go_sem] <;> rfl, ho0, Ext.new⟩ ?_
  rintro _ _ m4 ⟨i, z, hi, rfl, rfl, hz, hx4⟩
  simp only [RB.ref28_groupWith_1, pt, go_sem]
  have s1 := st1 (show i < 1000000 by omega)
  have C1 := B1.keep hx4
  have C2 := B2.keep hx4
  have C3 := hb3.keep hx4
  have hk := ht.keep htl hx4
  have hle := outG_len (T := w.G.take i) (id := t.1)
  rw [List.length_take] at hle
  by_cases g1 : i < w.G.length
  · have e1 : decide (((i : Nat) : Int) < ((w.G.length : Nat) : Int)) = true := decide_eq_true (by omega)
    obtain ⟨b, o, a1, a2, a3, -⟩ := hk.elem spV_len (k := .i64) g1
    have htk := outG_take (id := t.1) g1
    generalize w.G[i] = x at *
    have a30 := a3 0 (by omega)
    simp only [spV, List.getElem?_cons_zero, Nat.add_zero] at a30
    simp only [spV] at a2
    by_cases g2 : x.1 = t.1
    · have e2 : (x.1 != t.1) = false := by rw [bne_eq_false_iff_eq]; exact g2
      have htk : outG (w.G.take (i + 1)) t.1 = outG (w.G.take i) t.1 := by rw [htk, if_pos g2, List.append_nil]
      try simp only [go_sem, ruB, C1.at_, C2.at_, C3.at_, hk.len, e1, a1, a30, e2, s1]
      exact ⟨w.G.length - (i + 1), by omega, i + 1, z, by omega, rfl, rfl, by rw [htk]; exact hz, hx4⟩
    · have e2 : (x.1 != t.1) = true := by rw [bne_iff_ne]; exact g2
      rw [if_neg g2] at htk
      obtain ⟨v', m5, p1, p2, p3⟩ := hz.app (by_ := 16) (es := spV x) hx4 (by omega) rfl rfl (by omega) (by omega)
      simp only [spV] at p1
      try simp only [go_sem, ruB, C1.at_, C2.at_, C3.at_, hk.len, e1, a1, a30, a2, e2, p1, s1]
      refine ⟨w.G.length - (i + 1), by omega, i + 1, v', by omega, rfl, rfl, ?_, p3⟩
      rw [htk, List.length_append, List.flatMap_append]
      simpa using p2
  · have e1 : decide (((i : Nat) : Int) < ((w.G.length : Nat) : Int)) = false := decide_eq_false (by omega)
    have hi2 : i = w.G.length := by omega
    subst hi2
    rw [List.take_length] at hz
    have n3 := hx3.next; have n4 := hx4.next
    have ne1 : (m.next = m2.next) = False := eq_false (by omega)
    have ne2 : (m2.next = m.next) = False := eq_false (by omega)
    cases th with
    | true =>
      obtain ⟨v', m5, p1, p2, p3⟩ := hz.app (by_ := 16) (es := spV t) hx4 (by omega) rfl rfl (by omega) (by omega)
      have n5 := p3.next
      have D1 := B1.keep p3
      have D3 := hb3.keep p3
      have hv1 := p2.sl.one
      have hv2 := p2.sl.cells
      have hv3 := h.t.cells
      simp only [spV] at p1
      try simp only [go_sem, ruB, C1.at_, C2.at_, C3.at_, hk.len, e1, p1, D1.at_, D3.at_, ne1, ne2, hv1, h.t.one, ↓hv2, ↓hv3]
      have hU : Upd m5 ((m5.set m.next (some (.cells [.int .i64 w.f, tv, v'] (some 3)))).set m2.next (some (.cells [.int .i64 w.f, tv, v'] (some 3)))) [m.next, m2.next] := (Upd.set (by simp)).sameF (Upd.set (by simp))
      have hE : Ext m ((m5.set m.next (some (.cells [.int .i64 w.f, tv, v'] (some 3)))).set m2.next (some (.cells [.int .i64 w.f, tv, v'] (some 3)))) := ((hX.trans p3).set (Nat.le_refl _)).set (by omega)
      have q2 := p2.updq hU (fun c hc hm => by have := p2.ge c hc; simp at hm; omega)
      refine ⟨hE, v', rfl, ⟨h.t.keep h.tl hE, h.tl.keep hE, ?_, q2.lt, h.tn, by rw [List.length_append]; simp; omega⟩, fun c hc => by have := q2.ge c hc; omega⟩
      rw [List.length_append, List.flatMap_append]
      simpa using q2.sl
    | false =>
      have hv1 := hz.sl.one
      have hv2 := hz.sl.cells
      have hv3 := h.t.cells
      try simp only [go_sem, ruB, C1.at_, C2.at_, C3.at_, hk.len, e1, ne1, ne2, hv1, h.t.one, ↓hv2, ↓hv3]
      have hU : Upd m4 ((m4.set m.next (some (.cells [.int .i64 w.f, tv, z] (some 3)))).set m2.next (some (.cells [.int .i64 w.f, tv, z] (some 3)))) [m.next, m2.next] := (Upd.set (by simp)).sameF (Upd.set (by simp))
      have hE : Ext m ((m4.set m.next (some (.cells [.int .i64 w.f, tv, z] (some 3)))).set m2.next (some (.cells [.int .i64 w.f, tv, z] (some 3)))) := ((hX.trans hx4).set (Nat.le_refl _)).set (by omega)
      have q2 := hz.updq hU (fun c hc hm => by have := hz.ge c hc; simp at hm; omega)
      refine ⟨hE, z, rfl, ⟨h.t.keep h.tl hE, h.tl.keep hE, ?_, q2.lt, h.tn, by simp; omega⟩, fun c hc => by have := q2.ge c hc; omega⟩
      simpa using q2.sl
end Go.Am


/- RosterR3 over the table of ledgerz (relayset.py). -/
set_option linter.unusedVariables false
set_option linter.unusedSimpArgs false
namespace Go.Am
open Classical
variable {m : Mem}

structure RRel (s : Rs) (w : Rr) : Prop where
  f : w.f = s.f
  T : (s.T.map Prod.snd).Perm w.T
  G : (s.G.map fun p => (p.1, p.2.share)).Perm w.G

theorem RRel.tl {s : Rs} {w : Rr} (h : RRel s w) : w.T.length = s.T.length := by have := h.T.length_eq; rw [List.length_map] at this; exact this.symm
theorem RRel.gl {s : Rs} {w : Rr} (h : RRel s w) : w.G.length = s.G.length := by have := h.G.length_eq; rw [List.length_map] at this; exact this.symm
theorem RRel.memT {s : Rs} {w : Rr} (h : RRel s w) (k : RsWf s) {t : Tk} : t ∈ w.T ↔ lkp s.T t.id = some t := by
  rw [← h.T.mem_iff, List.mem_map]
  constructor
  · rintro ⟨p, hp, rfl⟩
    rw [k.ti p hp]; exact lkp_mem k.k.tn hp
  · intro hl
    exact ⟨_, lkp_some hl, rfl⟩
theorem RRel.memG {s : Rs} {w : Rr} (h : RRel s w) (k : RsWf s) {p : Sp} : p ∈ w.G ↔ ∃ g, lkp s.G p.1 = some g ∧ g.share = p.2 := by
  rw [← h.G.mem_iff, List.mem_map]
  constructor
  · rintro ⟨q, hq, rfl⟩
    exact ⟨q.2, lkp_mem k.k.gn hq, rfl⟩
  · rintro ⟨g, hl, hs⟩
    exact ⟨_, lkp_some hl, by rw [hs]⟩
theorem RRel.noT {s : Rs} {w : Rr} (h : RRel s w) (k : RsWf s) {id : Int} (hn : ∀ t ∈ w.T, t.id ≠ id) : lkp s.T id = none := by
  cases hl : lkp s.T id with
  | none => rfl
  | some t =>
    have hi := (k.tk hl).2
    exact absurd hi (hn t ((h.memT k).2 (by rw [hi]; exact hl)))
theorem RRel.noG {s : Rs} {w : Rr} (h : RRel s w) (k : RsWf s) {id : Int} (hn : ∀ p ∈ w.G, p.1 ≠ id) : lkp s.G id = none := by
  cases hl : lkp s.G id with
  | none => rfl
  | some g => exact absurd rfl (hn (id, g.share) ((h.memG k).2 ⟨g, hl, rfl⟩))
theorem RRel.cnt {s : Rs} {w : Rr} (h : RRel s w) {k : Int} : cntL w.T k = cntT s.T k := by
  unfold cntL cntT
  rw [← h.T.countP_eq, List.countP_map]; rfl
theorem RRel.mem {s : Rs} {w : Rr} (h : RRel s w) (k : RsWf s) {j : Int} {g : Gp} (hl : lkp s.G j = some g) : ((cntL w.T j : Nat) : Int) = g.mem := by
  rw [h.cnt]; exact (k.mem _ (lkp_some hl)).symm
theorem RRel.out {s : Rs} {w : Rr} (h : RRel s w) (k : RsWf s) {id : Int} : ((outK s.T id).map Prod.snd).Perm (outT w.T id) := by
  have e : (outK s.T id).map Prod.snd = outT (s.T.map Prod.snd) id := by
    unfold outK outT
    rw [List.filter_map]
    congr 1
    refine List.filter_congr fun p hp => ?_
    show decide (p.1 ≠ id) = decide (p.2.id ≠ id)
    rw [k.ti p hp]
  rw [e]
  exact h.T.filter _
theorem RRel.outG {s : Rs} {w : Rr} (h : RRel s w) {id : Int} : ((outK s.G id).map fun p => (p.1, p.2.share)).Perm (outG w.G id) := by
  have e : ((outK s.G id).map fun p => (p.1, p.2.share)) = Go.Am.outG (s.G.map fun p => (p.1, p.2.share)) id := by
    unfold outK Go.Am.outG
    rw [List.filter_map]; rfl
  rw [e]
  exact h.G.filter _
theorem RRel.put {s : Rs} {w : Rr} (h : RRel s w) (k : RsWf s) {id : Int} {t : Tk} (ht : t.id = id) {G' : List (Int × Gp)} (hG : (G'.map fun p => (p.1, p.2.share)).Perm w.G) : RRel ⟨s.f, updL s.T id t, G'⟩ ⟨w.f, outT w.T t.id ++ [t], w.G⟩ := by
  refine ⟨h.f, ?_, hG⟩
  have := (updL_perm k.k.tn (x := id) (a := t)).map Prod.snd
  rw [List.map_append] at this
  rw [ht]
  exact this.trans ((h.out k).append_right _)
theorem RRel.del {s : Rs} {w : Rr} (h : RRel s w) (k : RsWf s) {id : Int} {G' : List (Int × Gp)} (hG : (G'.map fun p => (p.1, p.2.share)).Perm w.G) : RRel ⟨s.f, delL s.T id, G'⟩ ⟨w.f, outT w.T id, w.G⟩ := by
  refine ⟨h.f, ?_, hG⟩
  show ((delL s.T id).map Prod.snd).Perm _
  rw [delL_eq k.k.tn]
  exact h.out k
theorem RRel.putG {s : Rs} {w : Rr} (h : RRel s w) (k : RsWf s) {id : Int} {g : Gp} : RRel ⟨s.f, s.T, updL s.G id g⟩ ⟨w.f, w.T, Go.Am.outG w.G id ++ if true then [(id, g.share)] else []⟩ := by
  refine ⟨h.f, h.T, ?_⟩
  have := (updL_perm k.k.gn (x := id) (a := g)).map fun p => (p.1, p.2.share)
  rw [List.map_append] at this
  exact this.trans (h.outG.append_right _)
theorem RRel.delG {s : Rs} {w : Rr} (h : RRel s w) (k : RsWf s) {id : Int} {x : Sp} : RRel ⟨s.f, s.T, delL s.G id⟩ ⟨w.f, w.T, Go.Am.outG w.G id ++ if false then [x] else []⟩ := by
  refine ⟨h.f, h.T, ?_⟩
  show ((delL s.G id).map fun p => (p.1, p.2.share)).Perm (Go.Am.outG w.G id ++ [])
  rw [delL_eq k.k.gn, List.append_nil]
  exact h.outG
theorem cntU_map {G : List (Int × Gp)} {k b : Int} : (cntU G k b).map (fun p => (p.1, p.2.share)) = G.map fun p => (p.1, p.2.share) := by
  unfold cntU
  cases hl : lkp G k with
  | none => rfl
  | some g =>
    simp only []
    generalize g.mem + b = n
    induction G with
    | nil => cases hl
    | cons p r ih =>
      obtain ⟨j, a⟩ := p
      simp only [lkp] at hl
      unfold updL
      by_cases e : j = k
      · rw [if_pos e] at hl ⊢; cases hl; rw [List.map_cons, List.map_cons, e]
      · rw [if_neg e] at hl ⊢; rw [List.map_cons, List.map_cons, ih hl]
theorem RRel.cntU {s : Rs} {w : Rr} (h : RRel s w) {k b : Int} : ((cntU s.G k b).map fun p => (p.1, p.2.share)).Perm w.G := by rw [cntU_map]; exact h.G

theorem refFindR {s : Rs} {w : Rr} {tv gv : Value} {id : Int} (h : RrV m w tv gv) (r : RRel s w) (k : RsWf s) : WC R F.ref28_find [rrA w.f tv gv, .int .i64 id] m fun v m' => Ext m m' ∧ ((∃ (i : Nat) (hi : i < w.T.length), lkp s.T id = some w.T[i] ∧ v = .int .i64 ((i : Nat) : Int)) ∨ (lkp s.T id = none ∧ v = .int .i64 (-1))) := by
  refine WC.mono (refFind28 h) ?_
  rintro v m' ⟨hx, ⟨i, hi, e, rfl⟩ | ⟨hn, rfl⟩⟩
  · exact ⟨hx, .inl ⟨i, hi, by have := (r.memT k).1 (List.getElem_mem hi); rw [e] at this; exact this, rfl⟩⟩
  · exact ⟨hx, .inr ⟨r.noT k hn, rfl⟩⟩
theorem refGroupR {s : Rs} {w : Rr} {tv gv : Value} {id : Int} (h : RrV m w tv gv) (r : RRel s w) (k : RsWf s) : WC R F.ref28_Group0 [rrA w.f tv gv, .int .i64 id] m fun v m' => Ext m m' ∧ ((∃ (i : Nat) (hi : i < w.G.length) (g : Gp), lkp s.G id = some g ∧ w.G[i] = (id, g.share) ∧ v = .int .i64 ((i : Nat) : Int)) ∨ (lkp s.G id = none ∧ v = .int .i64 (-1))) := by
  refine WC.mono (refGroup0 h) ?_
  rintro v m' ⟨hx, ⟨i, hi, e, rfl⟩ | ⟨hn, rfl⟩⟩
  · obtain ⟨g, h1, h2⟩ := (r.memG k).1 (List.getElem_mem hi)
    rw [e] at h1
    exact ⟨hx, .inl ⟨i, hi, g, h1, by rw [h2, ← e], rfl⟩⟩
  · exact ⟨hx, .inr ⟨r.noG k hn, rfl⟩⟩

def New (m : Mem) (v v' : Value) : Prop := v' = v ∨ ∀ b ∈ vb v', m.next ≤ b
/-- What a command of the document leaves. -/
def DoP (m : Mem) (tv gv : Value) (X : Rs × Int) (r : Value) (m' : Mem) : Prop := Ext m m' ∧ ∃ tv' gv' w', r = .tuple #[rrA w'.f tv' gv', .int .i64 X.2] ∧ RrV m' w' tv' gv' ∧ RRel X.1 w' ∧ New m tv tv' ∧ New m gv gv'
theorem New.off {m M : Mem} {v v' : Value} (h : New M v v') (hl : SlLt m v) {q : Nat} (hq : m.next ≤ q) (hq2 : q < M.next) : SlOff [q] v' := by
  refine SlOff.vb_iff.2 fun x hx hm => ?_
  rw [List.mem_singleton] at hm
  rcases h with rfl | h
  · have := SlLt.vb_iff.1 hl x hx; omega
  · have := h x hx; omega
theorem DoP.fin {m M M' : Mem} {w w' : Rr} {X : Rs × Int} {tv gv tv' gv' : Value} {q : Nat} {E F : Int} {o : Option AObj} (h : RrV m w tv gv) (k : RrV M' w' tv' gv') (hF : w'.f = F) (hx : Ext m M') (hq : m.next ≤ q) (hq2 : q < M.next)
    (ht : New M tv tv') (hg : New M gv gv') (hr : RRel X.1 w') (hE : X.2 = E) : DoP m tv gv X (.tuple #[.agg #[.int .i64 F, tv', gv'], .int .i64 E]) (M'.set q o) := by
  subst hF
  have hU : Upd M' (M'.set q o) [q] := Upd.set (by simp)
  have hm : m.next ≤ M.next := by omega
  refine ⟨hx.set hq, tv', gv', w', by rw [hE], ⟨k.t.upd k.tl (ht.off h.tl hq hq2) hU, k.tl.upd hU, k.g.upd k.gl (hg.off h.gl hq hq2) hU, k.gl.upd hU, k.tn, k.gn⟩, hr, ?_, ?_⟩
  · exact ht.imp_right fun h b hb => Nat.le_trans hm (h b hb)
  · exact hg.imp_right fun h b hb => Nat.le_trans hm (h b hb)
end Go.Am


/- RosterR4 over the table of ledgerz (relayset.py). -/
set_option linter.unusedVariables false
set_option linter.unusedSimpArgs false
namespace Go.Am
open Classical
variable {m : Mem}

theorem arrive_id {s : Rs} {id sh : Int} (h : ¬ (1 ≤ id ∧ id ≤ 200)) : arriveS s id sh = (s, 20) := by
  have : freshE s id = 20 := by unfold freshE; rw [if_pos h]
  unfold arriveS; rw [this, if_pos (by omega)]
theorem arrive_twice {s : Rs} {id sh : Int} (h : 1 ≤ id ∧ id ≤ 200) {t : Tk} (hl : lkp s.T id = some t) : arriveS s id sh = (s, 11) := by
  have : freshE s id = 11 := by unfold freshE; rw [if_neg (fun k => k h), if_pos (show id ∈ kys s.T from List.mem_map.2 ⟨_, lkp_some hl, rfl⟩)]
  unfold arriveS; rw [this, if_pos (by omega)]
theorem fresh_ok {s : Rs} {id : Int} (h : 1 ≤ id ∧ id ≤ 200) (hl : lkp s.T id = none) : freshE s id = 0 := by
  unfold freshE; rw [if_neg (fun k => k h), if_neg (lkp_none hl)]
theorem arrive_go {s : Rs} {id sh : Int} (h : 1 ≤ id ∧ id ≤ 200) (hl : lkp s.T id = none) : arriveS s id sh = if ¬ shOk s sh then (s, 21) else if 96 ≤ s.T.length then (s, 13) else ({ s with T := updL s.T id ⟨id, 0, sh, 0, 0, false⟩ }, 0) := by
  unfold arriveS; rw [fresh_ok h hl, if_neg (by omega)]

set_option maxHeartbeats 4000000 in
theorem refTasks1 {s : Rs} {w : Rr} {tv gv : Value} {id grp sh wt cap co n : Int} (h : RrV m w tv gv) (r : RRel s w) (k : RsWf s) : WC R F.ref28_tasks [rrA w.f tv gv, .agg (cmV ⟨1, id, grp, sh, wt, cap, co, n⟩).toArray] m (DoP m tv gv (arriveS s id sh)) := by
  refine WC.of R.ref28_tasks rfl ?_
  simp only [RC.ref28_tasks, cmV, go_sem, h.t.one, h.g.one]
  have hx1 : Ext m (m.new (.cells [.int .i64 w.f, tv, gv] (some 3))) := Ext.new
  have hb1 : Bk (m.new (.cells [.int .i64 w.f, tv, gv] (some 3))) m.next [.int .i64 w.f, tv, gv] 3 := Bk.new
  have hn1 : (m.new (.cells [.int .i64 w.f, tv, gv] (some 3))).next = m.next + 1 := rfl
  generalize m.new (.cells [.int .i64 w.f, tv, gv] (some 3)) = m1 at hx1 hb1 hn1 ⊢
  have hx2 : Ext m1 (m1.new (.cells [.int .i64 1, .int .i64 id, .int .i64 grp, .int .i64 sh, .int .i64 wt, .int .i64 cap, .int .i64 co, .int .i64 n] (some 8))) := Ext.new
  have hb2 : Bk (m1.new (.cells [.int .i64 1, .int .i64 id, .int .i64 grp, .int .i64 sh, .int .i64 wt, .int .i64 cap, .int .i64 co, .int .i64 n] (some 8))) m1.next [.int .i64 1, .int .i64 id, .int .i64 grp, .int .i64 sh, .int .i64 wt, .int .i64 cap, .int .i64 co, .int .i64 n] 8 := Bk.new
  have hn2 : (m1.new (.cells [.int .i64 1, .int .i64 id, .int .i64 grp, .int .i64 sh, .int .i64 wt, .int .i64 cap, .int .i64 co, .int .i64 n] (some 8))).next = m1.next + 1 := rfl
  generalize m1.new (.cells [.int .i64 1, .int .i64 id, .int .i64 grp, .int .i64 sh, .int .i64 wt, .int .i64 cap, .int .i64 co, .int .i64 n] (some 8)) = m2 at hx2 hb2 hn2 ⊢
  have hx3 : Ext m2 (m2.new (.cells [.int .i64 0, .slice none 0 0, .slice none 0 0] (some 3))) := Ext.new
  have hb3 : Bk (m2.new (.cells [.int .i64 0, .slice none 0 0, .slice none 0 0] (some 3))) m2.next [.int .i64 0, .slice none 0 0, .slice none 0 0] 3 := Bk.new
  have hn3 : (m2.new (.cells [.int .i64 0, .slice none 0 0, .slice none 0 0] (some 3))).next = m2.next + 1 := rfl
  generalize m2.new (.cells [.int .i64 0, .slice none 0 0, .slice none 0 0] (some 3)) = m3 at hx3 hb3 hn3 ⊢
  have B1 := (hb1.keep hx2).keep hx3
  have B2 := hb2.keep hx3
  have hX := (hx1.trans hx2).trans hx3
  have n3 := hX.next
  try simp only [go_sem, ruB, B1.at_, B2.at_]
  refine gC.of (refFindR (h.keep hX) r k) ?_
  rintro v m4 ⟨hx4, hv⟩
  have hX4 := hX.trans hx4
  have n4 := hx4.next
  have C1 := B1.keep hx4
  have C2 := B2.keep hx4
  have C3 := hb3.keep hx4
  have e11 : ((1 : Int) == 1) = true := rfl
  have ne1 : (m.next = m2.next) = False := eq_false (by omega)
  have ne2 : (m2.next = m.next) = False := eq_false (by omega)
  have ct := h.t.cells
  have cg := h.g.cells
  have same : ∀ {M : Mem} {E : Int} {o : Option AObj}, Ext m M → m2.next < M.next → arriveS s id sh = (s, E) → DoP m tv gv (arriveS s id sh) (.tuple #[.agg #[.int .i64 w.f, tv, gv], .int .i64 E]) (M.set m2.next o) := fun hM hq he => DoP.fin h (h.keep hM) rfl hM (by omega) hq (.inl rfl) (.inl rfl) (by rw [he]; exact r) (by rw [he])
  by_cases g1 : 1 ≤ id
  · have e1 : decide (id < 1) = false := decide_eq_false (by omega)
    by_cases g2 : id ≤ 200
    · have e2 : decide (200 < id) = false := decide_eq_false (by omega)
      rcases hv with ⟨i, hi, hl, rfl⟩ | ⟨hl, rfl⟩
      · have e3 : decide ((0 : Int) ≤ ((i : Nat) : Int)) = true := decide_eq_true (by omega)
        try simp only [go_sem, ruB, C1.at_, C2.at_, C3.at_, e11, e1, e2, e3, ne1, ne2, ↓ct, ↓cg, h.t.one, h.g.one]
        exact same hX4 (by omega) (arrive_twice ⟨g1, g2⟩ hl)
      · have e3 : decide ((0 : Int) ≤ -1) = false := rfl
        have hX' := arrive_go (sh := sh) ⟨g1, g2⟩ hl
        try simp only [go_sem, ruB, C1.at_, C2.at_, C3.at_, e11, e1, e2, e3, ne1, ne2, ↓ct, ↓cg, h.t.one, h.g.one]
        refine gC.of (refShare (h.keep hX4)) ?_
        rintro _ m5 ⟨hx5, rfl⟩
        have hX5 := hX4.trans hx5
        have n5 := hx5.next
        have D1 := C1.keep hx5
        have D2 := C2.keep hx5
        have D3 := C3.keep hx5
        by_cases g3 : 1 ≤ sh ∧ sh ≤ w.f
        · have hs : shOk s sh := by unfold shOk; rw [← r.f]; exact g3
          rw [if_neg (fun h => h hs)] at hX'
          have hlt := h.t.len
          by_cases g4 : 96 ≤ s.T.length
          · rw [if_pos g4] at hX'
            have e4 : decide ((96 : Int) ≤ ((w.T.length : Nat) : Int)) = true := decide_eq_true (by have := r.tl; omega)
            try simp only [go_sem, ruB, decide_eq_true g3, D1.at_, D2.at_, D3.at_, hlt, e4, ne1, ne2, ↓ct, ↓cg, h.t.one, h.g.one]
            exact same hX5 (by omega) hX'
          · rw [if_neg g4] at hX'
            have e4 : decide ((96 : Int) ≤ ((w.T.length : Nat) : Int)) = false := decide_eq_false (by have := r.tl; omega)
            try simp only [go_sem, ruB, decide_eq_true g3, D1.at_, D2.at_, D3.at_, hlt, e4, ne1, ne2, ↓ct, ↓cg, h.t.one, h.g.one, ↓kfill_t1]
            refine gC.of (refWith (t := ⟨id, 0, sh, 0, 0, false⟩) (h.keep hX5) (by have := outT_len (T := w.T) (id := id); have := r.tl; show (outT w.T id).length ≤ 99; omega)) ?_
            rintro _ m6 ⟨hx6, tv', rfl, hv6, hf6⟩
            have F3 := D3.keep hx6
            have ct' := hv6.t.cells
            try simp only [go_sem, ruB, F3.at_, ↓ct', ↓cg, hv6.t.one, h.g.one]
            refine DoP.fin h hv6 rfl (hX5.trans hx6) (by omega) (show m2.next < m5.next by omega) (.inr hf6) (.inl rfl) ?_ (by rw [hX'])
            rw [hX']
            exact r.put (id := id) (t := ⟨id, 0, sh, 0, 0, false⟩) k rfl r.G
        · have hs : ¬ shOk s sh := by unfold shOk; rw [← r.f]; exact g3
          rw [if_pos hs] at hX'
          try simp only [go_sem, ruB, decide_eq_false g3, D1.at_, D2.at_, D3.at_, ne1, ne2, ↓ct, ↓cg, h.t.one, h.g.one]
          exact same hX5 (by omega) hX'
    · have e2 : decide (200 < id) = true := decide_eq_true (by omega)
      try simp only [go_sem, ruB, C1.at_, C2.at_, C3.at_, e11, e1, e2, ne1, ne2, ↓ct, ↓cg, h.t.one, h.g.one]
      exact same hX4 (by omega) (arrive_id (by omega))
  · have e1 : decide (id < 1) = true := decide_eq_true (by omega)
    try simp only [go_sem, ruB, C1.at_, C2.at_, C3.at_, e11, e1, ne1, ne2, ↓ct, ↓cg, h.t.one, h.g.one]
    exact same hX4 (by omega) (arrive_id (by omega))
end Go.Am


/- RosterR5 over the table of ledgerz (relayset.py). -/
set_option linter.unusedVariables false
set_option linter.unusedSimpArgs false
namespace Go.Am
open Classical
variable {m : Mem}

set_option maxHeartbeats 4000000 in
theorem refTasks2 {s : Rs} {w : Rr} {tv gv : Value} {id grp sh wt cap co n : Int} (h : RrV m w tv gv) (r : RRel s w) (k : RsWf s) : WC R F.ref28_tasks [rrA w.f tv gv, .agg (cmV ⟨2, id, grp, sh, wt, cap, co, n⟩).toArray] m (DoP m tv gv (departS s id)) := by
  refine WC.of R.ref28_tasks rfl ?_
  simp only [RC.ref28_tasks, cmV, go_sem, h.t.one, h.g.one]
  have hx1 : Ext m (m.new (.cells [.int .i64 w.f, tv, gv] (some 3))) := Ext.new
  have hb1 : Bk (m.new (.cells [.int .i64 w.f, tv, gv] (some 3))) m.next [.int .i64 w.f, tv, gv] 3 := Bk.new
  have hn1 : (m.new (.cells [.int .i64 w.f, tv, gv] (some 3))).next = m.next + 1 := rfl
  generalize m.new (.cells [.int .i64 w.f, tv, gv] (some 3)) = m1 at hx1 hb1 hn1 ⊢
  have hx2 : Ext m1 (m1.new (.cells [.int .i64 2, .int .i64 id, .int .i64 grp, .int .i64 sh, .int .i64 wt, .int .i64 cap, .int .i64 co, .int .i64 n] (some 8))) := Ext.new
  have hb2 : Bk (m1.new (.cells [.int .i64 2, .int .i64 id, .int .i64 grp, .int .i64 sh, .int .i64 wt, .int .i64 cap, .int .i64 co, .int .i64 n] (some 8))) m1.next [.int .i64 2, .int .i64 id, .int .i64 grp, .int .i64 sh, .int .i64 wt, .int .i64 cap, .int .i64 co, .int .i64 n] 8 := Bk.new
  have hn2 : (m1.new (.cells [.int .i64 2, .int .i64 id, .int .i64 grp, .int .i64 sh, .int .i64 wt, .int .i64 cap, .int .i64 co, .int .i64 n] (some 8))).next = m1.next + 1 := rfl
  generalize m1.new (.cells [.int .i64 2, .int .i64 id, .int .i64 grp, .int .i64 sh, .int .i64 wt, .int .i64 cap, .int .i64 co, .int .i64 n] (some 8)) = m2 at hx2 hb2 hn2 ⊢
  have hx3 : Ext m2 (m2.new (.cells [.int .i64 0, .slice none 0 0, .slice none 0 0] (some 3))) := Ext.new
  have hb3 : Bk (m2.new (.cells [.int .i64 0, .slice none 0 0, .slice none 0 0] (some 3))) m2.next [.int .i64 0, .slice none 0 0, .slice none 0 0] 3 := Bk.new
  have hn3 : (m2.new (.cells [.int .i64 0, .slice none 0 0, .slice none 0 0] (some 3))).next = m2.next + 1 := rfl
  generalize m2.new (.cells [.int .i64 0, .slice none 0 0, .slice none 0 0] (some 3)) = m3 at hx3 hb3 hn3 ⊢
  have B1 := (hb1.keep hx2).keep hx3
  have B2 := hb2.keep hx3
  have hX := (hx1.trans hx2).trans hx3
  have n3 := hX.next
  have ne1 : (m.next = m2.next) = False := eq_false (by omega)
  have ne2 : (m2.next = m.next) = False := eq_false (by omega)
  have ct := h.t.cells
  have cg := h.g.cells
  have same : ∀ {M : Mem} {E : Int} {o : Option AObj}, Ext m M → m2.next < M.next → departS s id = (s, E) → DoP m tv gv (departS s id) (.tuple #[.agg #[.int .i64 w.f, tv, gv], .int .i64 E]) (M.set m2.next o) := fun hM hq he => DoP.fin h (h.keep hM) rfl hM (by omega) hq (.inl rfl) (.inl rfl) (by rw [he]; exact r) (by rw [he])
  try simp only [go_sem, ruB, B1.at_, B2.at_]
  refine gC.of (refFindR (h.keep hX) r k) ?_
  rintro v m4 ⟨hx4, hv⟩
  have hX4 := hX.trans hx4
  have n4 := hx4.next
  have C1 := B1.keep hx4
  have C2 := B2.keep hx4
  have C3 := hb3.keep hx4
  have f1 : ((2 : Int) == 1) = false := rfl
  have f2 : ((2 : Int) == 2) = true := rfl
  rcases hv with ⟨i, hi, hl, rfl⟩ | ⟨hl, rfl⟩
  rotate_left
  · have e3 : decide ((-1 : Int) < 0) = true := rfl
    try simp only [go_sem, ruB, C1.at_, C2.at_, C3.at_, f1, e3, ne1, ne2, ↓ct, ↓cg, h.t.one, h.g.one]
    exact same hX4 (by omega) (by unfold departS; rw [hl])
  have e3 : decide (((i : Nat) : Int) < 0) = false := decide_eq_false (by omega)
  obtain ⟨bb, oo, a1, a2, -, -⟩ := (h.t.keep h.tl hX4).elem tkV_len (k := .i64) hi
  generalize w.T[i] = t at *
  obtain ⟨ht, hid⟩ := k.tk hl
  have hlen := r.tl
  have hltl := k.k.tl
  have hout := outT_len (T := w.T) (id := id)
  simp only [tkV] at a2
  have hX' : departS s id = ({ s with G := cntU s.G t.grp (-1), T := delL s.T id }, 0) := by unfold departS; rw [hl]
  have n71 : (m.next = m4.next) = False := eq_false (by omega)
  have n72 : (m1.next = m4.next) = False := eq_false (by omega)
  have n73 : (m2.next = m4.next) = False := eq_false (by omega)
  try simp only [go_sem, ruB, C1.at_, C2.at_, C3.at_, f1, e3, a1, a2, n71, n72, n73]
  have hx5 : Ext m4 (m4.new (.cells [.int .i64 t.id, .int .i64 t.grp, .int .i64 t.share, .int .i64 t.weight, .int .i64 t.cap, .bool t.off] (some 6))) := Ext.new
  have hb5 : Bk (m4.new (.cells [.int .i64 t.id, .int .i64 t.grp, .int .i64 t.share, .int .i64 t.weight, .int .i64 t.cap, .bool t.off] (some 6))) m4.next [.int .i64 t.id, .int .i64 t.grp, .int .i64 t.share, .int .i64 t.weight, .int .i64 t.cap, .bool t.off] 6 := Bk.new
  have hn5 : (m4.new (.cells [.int .i64 t.id, .int .i64 t.grp, .int .i64 t.share, .int .i64 t.weight, .int .i64 t.cap, .bool t.off] (some 6))).next = m4.next + 1 := rfl
  generalize m4.new (.cells [.int .i64 t.id, .int .i64 t.grp, .int .i64 t.share, .int .i64 t.weight, .int .i64 t.cap, .bool t.off] (some 6)) = m5 at hx5 hb5 hn5 ⊢
  have hX5 := hX4.trans hx5
  have n5 := hx5.next
  have D1 := C1.keep hx5
  have D2 := C2.keep hx5
  have D3 := C3.keep hx5
  try simp only [go_sem, ruB, D1.at_, D2.at_, f2]
  refine gC.of (refWithout (id := id) (h.keep hX5)) ?_
  rintro _ m8 ⟨hx8, tv', rfl, hv8, hf8⟩
  have F3 := D3.keep hx8
  have ct' := hv8.t.cells
  try simp only [go_sem, ruB, F3.at_, ↓ct', ↓cg, hv8.t.one, h.g.one]
  refine DoP.fin h hv8 rfl (hX5.trans hx8) (by omega) (show m2.next < m5.next by omega) (.inr hf8) (.inl rfl) ?_ (by rw [hX'])
  rw [hX']
  exact r.del (id := id) k r.cntU

set_option maxHeartbeats 4000000 in
theorem refTasks3 {s : Rs} {w : Rr} {tv gv : Value} {id grp sh wt cap co n : Int} (h : RrV m w tv gv) (r : RRel s w) (k : RsWf s) : WC R F.ref28_tasks [rrA w.f tv gv, .agg (cmV ⟨3, id, grp, sh, wt, cap, co, n⟩).toArray] m (DoP m tv gv (reweightS s id sh)) := by
  refine WC.of R.ref28_tasks rfl ?_
  simp only [RC.ref28_tasks, cmV, go_sem, h.t.one, h.g.one]
  have hx1 : Ext m (m.new (.cells [.int .i64 w.f, tv, gv] (some 3))) := Ext.new
  have hb1 : Bk (m.new (.cells [.int .i64 w.f, tv, gv] (some 3))) m.next [.int .i64 w.f, tv, gv] 3 := Bk.new
  have hn1 : (m.new (.cells [.int .i64 w.f, tv, gv] (some 3))).next = m.next + 1 := rfl
  generalize m.new (.cells [.int .i64 w.f, tv, gv] (some 3)) = m1 at hx1 hb1 hn1 ⊢
  have hx2 : Ext m1 (m1.new (.cells [.int .i64 3, .int .i64 id, .int .i64 grp, .int .i64 sh, .int .i64 wt, .int .i64 cap, .int .i64 co, .int .i64 n] (some 8))) := Ext.new
  have hb2 : Bk (m1.new (.cells [.int .i64 3, .int .i64 id, .int .i64 grp, .int .i64 sh, .int .i64 wt, .int .i64 cap, .int .i64 co, .int .i64 n] (some 8))) m1.next [.int .i64 3, .int .i64 id, .int .i64 grp, .int .i64 sh, .int .i64 wt, .int .i64 cap, .int .i64 co, .int .i64 n] 8 := Bk.new
  have hn2 : (m1.new (.cells [.int .i64 3, .int .i64 id, .int .i64 grp, .int .i64 sh, .int .i64 wt, .int .i64 cap, .int .i64 co, .int .i64 n] (some 8))).next = m1.next + 1 := rfl
  generalize m1.new (.cells [.int .i64 3, .int .i64 id, .int .i64 grp, .int .i64 sh, .int .i64 wt, .int .i64 cap, .int .i64 co, .int .i64 n] (some 8)) = m2 at hx2 hb2 hn2 ⊢
  have hx3 : Ext m2 (m2.new (.cells [.int .i64 0, .slice none 0 0, .slice none 0 0] (some 3))) := Ext.new
  have hb3 : Bk (m2.new (.cells [.int .i64 0, .slice none 0 0, .slice none 0 0] (some 3))) m2.next [.int .i64 0, .slice none 0 0, .slice none 0 0] 3 := Bk.new
  have hn3 : (m2.new (.cells [.int .i64 0, .slice none 0 0, .slice none 0 0] (some 3))).next = m2.next + 1 := rfl
  generalize m2.new (.cells [.int .i64 0, .slice none 0 0, .slice none 0 0] (some 3)) = m3 at hx3 hb3 hn3 ⊢
  have B1 := (hb1.keep hx2).keep hx3
  have B2 := hb2.keep hx3
  have hX := (hx1.trans hx2).trans hx3
  have n3 := hX.next
  have ne1 : (m.next = m2.next) = False := eq_false (by omega)
  have ne2 : (m2.next = m.next) = False := eq_false (by omega)
  have ct := h.t.cells
  have cg := h.g.cells
  have same : ∀ {M : Mem} {E : Int} {o : Option AObj}, Ext m M → m2.next < M.next → reweightS s id sh = (s, E) → DoP m tv gv (reweightS s id sh) (.tuple #[.agg #[.int .i64 w.f, tv, gv], .int .i64 E]) (M.set m2.next o) := fun hM hq he => DoP.fin h (h.keep hM) rfl hM (by omega) hq (.inl rfl) (.inl rfl) (by rw [he]; exact r) (by rw [he])
  try simp only [go_sem, ruB, B1.at_, B2.at_]
  refine gC.of (refFindR (h.keep hX) r k) ?_
  rintro v m4 ⟨hx4, hv⟩
  have hX4 := hX.trans hx4
  have n4 := hx4.next
  have C1 := B1.keep hx4
  have C2 := B2.keep hx4
  have C3 := hb3.keep hx4
  have f1 : ((3 : Int) == 1) = false := rfl
  have f2 : ((3 : Int) == 2) = false := rfl
  have f3 : ((3 : Int) == 3) = true := rfl
  rcases hv with ⟨i, hi, hl, rfl⟩ | ⟨hl, rfl⟩
  rotate_left
  · have e3 : decide ((-1 : Int) < 0) = true := rfl
    try simp only [go_sem, ruB, C1.at_, C2.at_, C3.at_, f1, e3, ne1, ne2, ↓ct, ↓cg, h.t.one, h.g.one]
    exact same hX4 (by omega) (by unfold reweightS; rw [hl])
  have e3 : decide (((i : Nat) : Int) < 0) = false := decide_eq_false (by omega)
  obtain ⟨bb, oo, a1, a2, -, -⟩ := (h.t.keep h.tl hX4).elem tkV_len (k := .i64) hi
  generalize w.T[i] = t at *
  obtain ⟨ht, hid⟩ := k.tk hl
  have hlen := r.tl
  have hltl := k.k.tl
  have hout := outT_len (T := w.T) (id := id)
  simp only [tkV] at a2
  have n71 : (m.next = m4.next) = False := eq_false (by omega)
  have n72 : (m1.next = m4.next) = False := eq_false (by omega)
  have n73 : (m2.next = m4.next) = False := eq_false (by omega)
  try simp only [go_sem, ruB, C1.at_, C2.at_, C3.at_, f1, e3, a1, a2, n71, n72, n73]
  have hx5 : Ext m4 (m4.new (.cells [.int .i64 t.id, .int .i64 t.grp, .int .i64 t.share, .int .i64 t.weight, .int .i64 t.cap, .bool t.off] (some 6))) := Ext.new
  have hb5 : Bk (m4.new (.cells [.int .i64 t.id, .int .i64 t.grp, .int .i64 t.share, .int .i64 t.weight, .int .i64 t.cap, .bool t.off] (some 6))) m4.next [.int .i64 t.id, .int .i64 t.grp, .int .i64 t.share, .int .i64 t.weight, .int .i64 t.cap, .bool t.off] 6 := Bk.new
  have hn5 : (m4.new (.cells [.int .i64 t.id, .int .i64 t.grp, .int .i64 t.share, .int .i64 t.weight, .int .i64 t.cap, .bool t.off] (some 6))).next = m4.next + 1 := rfl
  generalize m4.new (.cells [.int .i64 t.id, .int .i64 t.grp, .int .i64 t.share, .int .i64 t.weight, .int .i64 t.cap, .bool t.off] (some 6)) = m5 at hx5 hb5 hn5 ⊢
  have hX5 := hX4.trans hx5
  have n5 := hx5.next
  have D1 := C1.keep hx5
  have D2 := C2.keep hx5
  have D3 := C3.keep hx5
  by_cases g1 : t.grp = 0
  · have e4 : (t.grp != 0) = false := by rw [bne_eq_false_iff_eq]; exact g1
    try simp only [go_sem, ruB, D1.at_, D2.at_, f2, f3, hb5.at_, e4]
    refine gC.of (refShare (h.keep hX5)) ?_
    rintro _ m6 ⟨hx6, rfl⟩
    have hX6 := hX5.trans hx6
    have n6 := hx6.next
    have G1 := D1.keep hx6
    have G2 := D2.keep hx6
    have G3 := D3.keep hx6
    have G7 := hb5.keep hx6
    by_cases g3 : 1 ≤ sh ∧ sh ≤ w.f
    · have hs : shOk s sh := by unfold shOk; rw [← r.f]; exact g3
      have hX' : reweightS s id sh = ({ s with T := updL s.T id { t with share := sh } }, 0) := by unfold reweightS; rw [hl]; simp only []; rw [if_neg (fun h => h g1), if_neg (fun h => h hs)]
      try simp only [go_sem, ruB, decide_eq_true g3, G1.at_, G2.at_, G3.at_, G7.at_, ne1, ne2, ↓ct, ↓cg, h.t.one, h.g.one, n71, n72, n73]
      have hU : Upd m6 (m6.set m4.next (some (.cells [.int .i64 t.id, .int .i64 t.grp, .int .i64 sh, .int .i64 t.weight, .int .i64 t.cap, .bool t.off] (some 6)))) [m4.next] := Upd.set (by simp)
      have E3 := G3.upd hU (by simp; omega)
      have hE := hX6.set (o := some (.cells [.int .i64 t.id, .int .i64 t.grp, .int .i64 sh, .int .i64 t.weight, .int .i64 t.cap, .bool t.off] (some 6))) (show m.next ≤ m4.next by omega)
      refine gC.of (refWith (t := { t with share := sh }) (h.keep hE) (by show (outT w.T t.id).length ≤ 99; rw [hid]; omega)) ?_
      rintro _ m8 ⟨hx8, tv', rfl, hv8, hf8⟩
      have F3 := E3.keep hx8
      have ct' := hv8.t.cells
      try simp only [go_sem, ruB, F3.at_, ↓ct', ↓cg, hv8.t.one, h.g.one]
      have n8 : m2.next < (m6.set m4.next (some (.cells [.int .i64 t.id, .int .i64 t.grp, .int .i64 sh, .int .i64 t.weight, .int .i64 t.cap, .bool t.off] (some 6)))).next := by show m2.next < m6.next; omega
      refine DoP.fin h hv8 rfl (hE.trans hx8) (by omega) n8 (.inr hf8) (.inl rfl) ?_ (by rw [hX'])
      rw [hX']
      exact r.put (id := id) (t := { t with share := sh }) k hid r.G
    · have hs : ¬ shOk s sh := by unfold shOk; rw [← r.f]; exact g3
      have hX' : reweightS s id sh = (s, 21) := by unfold reweightS; rw [hl]; simp only []; rw [if_neg (fun h => h g1), if_pos hs]
      try simp only [go_sem, ruB, decide_eq_false g3, G1.at_, G2.at_, G3.at_, ne1, ne2, ↓ct, ↓cg, h.t.one, h.g.one]
      exact same hX6 (by omega) hX'
  · have e4 : (t.grp != 0) = true := by rw [bne_iff_ne]; exact g1
    have hX' : reweightS s id sh = (s, 14) := by unfold reweightS; rw [hl]; simp only []; rw [if_pos g1]
    try simp only [go_sem, ruB, D1.at_, D2.at_, D3.at_, f2, f3, hb5.at_, e4, ne1, ne2, ↓ct, ↓cg, h.t.one, h.g.one]
    exact same hX5 (by omega) hX'

set_option maxHeartbeats 4000000 in
theorem refTasks4 {s : Rs} {w : Rr} {tv gv : Value} {id grp sh wt cap co n : Int} (h : RrV m w tv gv) (r : RRel s w) (k : RsWf s) : WC R F.ref28_tasks [rrA w.f tv gv, .agg (cmV ⟨4, id, grp, sh, wt, cap, co, n⟩).toArray] m (DoP m tv gv (offS s id true)) := by
  refine WC.of R.ref28_tasks rfl ?_
  simp only [RC.ref28_tasks, cmV, go_sem, h.t.one, h.g.one]
  have hx1 : Ext m (m.new (.cells [.int .i64 w.f, tv, gv] (some 3))) := Ext.new
  have hb1 : Bk (m.new (.cells [.int .i64 w.f, tv, gv] (some 3))) m.next [.int .i64 w.f, tv, gv] 3 := Bk.new
  have hn1 : (m.new (.cells [.int .i64 w.f, tv, gv] (some 3))).next = m.next + 1 := rfl
  generalize m.new (.cells [.int .i64 w.f, tv, gv] (some 3)) = m1 at hx1 hb1 hn1 ⊢
  have hx2 : Ext m1 (m1.new (.cells [.int .i64 4, .int .i64 id, .int .i64 grp, .int .i64 sh, .int .i64 wt, .int .i64 cap, .int .i64 co, .int .i64 n] (some 8))) := Ext.new
  have hb2 : Bk (m1.new (.cells [.int .i64 4, .int .i64 id, .int .i64 grp, .int .i64 sh, .int .i64 wt, .int .i64 cap, .int .i64 co, .int .i64 n] (some 8))) m1.next [.int .i64 4, .int .i64 id, .int .i64 grp, .int .i64 sh, .int .i64 wt, .int .i64 cap, .int .i64 co, .int .i64 n] 8 := Bk.new
  have hn2 : (m1.new (.cells [.int .i64 4, .int .i64 id, .int .i64 grp, .int .i64 sh, .int .i64 wt, .int .i64 cap, .int .i64 co, .int .i64 n] (some 8))).next = m1.next + 1 := rfl
  generalize m1.new (.cells [.int .i64 4, .int .i64 id, .int .i64 grp, .int .i64 sh, .int .i64 wt, .int .i64 cap, .int .i64 co, .int .i64 n] (some 8)) = m2 at hx2 hb2 hn2 ⊢
  have hx3 : Ext m2 (m2.new (.cells [.int .i64 0, .slice none 0 0, .slice none 0 0] (some 3))) := Ext.new
  have hb3 : Bk (m2.new (.cells [.int .i64 0, .slice none 0 0, .slice none 0 0] (some 3))) m2.next [.int .i64 0, .slice none 0 0, .slice none 0 0] 3 := Bk.new
  have hn3 : (m2.new (.cells [.int .i64 0, .slice none 0 0, .slice none 0 0] (some 3))).next = m2.next + 1 := rfl
  generalize m2.new (.cells [.int .i64 0, .slice none 0 0, .slice none 0 0] (some 3)) = m3 at hx3 hb3 hn3 ⊢
  have B1 := (hb1.keep hx2).keep hx3
  have B2 := hb2.keep hx3
  have hX := (hx1.trans hx2).trans hx3
  have n3 := hX.next
  have ne1 : (m.next = m2.next) = False := eq_false (by omega)
  have ne2 : (m2.next = m.next) = False := eq_false (by omega)
  have ct := h.t.cells
  have cg := h.g.cells
  have same : ∀ {M : Mem} {E : Int} {o : Option AObj}, Ext m M → m2.next < M.next → offS s id true = (s, E) → DoP m tv gv (offS s id true) (.tuple #[.agg #[.int .i64 w.f, tv, gv], .int .i64 E]) (M.set m2.next o) := fun hM hq he => DoP.fin h (h.keep hM) rfl hM (by omega) hq (.inl rfl) (.inl rfl) (by rw [he]; exact r) (by rw [he])
  try simp only [go_sem, ruB, B1.at_, B2.at_]
  refine gC.of (refFindR (h.keep hX) r k) ?_
  rintro v m4 ⟨hx4, hv⟩
  have hX4 := hX.trans hx4
  have n4 := hx4.next
  have C1 := B1.keep hx4
  have C2 := B2.keep hx4
  have C3 := hb3.keep hx4
  have f1 : ((4 : Int) == 1) = false := rfl
  have f2 : ((4 : Int) == 2) = false := rfl
  have f3 : ((4 : Int) == 3) = false := rfl
  have f4 : ((4 : Int) == 4) = true := rfl
  have f5 : ((4 : Int) == 5) = false := rfl
  rcases hv with ⟨i, hi, hl, rfl⟩ | ⟨hl, rfl⟩
  rotate_left
  · have e3 : decide ((-1 : Int) < 0) = true := rfl
    try simp only [go_sem, ruB, C1.at_, C2.at_, C3.at_, f1, e3, ne1, ne2, ↓ct, ↓cg, h.t.one, h.g.one]
    exact same hX4 (by omega) (by unfold offS; rw [hl])
  have e3 : decide (((i : Nat) : Int) < 0) = false := decide_eq_false (by omega)
  obtain ⟨bb, oo, a1, a2, -, -⟩ := (h.t.keep h.tl hX4).elem tkV_len (k := .i64) hi
  generalize w.T[i] = t at *
  obtain ⟨ht, hid⟩ := k.tk hl
  have hlen := r.tl
  have hltl := k.k.tl
  have hout := outT_len (T := w.T) (id := id)
  simp only [tkV] at a2
  have n71 : (m.next = m4.next) = False := eq_false (by omega)
  have n72 : (m1.next = m4.next) = False := eq_false (by omega)
  have n73 : (m2.next = m4.next) = False := eq_false (by omega)
  try simp only [go_sem, ruB, C1.at_, C2.at_, C3.at_, f1, e3, a1, a2, n71, n72, n73]
  have hx5 : Ext m4 (m4.new (.cells [.int .i64 t.id, .int .i64 t.grp, .int .i64 t.share, .int .i64 t.weight, .int .i64 t.cap, .bool t.off] (some 6))) := Ext.new
  have hb5 : Bk (m4.new (.cells [.int .i64 t.id, .int .i64 t.grp, .int .i64 t.share, .int .i64 t.weight, .int .i64 t.cap, .bool t.off] (some 6))) m4.next [.int .i64 t.id, .int .i64 t.grp, .int .i64 t.share, .int .i64 t.weight, .int .i64 t.cap, .bool t.off] 6 := Bk.new
  have hn5 : (m4.new (.cells [.int .i64 t.id, .int .i64 t.grp, .int .i64 t.share, .int .i64 t.weight, .int .i64 t.cap, .bool t.off] (some 6))).next = m4.next + 1 := rfl
  generalize m4.new (.cells [.int .i64 t.id, .int .i64 t.grp, .int .i64 t.share, .int .i64 t.weight, .int .i64 t.cap, .bool t.off] (some 6)) = m5 at hx5 hb5 hn5 ⊢
  have hX5 := hX4.trans hx5
  have n5 := hx5.next
  have D1 := C1.keep hx5
  have D2 := C2.keep hx5
  have D3 := C3.keep hx5
  by_cases g1 : t.off = true
  · have e4 : (t.off == true) = true := by rw [g1]; rfl
    have hX' : offS s id true = (s, 15) := by unfold offS; rw [hl]; simp only []; rw [if_pos g1]
    try simp only [go_sem, ruB, D1.at_, D2.at_, D3.at_, f2, f3, f4, f5, hb5.at_, e4, ne1, ne2, ↓ct, ↓cg, h.t.one, h.g.one]
    exact same hX5 (by omega) hX'
  · have e4 : (t.off == true) = false := by rw [beq_eq_false_iff_ne]; exact g1
    have hX' : offS s id true = ({ s with T := updL s.T id { t with off := true } }, 0) := by unfold offS; rw [hl]; simp only []; rw [if_neg g1]
    try simp only [go_sem, ruB, D1.at_, D2.at_, D3.at_, f2, f3, f4, f5, hb5.at_, e4, ne1, ne2, ↓ct, ↓cg, h.t.one, h.g.one, n71, n72, n73]
    have hU : Upd m5 (m5.set m4.next (some (.cells [.int .i64 t.id, .int .i64 t.grp, .int .i64 t.share, .int .i64 t.weight, .int .i64 t.cap, .bool true] (some 6)))) [m4.next] := Upd.set (by simp)
    have E3 := D3.upd hU (by simp; omega)
    have hE := hX5.set (o := some (.cells [.int .i64 t.id, .int .i64 t.grp, .int .i64 t.share, .int .i64 t.weight, .int .i64 t.cap, .bool true] (some 6))) (show m.next ≤ m4.next by omega)
    refine gC.of (refWith (t := { t with off := true }) (h.keep hE) (by show (outT w.T t.id).length ≤ 99; rw [hid]; omega)) ?_
    rintro _ m8 ⟨hx8, tv', rfl, hv8, hf8⟩
    have F3 := E3.keep hx8
    have ct' := hv8.t.cells
    try simp only [go_sem, ruB, F3.at_, ↓ct', ↓cg, hv8.t.one, h.g.one]
    have n8 : m2.next < (m5.set m4.next (some (.cells [.int .i64 t.id, .int .i64 t.grp, .int .i64 t.share, .int .i64 t.weight, .int .i64 t.cap, .bool true] (some 6)))).next := by show m2.next < m5.next; omega
    refine DoP.fin h hv8 rfl (hE.trans hx8) (by omega) n8 (.inr hf8) (.inl rfl) ?_ (by rw [hX'])
    rw [hX']
    exact r.put (id := id) (t := { t with off := true }) k hid r.G

set_option maxHeartbeats 4000000 in
theorem refTasks5 {s : Rs} {w : Rr} {tv gv : Value} {id grp sh wt cap co n : Int} (h : RrV m w tv gv) (r : RRel s w) (k : RsWf s) : WC R F.ref28_tasks [rrA w.f tv gv, .agg (cmV ⟨5, id, grp, sh, wt, cap, co, n⟩).toArray] m (DoP m tv gv (offS s id false)) := by
  refine WC.of R.ref28_tasks rfl ?_
  simp only [RC.ref28_tasks, cmV, go_sem, h.t.one, h.g.one]
  have hx1 : Ext m (m.new (.cells [.int .i64 w.f, tv, gv] (some 3))) := Ext.new
  have hb1 : Bk (m.new (.cells [.int .i64 w.f, tv, gv] (some 3))) m.next [.int .i64 w.f, tv, gv] 3 := Bk.new
  have hn1 : (m.new (.cells [.int .i64 w.f, tv, gv] (some 3))).next = m.next + 1 := rfl
  generalize m.new (.cells [.int .i64 w.f, tv, gv] (some 3)) = m1 at hx1 hb1 hn1 ⊢
  have hx2 : Ext m1 (m1.new (.cells [.int .i64 5, .int .i64 id, .int .i64 grp, .int .i64 sh, .int .i64 wt, .int .i64 cap, .int .i64 co, .int .i64 n] (some 8))) := Ext.new
  have hb2 : Bk (m1.new (.cells [.int .i64 5, .int .i64 id, .int .i64 grp, .int .i64 sh, .int .i64 wt, .int .i64 cap, .int .i64 co, .int .i64 n] (some 8))) m1.next [.int .i64 5, .int .i64 id, .int .i64 grp, .int .i64 sh, .int .i64 wt, .int .i64 cap, .int .i64 co, .int .i64 n] 8 := Bk.new
  have hn2 : (m1.new (.cells [.int .i64 5, .int .i64 id, .int .i64 grp, .int .i64 sh, .int .i64 wt, .int .i64 cap, .int .i64 co, .int .i64 n] (some 8))).next = m1.next + 1 := rfl
  generalize m1.new (.cells [.int .i64 5, .int .i64 id, .int .i64 grp, .int .i64 sh, .int .i64 wt, .int .i64 cap, .int .i64 co, .int .i64 n] (some 8)) = m2 at hx2 hb2 hn2 ⊢
  have hx3 : Ext m2 (m2.new (.cells [.int .i64 0, .slice none 0 0, .slice none 0 0] (some 3))) := Ext.new
  have hb3 : Bk (m2.new (.cells [.int .i64 0, .slice none 0 0, .slice none 0 0] (some 3))) m2.next [.int .i64 0, .slice none 0 0, .slice none 0 0] 3 := Bk.new
  have hn3 : (m2.new (.cells [.int .i64 0, .slice none 0 0, .slice none 0 0] (some 3))).next = m2.next + 1 := rfl
  generalize m2.new (.cells [.int .i64 0, .slice none 0 0, .slice none 0 0] (some 3)) = m3 at hx3 hb3 hn3 ⊢
  have B1 := (hb1.keep hx2).keep hx3
  have B2 := hb2.keep hx3
  have hX := (hx1.trans hx2).trans hx3
  have n3 := hX.next
  have ne1 : (m.next = m2.next) = False := eq_false (by omega)
  have ne2 : (m2.next = m.next) = False := eq_false (by omega)
  have ct := h.t.cells
  have cg := h.g.cells
  have same : ∀ {M : Mem} {E : Int} {o : Option AObj}, Ext m M → m2.next < M.next → offS s id false = (s, E) → DoP m tv gv (offS s id false) (.tuple #[.agg #[.int .i64 w.f, tv, gv], .int .i64 E]) (M.set m2.next o) := fun hM hq he => DoP.fin h (h.keep hM) rfl hM (by omega) hq (.inl rfl) (.inl rfl) (by rw [he]; exact r) (by rw [he])
  try simp only [go_sem, ruB, B1.at_, B2.at_]
  refine gC.of (refFindR (h.keep hX) r k) ?_
  rintro v m4 ⟨hx4, hv⟩
  have hX4 := hX.trans hx4
  have n4 := hx4.next
  have C1 := B1.keep hx4
  have C2 := B2.keep hx4
  have C3 := hb3.keep hx4
  have f1 : ((5 : Int) == 1) = false := rfl
  have f2 : ((5 : Int) == 2) = false := rfl
  have f3 : ((5 : Int) == 3) = false := rfl
  have f4 : ((5 : Int) == 4) = false := rfl
  have f5 : ((5 : Int) == 5) = true := rfl
  rcases hv with ⟨i, hi, hl, rfl⟩ | ⟨hl, rfl⟩
  rotate_left
  · have e3 : decide ((-1 : Int) < 0) = true := rfl
    try simp only [go_sem, ruB, C1.at_, C2.at_, C3.at_, f1, e3, ne1, ne2, ↓ct, ↓cg, h.t.one, h.g.one]
    exact same hX4 (by omega) (by unfold offS; rw [hl])
  have e3 : decide (((i : Nat) : Int) < 0) = false := decide_eq_false (by omega)
  obtain ⟨bb, oo, a1, a2, -, -⟩ := (h.t.keep h.tl hX4).elem tkV_len (k := .i64) hi
  generalize w.T[i] = t at *
  obtain ⟨ht, hid⟩ := k.tk hl
  have hlen := r.tl
  have hltl := k.k.tl
  have hout := outT_len (T := w.T) (id := id)
  simp only [tkV] at a2
  have n71 : (m.next = m4.next) = False := eq_false (by omega)
  have n72 : (m1.next = m4.next) = False := eq_false (by omega)
  have n73 : (m2.next = m4.next) = False := eq_false (by omega)
  try simp only [go_sem, ruB, C1.at_, C2.at_, C3.at_, f1, e3, a1, a2, n71, n72, n73]
  have hx5 : Ext m4 (m4.new (.cells [.int .i64 t.id, .int .i64 t.grp, .int .i64 t.share, .int .i64 t.weight, .int .i64 t.cap, .bool t.off] (some 6))) := Ext.new
  have hb5 : Bk (m4.new (.cells [.int .i64 t.id, .int .i64 t.grp, .int .i64 t.share, .int .i64 t.weight, .int .i64 t.cap, .bool t.off] (some 6))) m4.next [.int .i64 t.id, .int .i64 t.grp, .int .i64 t.share, .int .i64 t.weight, .int .i64 t.cap, .bool t.off] 6 := Bk.new
  have hn5 : (m4.new (.cells [.int .i64 t.id, .int .i64 t.grp, .int .i64 t.share, .int .i64 t.weight, .int .i64 t.cap, .bool t.off] (some 6))).next = m4.next + 1 := rfl
  generalize m4.new (.cells [.int .i64 t.id, .int .i64 t.grp, .int .i64 t.share, .int .i64 t.weight, .int .i64 t.cap, .bool t.off] (some 6)) = m5 at hx5 hb5 hn5 ⊢
  have hX5 := hX4.trans hx5
  have n5 := hx5.next
  have D1 := C1.keep hx5
  have D2 := C2.keep hx5
  have D3 := C3.keep hx5
  by_cases g1 : t.off = false
  · have e4 : (t.off == false) = true := by rw [g1]; rfl
    have hX' : offS s id false = (s, 15) := by unfold offS; rw [hl]; simp only []; rw [if_pos g1]
    try simp only [go_sem, ruB, D1.at_, D2.at_, D3.at_, f2, f3, f4, f5, hb5.at_, e4, ne1, ne2, ↓ct, ↓cg, h.t.one, h.g.one]
    exact same hX5 (by omega) hX'
  · have e4 : (t.off == false) = false := by rw [beq_eq_false_iff_ne]; exact g1
    have hX' : offS s id false = ({ s with T := updL s.T id { t with off := false } }, 0) := by unfold offS; rw [hl]; simp only []; rw [if_neg g1]
    try simp only [go_sem, ruB, D1.at_, D2.at_, D3.at_, f2, f3, f4, f5, hb5.at_, e4, ne1, ne2, ↓ct, ↓cg, h.t.one, h.g.one, n71, n72, n73]
    have hU : Upd m5 (m5.set m4.next (some (.cells [.int .i64 t.id, .int .i64 t.grp, .int .i64 t.share, .int .i64 t.weight, .int .i64 t.cap, .bool false] (some 6)))) [m4.next] := Upd.set (by simp)
    have E3 := D3.upd hU (by simp; omega)
    have hE := hX5.set (o := some (.cells [.int .i64 t.id, .int .i64 t.grp, .int .i64 t.share, .int .i64 t.weight, .int .i64 t.cap, .bool false] (some 6))) (show m.next ≤ m4.next by omega)
    refine gC.of (refWith (t := { t with off := false }) (h.keep hE) (by show (outT w.T t.id).length ≤ 99; rw [hid]; omega)) ?_
    rintro _ m8 ⟨hx8, tv', rfl, hv8, hf8⟩
    have F3 := E3.keep hx8
    have ct' := hv8.t.cells
    try simp only [go_sem, ruB, F3.at_, ↓ct', ↓cg, hv8.t.one, h.g.one]
    have n8 : m2.next < (m5.set m4.next (some (.cells [.int .i64 t.id, .int .i64 t.grp, .int .i64 t.share, .int .i64 t.weight, .int .i64 t.cap, .bool false] (some 6)))).next := by show m2.next < m5.next; omega
    refine DoP.fin h hv8 rfl (hE.trans hx8) (by omega) n8 (.inr hf8) (.inl rfl) ?_ (by rw [hX'])
    rw [hX']
    exact r.put (id := id) (t := { t with off := false }) k hid r.G
end Go.Am


/- RosterR6 over the table of ledgerz (relayset.py). -/
set_option linter.unusedVariables false
set_option linter.unusedSimpArgs false
namespace Go.Am
open Classical
variable {m : Mem}
theorem kfill_p {a b : Int} : fillL [.int .i64 0, .int .i64 0] [(0, 1, .int .i64 a), (1, 1, .int .i64 b)] = some [.int .i64 a, .int .i64 b] := rfl

set_option maxHeartbeats 4000000 in
theorem refGroups6 {s : Rs} {w : Rr} {tv gv : Value} {id grp sh wt cap co n : Int} (h : RrV m w tv gv) (r : RRel s w) (k : RsWf s) : WC R F.ref28_groups [rrA w.f tv gv, .agg (cmV ⟨6, id, grp, sh, wt, cap, co, n⟩).toArray] m (DoP m tv gv (foundS s grp sh)) := by
  refine WC.of R.ref28_groups rfl ?_
  simp only [RC.ref28_groups, cmV, go_sem, h.t.one, h.g.one]
  have hx1 : Ext m (m.new (.cells [.int .i64 w.f, tv, gv] (some 3))) := Ext.new
  have hb1 : Bk (m.new (.cells [.int .i64 w.f, tv, gv] (some 3))) m.next [.int .i64 w.f, tv, gv] 3 := Bk.new
  have hn1 : (m.new (.cells [.int .i64 w.f, tv, gv] (some 3))).next = m.next + 1 := rfl
  generalize m.new (.cells [.int .i64 w.f, tv, gv] (some 3)) = m1 at hx1 hb1 hn1 ⊢
  have hx2 : Ext m1 (m1.new (.cells [.int .i64 6, .int .i64 id, .int .i64 grp, .int .i64 sh, .int .i64 wt, .int .i64 cap, .int .i64 co, .int .i64 n] (some 8))) := Ext.new
  have hb2 : Bk (m1.new (.cells [.int .i64 6, .int .i64 id, .int .i64 grp, .int .i64 sh, .int .i64 wt, .int .i64 cap, .int .i64 co, .int .i64 n] (some 8))) m1.next [.int .i64 6, .int .i64 id, .int .i64 grp, .int .i64 sh, .int .i64 wt, .int .i64 cap, .int .i64 co, .int .i64 n] 8 := Bk.new
  have hn2 : (m1.new (.cells [.int .i64 6, .int .i64 id, .int .i64 grp, .int .i64 sh, .int .i64 wt, .int .i64 cap, .int .i64 co, .int .i64 n] (some 8))).next = m1.next + 1 := rfl
  generalize m1.new (.cells [.int .i64 6, .int .i64 id, .int .i64 grp, .int .i64 sh, .int .i64 wt, .int .i64 cap, .int .i64 co, .int .i64 n] (some 8)) = m2 at hx2 hb2 hn2 ⊢
  have hx3 : Ext m2 (m2.new (.cells [.int .i64 0, .slice none 0 0, .slice none 0 0] (some 3))) := Ext.new
  have hb3 : Bk (m2.new (.cells [.int .i64 0, .slice none 0 0, .slice none 0 0] (some 3))) m2.next [.int .i64 0, .slice none 0 0, .slice none 0 0] 3 := Bk.new
  have hn3 : (m2.new (.cells [.int .i64 0, .slice none 0 0, .slice none 0 0] (some 3))).next = m2.next + 1 := rfl
  generalize m2.new (.cells [.int .i64 0, .slice none 0 0, .slice none 0 0] (some 3)) = m3 at hx3 hb3 hn3 ⊢
  have B1 := (hb1.keep hx2).keep hx3
  have B2 := hb2.keep hx3
  have B3 := hb3
  have hX3 := (hx1.trans hx2).trans hx3
  have n3 := hX3.next
  have ne1 : (m.next = m2.next) = False := eq_false (by omega)
  have ne2 : (m2.next = m.next) = False := eq_false (by omega)
  have ct := h.t.cells
  have cg := h.g.cells
  have same : ∀ {M : Mem} {E : Int} {o : Option AObj}, Ext m M → m2.next < M.next → foundS s grp sh = (s, E) → DoP m tv gv (foundS s grp sh) (.tuple #[.agg #[.int .i64 w.f, tv, gv], .int .i64 E]) (M.set m2.next o) := fun hM hq he => DoP.fin h (h.keep hM) rfl hM (by omega) hq (.inl rfl) (.inl rfl) (by rw [he]; exact r) (by rw [he])
  have f6 : ((6 : Int) == 6) = true := rfl
  have f8 : ((6 : Int) == 8) = false := rfl
  try simp only [go_sem, ruB, B1.at_, B2.at_, B3.at_]
  refine gC.of (refGroupR (h.keep hX3) r k) ?_
  rintro v m4 ⟨hx4, hv⟩
  have hX4 := hX3.trans hx4
  have n4 := hx4.next
  have C1 := B1.keep hx4
  have C2 := B2.keep hx4
  have C3 := B3.keep hx4
  by_cases g1 : 1 ≤ grp
  · have e1 : decide (grp < 1) = false := decide_eq_false (by omega)
    by_cases g2 : grp ≤ 40
    · have e2 : decide (40 < grp) = false := decide_eq_false (by omega)
      rcases hv with ⟨i, hi, g, hg, hgi, rfl⟩ | ⟨hg, rfl⟩
      · have e3 : decide ((0 : Int) ≤ ((i : Nat) : Int)) = true := decide_eq_true (by omega)
        have hX' : foundS s grp sh = (s, 11) := by unfold foundS; rw [if_neg (fun h => h ⟨g1, g2⟩), if_pos (show grp ∈ kys s.G from List.mem_map.2 ⟨_, lkp_some hg, rfl⟩)]
        try simp only [go_sem, ruB, C1.at_, C2.at_, C3.at_, f6, f8, e1, e2, e3, ne1, ne2, ↓ct, ↓cg, h.t.one, h.g.one]
        exact same hX4 (by omega) hX'
      · have e3 : decide ((0 : Int) ≤ -1) = false := rfl
        try simp only [go_sem, ruB, C1.at_, C2.at_, C3.at_, f6, f8, e1, e2, e3, ne1, ne2, ↓ct, ↓cg, h.t.one, h.g.one]
        refine gC.of (refShare (h.keep hX4)) ?_
        rintro _ m5 ⟨hx5, rfl⟩
        have hX5 := hX4.trans hx5
        have n5 := hx5.next
        have D1 := C1.keep hx5
        have D2 := C2.keep hx5
        have D3 := C3.keep hx5
        by_cases g3 : 1 ≤ sh ∧ sh ≤ w.f
        · have hs : shOk s sh := by unfold shOk; rw [← r.f]; exact g3
          have hX' : foundS s grp sh = ({ s with G := updL s.G grp ⟨grp, sh, 0⟩ }, 0) := by unfold foundS; rw [if_neg (fun h => h ⟨g1, g2⟩), if_neg (lkp_none hg), if_neg (fun h => h hs)]
          try simp only [go_sem, ruB, decide_eq_true g3, D1.at_, D2.at_, D3.at_, ne1, ne2, ↓ct, ↓cg, h.t.one, h.g.one, ↓kfill_p]
          refine gC.of (refGroupWith (t := (grp, sh)) (th := true) (h.keep hX5) (by have := outG_len (T := w.G) (id := grp); have := r.gl; have := k.k.gl; show (outG w.G grp).length ≤ 99; omega)) ?_
          rintro _ m8 ⟨hx8, gv', rfl, hv8, hf8⟩
          have F3 := D3.keep hx8
          have cg' := hv8.g.cells
          try simp only [go_sem, ruB, F3.at_, ↓ct, ↓cg', h.t.one, hv8.g.one]
          refine DoP.fin h hv8 rfl (hX5.trans hx8) (by omega) (show m2.next < m5.next by omega) (.inl rfl) (.inr hf8) ?_ (by rw [hX'])
          rw [hX']
          exact r.putG (id := grp) (g := ⟨grp, sh, 0⟩) k
        · have hs : ¬ shOk s sh := by unfold shOk; rw [← r.f]; exact g3
          have hX' : foundS s grp sh = (s, 21) := by unfold foundS; rw [if_neg (fun h => h ⟨g1, g2⟩), if_neg (lkp_none hg), if_pos hs]
          try simp only [go_sem, ruB, decide_eq_false g3, D1.at_, D2.at_, D3.at_, ne1, ne2, ↓ct, ↓cg, h.t.one, h.g.one]
          exact same hX5 (by omega) hX'
    · have e2 : decide (40 < grp) = true := decide_eq_true (by omega)
      try simp only [go_sem, ruB, C1.at_, C2.at_, C3.at_, f6, e1, e2, ne1, ne2, ↓ct, ↓cg, h.t.one, h.g.one]
      exact same hX4 (by omega) (by unfold foundS; rw [if_pos (by omega)])
  · have e1 : decide (grp < 1) = true := decide_eq_true (by omega)
    try simp only [go_sem, ruB, C1.at_, C2.at_, C3.at_, f6, e1, ne1, ne2, ↓ct, ↓cg, h.t.one, h.g.one]
    exact same hX4 (by omega) (by unfold foundS; rw [if_pos (by omega)])

set_option maxHeartbeats 4000000 in
theorem refGroups7 {s : Rs} {w : Rr} {tv gv : Value} {id grp sh wt cap co n : Int} (h : RrV m w tv gv) (r : RRel s w) (k : RsWf s) : WC R F.ref28_groups [rrA w.f tv gv, .agg (cmV ⟨7, id, grp, sh, wt, cap, co, n⟩).toArray] m (DoP m tv gv (fundS s grp sh)) := by
  refine WC.of R.ref28_groups rfl ?_
  simp only [RC.ref28_groups, cmV, go_sem, h.t.one, h.g.one]
  have hx1 : Ext m (m.new (.cells [.int .i64 w.f, tv, gv] (some 3))) := Ext.new
  have hb1 : Bk (m.new (.cells [.int .i64 w.f, tv, gv] (some 3))) m.next [.int .i64 w.f, tv, gv] 3 := Bk.new
  have hn1 : (m.new (.cells [.int .i64 w.f, tv, gv] (some 3))).next = m.next + 1 := rfl
  generalize m.new (.cells [.int .i64 w.f, tv, gv] (some 3)) = m1 at hx1 hb1 hn1 ⊢
  have hx2 : Ext m1 (m1.new (.cells [.int .i64 7, .int .i64 id, .int .i64 grp, .int .i64 sh, .int .i64 wt, .int .i64 cap, .int .i64 co, .int .i64 n] (some 8))) := Ext.new
  have hb2 : Bk (m1.new (.cells [.int .i64 7, .int .i64 id, .int .i64 grp, .int .i64 sh, .int .i64 wt, .int .i64 cap, .int .i64 co, .int .i64 n] (some 8))) m1.next [.int .i64 7, .int .i64 id, .int .i64 grp, .int .i64 sh, .int .i64 wt, .int .i64 cap, .int .i64 co, .int .i64 n] 8 := Bk.new
  have hn2 : (m1.new (.cells [.int .i64 7, .int .i64 id, .int .i64 grp, .int .i64 sh, .int .i64 wt, .int .i64 cap, .int .i64 co, .int .i64 n] (some 8))).next = m1.next + 1 := rfl
  generalize m1.new (.cells [.int .i64 7, .int .i64 id, .int .i64 grp, .int .i64 sh, .int .i64 wt, .int .i64 cap, .int .i64 co, .int .i64 n] (some 8)) = m2 at hx2 hb2 hn2 ⊢
  have hx3 : Ext m2 (m2.new (.cells [.int .i64 0, .slice none 0 0, .slice none 0 0] (some 3))) := Ext.new
  have hb3 : Bk (m2.new (.cells [.int .i64 0, .slice none 0 0, .slice none 0 0] (some 3))) m2.next [.int .i64 0, .slice none 0 0, .slice none 0 0] 3 := Bk.new
  have hn3 : (m2.new (.cells [.int .i64 0, .slice none 0 0, .slice none 0 0] (some 3))).next = m2.next + 1 := rfl
  generalize m2.new (.cells [.int .i64 0, .slice none 0 0, .slice none 0 0] (some 3)) = m3 at hx3 hb3 hn3 ⊢
  have B1 := (hb1.keep hx2).keep hx3
  have B2 := hb2.keep hx3
  have B3 := hb3
  have hX3 := (hx1.trans hx2).trans hx3
  have n3 := hX3.next
  have ne1 : (m.next = m2.next) = False := eq_false (by omega)
  have ne2 : (m2.next = m.next) = False := eq_false (by omega)
  have ct := h.t.cells
  have cg := h.g.cells
  have same : ∀ {M : Mem} {E : Int} {o : Option AObj}, Ext m M → m2.next < M.next → fundS s grp sh = (s, E) → DoP m tv gv (fundS s grp sh) (.tuple #[.agg #[.int .i64 w.f, tv, gv], .int .i64 E]) (M.set m2.next o) := fun hM hq he => DoP.fin h (h.keep hM) rfl hM (by omega) hq (.inl rfl) (.inl rfl) (by rw [he]; exact r) (by rw [he])
  have f6 : ((7 : Int) == 6) = false := rfl
  have f8 : ((7 : Int) == 8) = false := rfl
  try simp only [go_sem, ruB, B1.at_, B2.at_, B3.at_]
  refine gC.of (refGroupR (h.keep hX3) r k) ?_
  rintro v m4 ⟨hx4, hv⟩
  have hX4 := hX3.trans hx4
  have n4 := hx4.next
  have C1 := B1.keep hx4
  have C2 := B2.keep hx4
  have C3 := B3.keep hx4
  rcases hv with ⟨i, hi, g, hg, hgi, rfl⟩ | ⟨hg, rfl⟩
  rotate_left
  · have e3 : decide ((-1 : Int) < 0) = true := rfl
    try simp only [go_sem, ruB, C1.at_, C2.at_, C3.at_, f6, e3, ne1, ne2, ↓ct, ↓cg, h.t.one, h.g.one]
    exact same hX4 (by omega) (by unfold fundS; rw [hg])
  have e3 : decide (((i : Nat) : Int) < 0) = false := decide_eq_false (by omega)
  try simp only [go_sem, ruB, C1.at_, C2.at_, C3.at_, f6, f8, e3, ne1, ne2, ↓ct, ↓cg, h.t.one, h.g.one]
  refine gC.of (refShare (h.keep hX4)) ?_
  rintro _ m5 ⟨hx5, rfl⟩
  have hX5 := hX4.trans hx5
  have n5 := hx5.next
  have D1 := C1.keep hx5
  have D2 := C2.keep hx5
  have D3 := C3.keep hx5
  by_cases g3 : 1 ≤ sh ∧ sh ≤ w.f
  · have hs : shOk s sh := by unfold shOk; rw [← r.f]; exact g3
    have hX' : fundS s grp sh = ({ s with G := updL s.G grp { g with share := sh } }, 0) := by unfold fundS; rw [hg]; simp only []; rw [if_neg (fun h => h hs)]
    try simp only [go_sem, ruB, decide_eq_true g3, D1.at_, D2.at_, D3.at_, ne1, ne2, ↓ct, ↓cg, h.t.one, h.g.one, ↓kfill_p]
    refine gC.of (refGroupWith (t := (grp, sh)) (th := true) (h.keep hX5) (by have := outG_len (T := w.G) (id := grp); have := r.gl; have := k.k.gl; show (outG w.G grp).length ≤ 99; omega)) ?_
    rintro _ m8 ⟨hx8, gv', rfl, hv8, hf8⟩
    have F3 := D3.keep hx8
    have cg' := hv8.g.cells
    try simp only [go_sem, ruB, F3.at_, ↓ct, ↓cg', h.t.one, hv8.g.one]
    refine DoP.fin h hv8 rfl (hX5.trans hx8) (by omega) (show m2.next < m5.next by omega) (.inl rfl) (.inr hf8) ?_ (by rw [hX'])
    rw [hX']
    exact r.putG (id := grp) (g := { g with share := sh }) k
  · have hs : ¬ shOk s sh := by unfold shOk; rw [← r.f]; exact g3
    have hX' : fundS s grp sh = (s, 21) := by unfold fundS; rw [hg]; simp only []; rw [if_pos hs]
    try simp only [go_sem, ruB, decide_eq_false g3, D1.at_, D2.at_, D3.at_, ne1, ne2, ↓ct, ↓cg, h.t.one, h.g.one]
    exact same hX5 (by omega) hX'

set_option maxHeartbeats 4000000 in
theorem refGroups8 {s : Rs} {w : Rr} {tv gv : Value} {id grp sh wt cap co n : Int} (h : RrV m w tv gv) (r : RRel s w) (k : RsWf s) : WC R F.ref28_groups [rrA w.f tv gv, .agg (cmV ⟨8, id, grp, sh, wt, cap, co, n⟩).toArray] m (DoP m tv gv (disbandS s grp)) := by
  refine WC.of R.ref28_groups rfl ?_
  simp only [RC.ref28_groups, cmV, go_sem, h.t.one, h.g.one]
  have hx1 : Ext m (m.new (.cells [.int .i64 w.f, tv, gv] (some 3))) := Ext.new
  have hb1 : Bk (m.new (.cells [.int .i64 w.f, tv, gv] (some 3))) m.next [.int .i64 w.f, tv, gv] 3 := Bk.new
  have hn1 : (m.new (.cells [.int .i64 w.f, tv, gv] (some 3))).next = m.next + 1 := rfl
  generalize m.new (.cells [.int .i64 w.f, tv, gv] (some 3)) = m1 at hx1 hb1 hn1 ⊢
  have hx2 : Ext m1 (m1.new (.cells [.int .i64 8, .int .i64 id, .int .i64 grp, .int .i64 sh, .int .i64 wt, .int .i64 cap, .int .i64 co, .int .i64 n] (some 8))) := Ext.new
  have hb2 : Bk (m1.new (.cells [.int .i64 8, .int .i64 id, .int .i64 grp, .int .i64 sh, .int .i64 wt, .int .i64 cap, .int .i64 co, .int .i64 n] (some 8))) m1.next [.int .i64 8, .int .i64 id, .int .i64 grp, .int .i64 sh, .int .i64 wt, .int .i64 cap, .int .i64 co, .int .i64 n] 8 := Bk.new
  have hn2 : (m1.new (.cells [.int .i64 8, .int .i64 id, .int .i64 grp, .int .i64 sh, .int .i64 wt, .int .i64 cap, .int .i64 co, .int .i64 n] (some 8))).next = m1.next + 1 := rfl
  generalize m1.new (.cells [.int .i64 8, .int .i64 id, .int .i64 grp, .int .i64 sh, .int .i64 wt, .int .i64 cap, .int .i64 co, .int .i64 n] (some 8)) = m2 at hx2 hb2 hn2 ⊢
  have hx3 : Ext m2 (m2.new (.cells [.int .i64 0, .slice none 0 0, .slice none 0 0] (some 3))) := Ext.new
  have hb3 : Bk (m2.new (.cells [.int .i64 0, .slice none 0 0, .slice none 0 0] (some 3))) m2.next [.int .i64 0, .slice none 0 0, .slice none 0 0] 3 := Bk.new
  have hn3 : (m2.new (.cells [.int .i64 0, .slice none 0 0, .slice none 0 0] (some 3))).next = m2.next + 1 := rfl
  generalize m2.new (.cells [.int .i64 0, .slice none 0 0, .slice none 0 0] (some 3)) = m3 at hx3 hb3 hn3 ⊢
  have B1 := (hb1.keep hx2).keep hx3
  have B2 := hb2.keep hx3
  have B3 := hb3
  have hX3 := (hx1.trans hx2).trans hx3
  have n3 := hX3.next
  have ne1 : (m.next = m2.next) = False := eq_false (by omega)
  have ne2 : (m2.next = m.next) = False := eq_false (by omega)
  have ct := h.t.cells
  have cg := h.g.cells
  have same : ∀ {M : Mem} {E : Int} {o : Option AObj}, Ext m M → m2.next < M.next → disbandS s grp = (s, E) → DoP m tv gv (disbandS s grp) (.tuple #[.agg #[.int .i64 w.f, tv, gv], .int .i64 E]) (M.set m2.next o) := fun hM hq he => DoP.fin h (h.keep hM) rfl hM (by omega) hq (.inl rfl) (.inl rfl) (by rw [he]; exact r) (by rw [he])
  have f6 : ((8 : Int) == 6) = false := rfl
  have f8 : ((8 : Int) == 8) = true := rfl
  try simp only [go_sem, ruB, B1.at_, B2.at_, B3.at_]
  refine gC.of (refGroupR (h.keep hX3) r k) ?_
  rintro v m4 ⟨hx4, hv⟩
  have hX4 := hX3.trans hx4
  have n4 := hx4.next
  have C1 := B1.keep hx4
  have C2 := B2.keep hx4
  have C3 := B3.keep hx4
  rcases hv with ⟨i, hi, g, hg, hgi, rfl⟩ | ⟨hg, rfl⟩
  rotate_left
  · have e3 : decide ((-1 : Int) < 0) = true := rfl
    try simp only [go_sem, ruB, C1.at_, C2.at_, C3.at_, f6, e3, ne1, ne2, ↓ct, ↓cg, h.t.one, h.g.one]
    exact same hX4 (by omega) (by unfold disbandS; rw [hg])
  have e3 : decide (((i : Nat) : Int) < 0) = false := decide_eq_false (by omega)
  try simp only [go_sem, ruB, C1.at_, C2.at_, C3.at_, f6, f8, e3, ne1, ne2, ↓ct, ↓cg, h.t.one, h.g.one]
  refine gC.of (refMembers (h.keep hX4)) ?_
  rintro _ m5 ⟨hx5, rfl⟩
  have hX5 := hX4.trans hx5
  have n5 := hx5.next
  have D1 := C1.keep hx5
  have D2 := C2.keep hx5
  have D3 := C3.keep hx5
  rw [r.mem k hg]
  by_cases g3 : 0 < g.mem
  · have e4 : decide ((0 : Int) < g.mem) = true := decide_eq_true g3
    have hX' : disbandS s grp = (s, 16) := by unfold disbandS; rw [hg]; simp only []; rw [if_pos g3]
    try simp only [go_sem, ruB, e4, D1.at_, D2.at_, D3.at_, ne1, ne2, ↓ct, ↓cg, h.t.one, h.g.one]
    exact same hX5 (by omega) hX'
  · have e4 : decide ((0 : Int) < g.mem) = false := decide_eq_false g3
    have hX' : disbandS s grp = ({ s with G := delL s.G grp }, 0) := by unfold disbandS; rw [hg]; simp only []; rw [if_neg g3]
    obtain ⟨bb, oo, a1, a2, -, -⟩ := (h.g.keep h.gl hX5).elem spV_len (k := .i64) hi
    rw [hgi] at a2
    simp only [spV] at a2
    try simp only [go_sem, ruB, e4, D1.at_, D2.at_, D3.at_, ne1, ne2, ↓ct, ↓cg, h.t.one, h.g.one, a1, a2]
    refine gC.of (refGroupWith (t := (grp, g.share)) (th := false) (h.keep hX5) (by have := outG_len (T := w.G) (id := grp); have := r.gl; have := k.k.gl; show (outG w.G grp).length ≤ 99; omega)) ?_
    rintro _ m8 ⟨hx8, gv', rfl, hv8, hf8⟩
    have F3 := D3.keep hx8
    have cg' := hv8.g.cells
    try simp only [go_sem, ruB, F3.at_, ↓ct, ↓cg', h.t.one, hv8.g.one]
    refine DoP.fin h hv8 rfl (hX5.trans hx8) (by omega) (show m2.next < m5.next by omega) (.inl rfl) (.inr hf8) ?_ (by rw [hX'])
    rw [hX']
    exact r.delG (id := grp) k
end Go.Am


/- RosterR7 over the table of ledgerz (relayset.py). -/
set_option linter.unusedVariables false
set_option linter.unusedSimpArgs false
namespace Go.Am
open Classical
variable {m : Mem}

set_option maxHeartbeats 4000000 in
theorem refEnter {s : Rs} {w : Rr} {tv gv : Value} {id grp sh wt cap co n : Int} (h : RrV m w tv gv) (r : RRel s w) (k : RsWf s) : WC R F.ref28_enter [rrA w.f tv gv, .agg (cmV ⟨9, id, grp, sh, wt, cap, co, n⟩).toArray] m (DoP m tv gv (enterS s id grp wt cap)) := by
  refine WC.of R.ref28_enter rfl ?_
  simp only [RC.ref28_enter, cmV, go_sem, h.t.one, h.g.one]
  have hx1 : Ext m (m.new (.cells [.int .i64 w.f, tv, gv] (some 3))) := Ext.new
  have hb1 : Bk (m.new (.cells [.int .i64 w.f, tv, gv] (some 3))) m.next [.int .i64 w.f, tv, gv] 3 := Bk.new
  have hn1 : (m.new (.cells [.int .i64 w.f, tv, gv] (some 3))).next = m.next + 1 := rfl
  generalize m.new (.cells [.int .i64 w.f, tv, gv] (some 3)) = m1 at hx1 hb1 hn1 ⊢
  have hx2 : Ext m1 (m1.new (.cells [.int .i64 9, .int .i64 id, .int .i64 grp, .int .i64 sh, .int .i64 wt, .int .i64 cap, .int .i64 co, .int .i64 n] (some 8))) := Ext.new
  have hb2 : Bk (m1.new (.cells [.int .i64 9, .int .i64 id, .int .i64 grp, .int .i64 sh, .int .i64 wt, .int .i64 cap, .int .i64 co, .int .i64 n] (some 8))) m1.next [.int .i64 9, .int .i64 id, .int .i64 grp, .int .i64 sh, .int .i64 wt, .int .i64 cap, .int .i64 co, .int .i64 n] 8 := Bk.new
  have hn2 : (m1.new (.cells [.int .i64 9, .int .i64 id, .int .i64 grp, .int .i64 sh, .int .i64 wt, .int .i64 cap, .int .i64 co, .int .i64 n] (some 8))).next = m1.next + 1 := rfl
  generalize m1.new (.cells [.int .i64 9, .int .i64 id, .int .i64 grp, .int .i64 sh, .int .i64 wt, .int .i64 cap, .int .i64 co, .int .i64 n] (some 8)) = m2 at hx2 hb2 hn2 ⊢
  have hx3 : Ext m2 (m2.new (.cells [.int .i64 0, .slice none 0 0, .slice none 0 0] (some 3))) := Ext.new
  have hb3 : Bk (m2.new (.cells [.int .i64 0, .slice none 0 0, .slice none 0 0] (some 3))) m2.next [.int .i64 0, .slice none 0 0, .slice none 0 0] 3 := Bk.new
  have hn3 : (m2.new (.cells [.int .i64 0, .slice none 0 0, .slice none 0 0] (some 3))).next = m2.next + 1 := rfl
  generalize m2.new (.cells [.int .i64 0, .slice none 0 0, .slice none 0 0] (some 3)) = m3 at hx3 hb3 hn3 ⊢
  have B1 := (hb1.keep hx2).keep hx3
  have B2 := hb2.keep hx3
  have B3 := hb3
  have hX3 := (hx1.trans hx2).trans hx3
  have n3 := hX3.next
  have ne1 : (m.next = m2.next) = False := eq_false (by omega)
  have ne2 : (m2.next = m.next) = False := eq_false (by omega)
  have ct := h.t.cells
  have cg := h.g.cells
  have same : ∀ {M : Mem} {E : Int} {o : Option AObj}, Ext m M → m2.next < M.next → enterS s id grp wt cap = (s, E) → DoP m tv gv (enterS s id grp wt cap) (.tuple #[.agg #[.int .i64 w.f, tv, gv], .int .i64 E]) (M.set m2.next o) := fun hM hq he => DoP.fin h (h.keep hM) rfl hM (by omega) hq (.inl rfl) (.inl rfl) (by rw [he]; exact r) (by rw [he])
  have hid0 : ¬ (1 ≤ id ∧ id ≤ 200) → enterS s id grp wt cap = (s, 20) := fun hh => by
    have : freshE s id = 20 := by unfold freshE; rw [if_pos hh]
    unfold enterS; rw [this, if_pos (by omega)]
  by_cases g1 : 1 ≤ id
  rotate_left
  · have e1 : decide (id < 1) = true := decide_eq_true (by omega)
    try simp only [go_sem, ruB, B1.at_, B2.at_, B3.at_, e1, ne1, ne2, ↓ct, ↓cg, h.t.one, h.g.one]
    exact same hX3 (by omega) (hid0 (by omega))
  have e1 : decide (id < 1) = false := decide_eq_false (by omega)
  by_cases g2 : id ≤ 200
  rotate_left
  · have e2 : decide (200 < id) = true := decide_eq_true (by omega)
    try simp only [go_sem, ruB, B1.at_, B2.at_, B3.at_, e1, e2, ne1, ne2, ↓ct, ↓cg, h.t.one, h.g.one]
    exact same hX3 (by omega) (hid0 (by omega))
  have e2 : decide (200 < id) = false := decide_eq_false (by omega)
  try simp only [go_sem, ruB, B1.at_, B2.at_, B3.at_, e1, e2, ne1, ne2, ↓ct, ↓cg, h.t.one, h.g.one]
  refine gC.of (refFindR (h.keep hX3) r k) ?_
  rintro v m4 ⟨hx4, hv⟩
  have hX4 := hX3.trans hx4
  have n4 := hx4.next
  have C1 := B1.keep hx4
  have C2 := B2.keep hx4
  have C3 := B3.keep hx4
  rcases hv with ⟨i, hi, hl, rfl⟩ | ⟨hl, rfl⟩
  · have e3 : decide ((0 : Int) ≤ ((i : Nat) : Int)) = true := decide_eq_true (by omega)
    have hX' : enterS s id grp wt cap = (s, 11) := by
      have : freshE s id = 11 := by unfold freshE; rw [if_neg (fun k => k ⟨g1, g2⟩), if_pos (show id ∈ kys s.T from List.mem_map.2 ⟨_, lkp_some hl, rfl⟩)]
      unfold enterS; rw [this, if_pos (by omega)]
    try simp only [go_sem, ruB, C1.at_, C2.at_, C3.at_, e3, ne1, ne2, ↓ct, ↓cg, h.t.one, h.g.one]
    exact same hX4 (by omega) hX'
  have e3 : decide ((0 : Int) ≤ -1) = false := rfl
  try simp only [go_sem, ruB, C1.at_, C2.at_, C3.at_, e3, ne1, ne2, ↓ct, ↓cg, h.t.one, h.g.one]
  refine gC.of (refGroupR (h.keep hX4) r k) ?_
  rintro v m5 ⟨hx5, hv⟩
  have hX5 := hX4.trans hx5
  have n5 := hx5.next
  have D1 := C1.keep hx5
  have D2 := C2.keep hx5
  have D3 := C3.keep hx5
  rcases hv with ⟨i, hi, g, hg, hgi, rfl⟩ | ⟨hg, rfl⟩
  rotate_left
  · have e4 : decide ((-1 : Int) < 0) = true := rfl
    try simp only [go_sem, ruB, D1.at_, D2.at_, D3.at_, e4, ne1, ne2, ↓ct, ↓cg, h.t.one, h.g.one]
    exact same hX5 (by omega) (by unfold enterS; rw [if_neg (by rw [fresh_ok ⟨g1, g2⟩ hl]; omega), hg])
  have e4 : decide (((i : Nat) : Int) < 0) = false := decide_eq_false (by omega)
  by_cases w1 : 1 ≤ wt
  rotate_left
  · have q1 : decide (wt < 1) = true := decide_eq_true (by omega)
    try simp only [go_sem, ruB, D1.at_, D2.at_, D3.at_, e4, q1, ne1, ne2, ↓ct, ↓cg, h.t.one, h.g.one]
    exact same hX5 (by omega) (by unfold enterS; rw [if_neg (by rw [fresh_ok ⟨g1, g2⟩ hl]; omega), hg]; simp only []; rw [if_pos (by omega)])
  have q1 : decide (wt < 1) = false := decide_eq_false (by omega)
  by_cases w2 : wt ≤ 1000
  rotate_left
  · have q2 : decide (1000 < wt) = true := decide_eq_true (by omega)
    try simp only [go_sem, ruB, D1.at_, D2.at_, D3.at_, e4, q1, q2, ne1, ne2, ↓ct, ↓cg, h.t.one, h.g.one]
    exact same hX5 (by omega) (by unfold enterS; rw [if_neg (by rw [fresh_ok ⟨g1, g2⟩ hl]; omega), hg]; simp only []; rw [if_pos (by omega)])
  have q2 : decide (1000 < wt) = false := decide_eq_false (by omega)
  by_cases c1 : cap < 0
  · have q3 : decide (cap < 0) = true := decide_eq_true c1
    try simp only [go_sem, ruB, D1.at_, D2.at_, D3.at_, e4, q1, q2, q3, ne1, ne2, ↓ct, ↓cg, h.t.one, h.g.one]
    exact same hX5 (by omega) (by unfold enterS; rw [if_neg (by rw [fresh_ok ⟨g1, g2⟩ hl]; omega), hg]; simp only []; rw [if_neg (by omega), if_pos (by omega)])
  have q3 : decide (cap < 0) = false := decide_eq_false c1
  have hwf := r.f
  by_cases c2 : w.f < cap
  · have q4 : decide (w.f < cap) = true := decide_eq_true c2
    try simp only [go_sem, ruB, D1.at_, D2.at_, D3.at_, e4, q1, q2, q3, q4, ne1, ne2, ↓ct, ↓cg, h.t.one, h.g.one]
    exact same hX5 (by omega) (by unfold enterS; rw [if_neg (by rw [fresh_ok ⟨g1, g2⟩ hl]; omega), hg]; simp only []; rw [if_neg (by omega), if_pos (by omega)])
  have q4 : decide (w.f < cap) = false := decide_eq_false c2
  have hlt := (h.t.keep h.tl hX5).len
  have hle := r.tl
  by_cases t1 : 96 ≤ s.T.length
  · have q5 : decide ((96 : Int) ≤ ((w.T.length : Nat) : Int)) = true := decide_eq_true (by omega)
    try simp only [go_sem, ruB, D1.at_, D2.at_, D3.at_, e4, q1, q2, q3, q4, hlt, q5, ne1, ne2, ↓ct, ↓cg, h.t.one, h.g.one]
    exact same hX5 (by omega) (by unfold enterS; rw [if_neg (by rw [fresh_ok ⟨g1, g2⟩ hl]; omega), hg]; simp only []; rw [if_neg (by omega), if_neg (by omega), if_pos (by omega)])
  have q5 : decide ((96 : Int) ≤ ((w.T.length : Nat) : Int)) = false := decide_eq_false (by omega)
  try simp only [go_sem, ruB, D1.at_, D2.at_, D3.at_, e4, q1, q2, q3, q4, hlt, q5, ne1, ne2, ↓ct, ↓cg, h.t.one, h.g.one]
  refine gC.of (refMembers (h.keep hX5)) ?_
  rintro _ m6 ⟨hx6, rfl⟩
  have hX6 := hX5.trans hx6
  have n6 := hx6.next
  have G1 := D1.keep hx6
  have G2 := D2.keep hx6
  have G3 := D3.keep hx6
  rw [r.mem k hg]
  by_cases t2 : 32 ≤ g.mem
  · have q6 : decide ((32 : Int) ≤ g.mem) = true := decide_eq_true t2
    try simp only [go_sem, ruB, G1.at_, G2.at_, G3.at_, q6, ne1, ne2, ↓ct, ↓cg, h.t.one, h.g.one]
    exact same hX6 (by omega) (by unfold enterS; rw [if_neg (by rw [fresh_ok ⟨g1, g2⟩ hl]; omega), hg]; simp only []; rw [if_neg (by omega), if_neg (by omega), if_pos (by omega)])
  have q6 : decide ((32 : Int) ≤ g.mem) = false := decide_eq_false t2
  have hX' : enterS s id grp wt cap = ({ s with T := updL s.T id ⟨id, grp, 0, wt, cap, false⟩, G := cntU s.G grp 1 }, 0) := by unfold enterS; rw [if_neg (by rw [fresh_ok ⟨g1, g2⟩ hl]; omega), hg]; simp only []; rw [if_neg (by omega), if_neg (by omega), if_neg (by omega)]
  try simp only [go_sem, ruB, G1.at_, G2.at_, G3.at_, q6, ne1, ne2, ↓ct, ↓cg, h.t.one, h.g.one, ↓kfill_t2]
  refine gC.of (refWith (t := ⟨id, grp, 0, wt, cap, false⟩) (h.keep hX6) (by have := outT_len (T := w.T) (id := id); show (outT w.T id).length ≤ 99; omega)) ?_
  rintro _ m8 ⟨hx8, tv', rfl, hv8, hf8⟩
  have F3 := G3.keep hx8
  have ct' := hv8.t.cells
  try simp only [go_sem, ruB, F3.at_, ↓ct', ↓cg, hv8.t.one, h.g.one]
  refine DoP.fin h hv8 rfl (hX6.trans hx8) (by omega) (show m2.next < m6.next by omega) (.inr hf8) (.inl rfl) ?_ (by rw [hX'])
  rw [hX']
  exact r.put (id := id) (t := ⟨id, grp, 0, wt, cap, false⟩) k rfl r.cntU

set_option maxHeartbeats 4000000 in
theorem refMembers10 {s : Rs} {w : Rr} {tv gv : Value} {id grp sh wt cap co n : Int} (h : RrV m w tv gv) (r : RRel s w) (k : RsWf s) : WC R F.ref28_members [rrA w.f tv gv, .agg (cmV ⟨10, id, grp, sh, wt, cap, co, n⟩).toArray] m (DoP m tv gv (weighS s id wt)) := by
  refine WC.of R.ref28_members rfl ?_
  simp only [RC.ref28_members, cmV, go_sem, h.t.one, h.g.one]
  have hx1 : Ext m (m.new (.cells [.int .i64 w.f, tv, gv] (some 3))) := Ext.new
  have hb1 : Bk (m.new (.cells [.int .i64 w.f, tv, gv] (some 3))) m.next [.int .i64 w.f, tv, gv] 3 := Bk.new
  have hn1 : (m.new (.cells [.int .i64 w.f, tv, gv] (some 3))).next = m.next + 1 := rfl
  generalize m.new (.cells [.int .i64 w.f, tv, gv] (some 3)) = m1 at hx1 hb1 hn1 ⊢
  have hx2 : Ext m1 (m1.new (.cells [.int .i64 10, .int .i64 id, .int .i64 grp, .int .i64 sh, .int .i64 wt, .int .i64 cap, .int .i64 co, .int .i64 n] (some 8))) := Ext.new
  have hb2 : Bk (m1.new (.cells [.int .i64 10, .int .i64 id, .int .i64 grp, .int .i64 sh, .int .i64 wt, .int .i64 cap, .int .i64 co, .int .i64 n] (some 8))) m1.next [.int .i64 10, .int .i64 id, .int .i64 grp, .int .i64 sh, .int .i64 wt, .int .i64 cap, .int .i64 co, .int .i64 n] 8 := Bk.new
  have hn2 : (m1.new (.cells [.int .i64 10, .int .i64 id, .int .i64 grp, .int .i64 sh, .int .i64 wt, .int .i64 cap, .int .i64 co, .int .i64 n] (some 8))).next = m1.next + 1 := rfl
  generalize m1.new (.cells [.int .i64 10, .int .i64 id, .int .i64 grp, .int .i64 sh, .int .i64 wt, .int .i64 cap, .int .i64 co, .int .i64 n] (some 8)) = m2 at hx2 hb2 hn2 ⊢
  have hx3 : Ext m2 (m2.new (.cells [.int .i64 0, .slice none 0 0, .slice none 0 0] (some 3))) := Ext.new
  have hb3 : Bk (m2.new (.cells [.int .i64 0, .slice none 0 0, .slice none 0 0] (some 3))) m2.next [.int .i64 0, .slice none 0 0, .slice none 0 0] 3 := Bk.new
  have hn3 : (m2.new (.cells [.int .i64 0, .slice none 0 0, .slice none 0 0] (some 3))).next = m2.next + 1 := rfl
  generalize m2.new (.cells [.int .i64 0, .slice none 0 0, .slice none 0 0] (some 3)) = m3 at hx3 hb3 hn3 ⊢
  have B1 := (hb1.keep hx2).keep hx3
  have B2 := hb2.keep hx3
  have B3 := hb3
  have hX3 := (hx1.trans hx2).trans hx3
  have n3 := hX3.next
  have ne1 : (m.next = m2.next) = False := eq_false (by omega)
  have ne2 : (m2.next = m.next) = False := eq_false (by omega)
  have ct := h.t.cells
  have cg := h.g.cells
  have same : ∀ {M : Mem} {E : Int} {o : Option AObj}, Ext m M → m2.next < M.next → weighS s id wt = (s, E) → DoP m tv gv (weighS s id wt) (.tuple #[.agg #[.int .i64 w.f, tv, gv], .int .i64 E]) (M.set m2.next o) := fun hM hq he => DoP.fin h (h.keep hM) rfl hM (by omega) hq (.inl rfl) (.inl rfl) (by rw [he]; exact r) (by rw [he])
  have f10 : ((10 : Int) == 10) = true := rfl
  have f11 : ((10 : Int) == 11) = false := rfl
  have f12 : ((10 : Int) == 12) = false := rfl
  try simp only [go_sem, ruB, B1.at_, B2.at_, B3.at_]
  refine gC.of (refFindR (h.keep hX3) r k) ?_
  rintro v m4 ⟨hx4, hv⟩
  have hX4 := hX3.trans hx4
  have n4 := hx4.next
  have C1 := B1.keep hx4
  have C2 := B2.keep hx4
  have C3 := B3.keep hx4
  rcases hv with ⟨i, hi, hl, rfl⟩ | ⟨hl, rfl⟩
  rotate_left
  · have e3 : decide ((-1 : Int) < 0) = true := rfl
    try simp only [go_sem, ruB, C1.at_, C2.at_, C3.at_, e3, ne1, ne2, ↓ct, ↓cg, h.t.one, h.g.one]
    exact same hX4 (by omega) (by unfold weighS; rw [hl])
  have e3 : decide (((i : Nat) : Int) < 0) = false := decide_eq_false (by omega)
  obtain ⟨bb, oo, a1, a2, -, -⟩ := (h.t.keep h.tl hX4).elem tkV_len (k := .i64) hi
  generalize w.T[i] = t at *
  obtain ⟨ht, hid⟩ := k.tk hl
  have hlen := r.tl
  have hltl := k.k.tl
  have hout := outT_len (T := w.T) (id := id)
  simp only [tkV] at a2
  have n71 : (m.next = m4.next) = False := eq_false (by omega)
  have n72 : (m1.next = m4.next) = False := eq_false (by omega)
  have n73 : (m2.next = m4.next) = False := eq_false (by omega)
  try simp only [go_sem, ruB, C1.at_, C2.at_, C3.at_, e3, a1, a2, n71, n72, n73]
  have hx5 : Ext m4 (m4.new (.cells [.int .i64 t.id, .int .i64 t.grp, .int .i64 t.share, .int .i64 t.weight, .int .i64 t.cap, .bool t.off] (some 6))) := Ext.new
  have hb5 : Bk (m4.new (.cells [.int .i64 t.id, .int .i64 t.grp, .int .i64 t.share, .int .i64 t.weight, .int .i64 t.cap, .bool t.off] (some 6))) m4.next [.int .i64 t.id, .int .i64 t.grp, .int .i64 t.share, .int .i64 t.weight, .int .i64 t.cap, .bool t.off] 6 := Bk.new
  have hn5 : (m4.new (.cells [.int .i64 t.id, .int .i64 t.grp, .int .i64 t.share, .int .i64 t.weight, .int .i64 t.cap, .bool t.off] (some 6))).next = m4.next + 1 := rfl
  generalize m4.new (.cells [.int .i64 t.id, .int .i64 t.grp, .int .i64 t.share, .int .i64 t.weight, .int .i64 t.cap, .bool t.off] (some 6)) = m5 at hx5 hb5 hn5 ⊢
  have hX5 := hX4.trans hx5
  have n5 := hx5.next
  have D1 := C1.keep hx5
  have D2 := C2.keep hx5
  have D3 := C3.keep hx5
  have D7 := hb5
  by_cases g1 : t.grp = 0
  · have e4 : (t.grp == 0) = true := by rw [beq_iff_eq]; exact g1
    have hX' : weighS s id wt = (s, 14) := by unfold weighS; rw [hl]; simp only []; rw [if_pos g1]
    try simp only [go_sem, ruB, D1.at_, D2.at_, D3.at_, D7.at_, e4, ne1, ne2, ↓ct, ↓cg, h.t.one, h.g.one, n71, n72, n73]
    exact same hX5 (by omega) hX'
  have e4 : (t.grp == 0) = false := by rw [beq_eq_false_iff_ne]; exact g1
  by_cases w1 : 1 ≤ wt
  rotate_left
  · have q1 : decide (wt < 1) = true := decide_eq_true (by omega)
    try simp only [go_sem, ruB, D1.at_, D2.at_, D3.at_, D7.at_, e4, f10, f11, f12, q1, ne1, ne2, ↓ct, ↓cg, h.t.one, h.g.one, n71, n72, n73]
    exact same hX5 (by omega) (by unfold weighS; rw [hl]; simp only []; rw [if_neg g1, if_pos (by omega)])
  have q1 : decide (wt < 1) = false := decide_eq_false (by omega)
  by_cases w2 : wt ≤ 1000
  rotate_left
  · have q2 : decide (1000 < wt) = true := decide_eq_true (by omega)
    try simp only [go_sem, ruB, D1.at_, D2.at_, D3.at_, D7.at_, e4, f10, f11, f12, q1, q2, ne1, ne2, ↓ct, ↓cg, h.t.one, h.g.one, n71, n72, n73]
    exact same hX5 (by omega) (by unfold weighS; rw [hl]; simp only []; rw [if_neg g1, if_pos (by omega)])
  have q2 : decide (1000 < wt) = false := decide_eq_false (by omega)
  have hX' : weighS s id wt = ({ s with T := updL s.T id { t with weight := wt } }, 0) := by unfold weighS; rw [hl]; simp only []; rw [if_neg g1, if_neg (by omega)]
  try simp only [go_sem, ruB, D1.at_, D2.at_, D3.at_, D7.at_, e4, f10, f11, f12, q1, q2, ne1, ne2, ↓ct, ↓cg, h.t.one, h.g.one, n71, n72, n73]
  have hU : Upd m5 (m5.set m4.next (some (.cells [.int .i64 t.id, .int .i64 t.grp, .int .i64 t.share, .int .i64 wt, .int .i64 t.cap, .bool t.off] (some 6)))) [m4.next] := Upd.set (by simp)
  have E3 := D3.upd hU (by simp; omega)
  have hE := hX5.set (o := some (.cells [.int .i64 t.id, .int .i64 t.grp, .int .i64 t.share, .int .i64 wt, .int .i64 t.cap, .bool t.off] (some 6))) (show m.next ≤ m4.next by omega)
  refine gC.of (refWith (t := { t with weight := wt }) (h.keep hE) (by show (outT w.T t.id).length ≤ 99; rw [hid]; omega)) ?_
  rintro _ m8 ⟨hx8, tv', rfl, hv8, hf8⟩
  have F3 := E3.keep hx8
  have ct' := hv8.t.cells
  try simp only [go_sem, ruB, F3.at_, ↓ct', ↓cg, hv8.t.one, h.g.one]
  have n8 : m2.next < (m5.set m4.next (some (.cells [.int .i64 t.id, .int .i64 t.grp, .int .i64 t.share, .int .i64 wt, .int .i64 t.cap, .bool t.off] (some 6)))).next := by show m2.next < m5.next; omega
  refine DoP.fin h hv8 rfl (hE.trans hx8) (by omega) n8 (.inr hf8) (.inl rfl) ?_ (by rw [hX'])
  rw [hX']
  exact r.put (id := id) (t := { t with weight := wt }) k hid r.G

set_option maxHeartbeats 4000000 in
theorem refMembers11 {s : Rs} {w : Rr} {tv gv : Value} {id grp sh wt cap co n : Int} (h : RrV m w tv gv) (r : RRel s w) (k : RsWf s) : WC R F.ref28_members [rrA w.f tv gv, .agg (cmV ⟨11, id, grp, sh, wt, cap, co, n⟩).toArray] m (DoP m tv gv (limitS s id cap)) := by
  refine WC.of R.ref28_members rfl ?_
  simp only [RC.ref28_members, cmV, go_sem, h.t.one, h.g.one]
  have hx1 : Ext m (m.new (.cells [.int .i64 w.f, tv, gv] (some 3))) := Ext.new
  have hb1 : Bk (m.new (.cells [.int .i64 w.f, tv, gv] (some 3))) m.next [.int .i64 w.f, tv, gv] 3 := Bk.new
  have hn1 : (m.new (.cells [.int .i64 w.f, tv, gv] (some 3))).next = m.next + 1 := rfl
  generalize m.new (.cells [.int .i64 w.f, tv, gv] (some 3)) = m1 at hx1 hb1 hn1 ⊢
  have hx2 : Ext m1 (m1.new (.cells [.int .i64 11, .int .i64 id, .int .i64 grp, .int .i64 sh, .int .i64 wt, .int .i64 cap, .int .i64 co, .int .i64 n] (some 8))) := Ext.new
  have hb2 : Bk (m1.new (.cells [.int .i64 11, .int .i64 id, .int .i64 grp, .int .i64 sh, .int .i64 wt, .int .i64 cap, .int .i64 co, .int .i64 n] (some 8))) m1.next [.int .i64 11, .int .i64 id, .int .i64 grp, .int .i64 sh, .int .i64 wt, .int .i64 cap, .int .i64 co, .int .i64 n] 8 := Bk.new
  have hn2 : (m1.new (.cells [.int .i64 11, .int .i64 id, .int .i64 grp, .int .i64 sh, .int .i64 wt, .int .i64 cap, .int .i64 co, .int .i64 n] (some 8))).next = m1.next + 1 := rfl
  generalize m1.new (.cells [.int .i64 11, .int .i64 id, .int .i64 grp, .int .i64 sh, .int .i64 wt, .int .i64 cap, .int .i64 co, .int .i64 n] (some 8)) = m2 at hx2 hb2 hn2 ⊢
  have hx3 : Ext m2 (m2.new (.cells [.int .i64 0, .slice none 0 0, .slice none 0 0] (some 3))) := Ext.new
  have hb3 : Bk (m2.new (.cells [.int .i64 0, .slice none 0 0, .slice none 0 0] (some 3))) m2.next [.int .i64 0, .slice none 0 0, .slice none 0 0] 3 := Bk.new
  have hn3 : (m2.new (.cells [.int .i64 0, .slice none 0 0, .slice none 0 0] (some 3))).next = m2.next + 1 := rfl
  generalize m2.new (.cells [.int .i64 0, .slice none 0 0, .slice none 0 0] (some 3)) = m3 at hx3 hb3 hn3 ⊢
  have B1 := (hb1.keep hx2).keep hx3
  have B2 := hb2.keep hx3
  have B3 := hb3
  have hX3 := (hx1.trans hx2).trans hx3
  have n3 := hX3.next
  have ne1 : (m.next = m2.next) = False := eq_false (by omega)
  have ne2 : (m2.next = m.next) = False := eq_false (by omega)
  have ct := h.t.cells
  have cg := h.g.cells
  have same : ∀ {M : Mem} {E : Int} {o : Option AObj}, Ext m M → m2.next < M.next → limitS s id cap = (s, E) → DoP m tv gv (limitS s id cap) (.tuple #[.agg #[.int .i64 w.f, tv, gv], .int .i64 E]) (M.set m2.next o) := fun hM hq he => DoP.fin h (h.keep hM) rfl hM (by omega) hq (.inl rfl) (.inl rfl) (by rw [he]; exact r) (by rw [he])
  have f10 : ((11 : Int) == 10) = false := rfl
  have f11 : ((11 : Int) == 11) = true := rfl
  have f12 : ((11 : Int) == 12) = false := rfl
  try simp only [go_sem, ruB, B1.at_, B2.at_, B3.at_]
  refine gC.of (refFindR (h.keep hX3) r k) ?_
  rintro v m4 ⟨hx4, hv⟩
  have hX4 := hX3.trans hx4
  have n4 := hx4.next
  have C1 := B1.keep hx4
  have C2 := B2.keep hx4
  have C3 := B3.keep hx4
  rcases hv with ⟨i, hi, hl, rfl⟩ | ⟨hl, rfl⟩
  rotate_left
  · have e3 : decide ((-1 : Int) < 0) = true := rfl
    try simp only [go_sem, ruB, C1.at_, C2.at_, C3.at_, e3, ne1, ne2, ↓ct, ↓cg, h.t.one, h.g.one]
    exact same hX4 (by omega) (by unfold limitS; rw [hl])
  have e3 : decide (((i : Nat) : Int) < 0) = false := decide_eq_false (by omega)
  obtain ⟨bb, oo, a1, a2, -, -⟩ := (h.t.keep h.tl hX4).elem tkV_len (k := .i64) hi
  generalize w.T[i] = t at *
  obtain ⟨ht, hid⟩ := k.tk hl
  have hlen := r.tl
  have hltl := k.k.tl
  have hout := outT_len (T := w.T) (id := id)
  simp only [tkV] at a2
  have n71 : (m.next = m4.next) = False := eq_false (by omega)
  have n72 : (m1.next = m4.next) = False := eq_false (by omega)
  have n73 : (m2.next = m4.next) = False := eq_false (by omega)
  try simp only [go_sem, ruB, C1.at_, C2.at_, C3.at_, e3, a1, a2, n71, n72, n73]
  have hx5 : Ext m4 (m4.new (.cells [.int .i64 t.id, .int .i64 t.grp, .int .i64 t.share, .int .i64 t.weight, .int .i64 t.cap, .bool t.off] (some 6))) := Ext.new
  have hb5 : Bk (m4.new (.cells [.int .i64 t.id, .int .i64 t.grp, .int .i64 t.share, .int .i64 t.weight, .int .i64 t.cap, .bool t.off] (some 6))) m4.next [.int .i64 t.id, .int .i64 t.grp, .int .i64 t.share, .int .i64 t.weight, .int .i64 t.cap, .bool t.off] 6 := Bk.new
  have hn5 : (m4.new (.cells [.int .i64 t.id, .int .i64 t.grp, .int .i64 t.share, .int .i64 t.weight, .int .i64 t.cap, .bool t.off] (some 6))).next = m4.next + 1 := rfl
  generalize m4.new (.cells [.int .i64 t.id, .int .i64 t.grp, .int .i64 t.share, .int .i64 t.weight, .int .i64 t.cap, .bool t.off] (some 6)) = m5 at hx5 hb5 hn5 ⊢
  have hX5 := hX4.trans hx5
  have n5 := hx5.next
  have D1 := C1.keep hx5
  have D2 := C2.keep hx5
  have D3 := C3.keep hx5
  have D7 := hb5
  by_cases g1 : t.grp = 0
  · have e4 : (t.grp == 0) = true := by rw [beq_iff_eq]; exact g1
    have hX' : limitS s id cap = (s, 14) := by unfold limitS; rw [hl]; simp only []; rw [if_pos g1]
    try simp only [go_sem, ruB, D1.at_, D2.at_, D3.at_, D7.at_, e4, ne1, ne2, ↓ct, ↓cg, h.t.one, h.g.one, n71, n72, n73]
    exact same hX5 (by omega) hX'
  have e4 : (t.grp == 0) = false := by rw [beq_eq_false_iff_ne]; exact g1
  have hwf := r.f
  by_cases w1 : cap < 0
  · have q1 : decide (cap < 0) = true := decide_eq_true (by omega)
    try simp only [go_sem, ruB, D1.at_, D2.at_, D3.at_, D7.at_, e4, f10, f11, f12, q1, ne1, ne2, ↓ct, ↓cg, h.t.one, h.g.one, n71, n72, n73]
    exact same hX5 (by omega) (by unfold limitS; rw [hl]; simp only []; rw [if_neg g1, if_pos (by omega)])
  have q1 : decide (cap < 0) = false := decide_eq_false (by omega)
  by_cases w2 : w.f < cap
  · have q2 : decide (w.f < cap) = true := decide_eq_true (by omega)
    try simp only [go_sem, ruB, D1.at_, D2.at_, D3.at_, D7.at_, e4, f10, f11, f12, q1, q2, ne1, ne2, ↓ct, ↓cg, h.t.one, h.g.one, n71, n72, n73]
    exact same hX5 (by omega) (by unfold limitS; rw [hl]; simp only []; rw [if_neg g1, if_pos (by omega)])
  have q2 : decide (w.f < cap) = false := decide_eq_false (by omega)
  have hX' : limitS s id cap = ({ s with T := updL s.T id { t with cap := cap } }, 0) := by unfold limitS; rw [hl]; simp only []; rw [if_neg g1, if_neg (by omega)]
  try simp only [go_sem, ruB, D1.at_, D2.at_, D3.at_, D7.at_, e4, f10, f11, f12, q1, q2, ne1, ne2, ↓ct, ↓cg, h.t.one, h.g.one, n71, n72, n73]
  have hU : Upd m5 (m5.set m4.next (some (.cells [.int .i64 t.id, .int .i64 t.grp, .int .i64 t.share, .int .i64 t.weight, .int .i64 cap, .bool t.off] (some 6)))) [m4.next] := Upd.set (by simp)
  have E3 := D3.upd hU (by simp; omega)
  have hE := hX5.set (o := some (.cells [.int .i64 t.id, .int .i64 t.grp, .int .i64 t.share, .int .i64 t.weight, .int .i64 cap, .bool t.off] (some 6))) (show m.next ≤ m4.next by omega)
  refine gC.of (refWith (t := { t with cap := cap }) (h.keep hE) (by show (outT w.T t.id).length ≤ 99; rw [hid]; omega)) ?_
  rintro _ m8 ⟨hx8, tv', rfl, hv8, hf8⟩
  have F3 := E3.keep hx8
  have ct' := hv8.t.cells
  try simp only [go_sem, ruB, F3.at_, ↓ct', ↓cg, hv8.t.one, h.g.one]
  have n8 : m2.next < (m5.set m4.next (some (.cells [.int .i64 t.id, .int .i64 t.grp, .int .i64 t.share, .int .i64 t.weight, .int .i64 cap, .bool t.off] (some 6)))).next := by show m2.next < m5.next; omega
  refine DoP.fin h hv8 rfl (hE.trans hx8) (by omega) n8 (.inr hf8) (.inl rfl) ?_ (by rw [hX'])
  rw [hX']
  exact r.put (id := id) (t := { t with cap := cap }) k hid r.G

set_option maxHeartbeats 4000000 in
theorem refMembers12 {s : Rs} {w : Rr} {tv gv : Value} {id grp sh wt cap co n : Int} (h : RrV m w tv gv) (r : RRel s w) (k : RsWf s) : WC R F.ref28_members [rrA w.f tv gv, .agg (cmV ⟨12, id, grp, sh, wt, cap, co, n⟩).toArray] m (DoP m tv gv (moveS s id grp)) := by
  refine WC.of R.ref28_members rfl ?_
  simp only [RC.ref28_members, cmV, go_sem, h.t.one, h.g.one]
  have hx1 : Ext m (m.new (.cells [.int .i64 w.f, tv, gv] (some 3))) := Ext.new
  have hb1 : Bk (m.new (.cells [.int .i64 w.f, tv, gv] (some 3))) m.next [.int .i64 w.f, tv, gv] 3 := Bk.new
  have hn1 : (m.new (.cells [.int .i64 w.f, tv, gv] (some 3))).next = m.next + 1 := rfl
  generalize m.new (.cells [.int .i64 w.f, tv, gv] (some 3)) = m1 at hx1 hb1 hn1 ⊢
  have hx2 : Ext m1 (m1.new (.cells [.int .i64 12, .int .i64 id, .int .i64 grp, .int .i64 sh, .int .i64 wt, .int .i64 cap, .int .i64 co, .int .i64 n] (some 8))) := Ext.new
  have hb2 : Bk (m1.new (.cells [.int .i64 12, .int .i64 id, .int .i64 grp, .int .i64 sh, .int .i64 wt, .int .i64 cap, .int .i64 co, .int .i64 n] (some 8))) m1.next [.int .i64 12, .int .i64 id, .int .i64 grp, .int .i64 sh, .int .i64 wt, .int .i64 cap, .int .i64 co, .int .i64 n] 8 := Bk.new
  have hn2 : (m1.new (.cells [.int .i64 12, .int .i64 id, .int .i64 grp, .int .i64 sh, .int .i64 wt, .int .i64 cap, .int .i64 co, .int .i64 n] (some 8))).next = m1.next + 1 := rfl
  generalize m1.new (.cells [.int .i64 12, .int .i64 id, .int .i64 grp, .int .i64 sh, .int .i64 wt, .int .i64 cap, .int .i64 co, .int .i64 n] (some 8)) = m2 at hx2 hb2 hn2 ⊢
  have hx3 : Ext m2 (m2.new (.cells [.int .i64 0, .slice none 0 0, .slice none 0 0] (some 3))) := Ext.new
  have hb3 : Bk (m2.new (.cells [.int .i64 0, .slice none 0 0, .slice none 0 0] (some 3))) m2.next [.int .i64 0, .slice none 0 0, .slice none 0 0] 3 := Bk.new
  have hn3 : (m2.new (.cells [.int .i64 0, .slice none 0 0, .slice none 0 0] (some 3))).next = m2.next + 1 := rfl
  generalize m2.new (.cells [.int .i64 0, .slice none 0 0, .slice none 0 0] (some 3)) = m3 at hx3 hb3 hn3 ⊢
  have B1 := (hb1.keep hx2).keep hx3
  have B2 := hb2.keep hx3
  have B3 := hb3
  have hX3 := (hx1.trans hx2).trans hx3
  have n3 := hX3.next
  have ne1 : (m.next = m2.next) = False := eq_false (by omega)
  have ne2 : (m2.next = m.next) = False := eq_false (by omega)
  have ct := h.t.cells
  have cg := h.g.cells
  have same : ∀ {M : Mem} {E : Int} {o : Option AObj}, Ext m M → m2.next < M.next → moveS s id grp = (s, E) → DoP m tv gv (moveS s id grp) (.tuple #[.agg #[.int .i64 w.f, tv, gv], .int .i64 E]) (M.set m2.next o) := fun hM hq he => DoP.fin h (h.keep hM) rfl hM (by omega) hq (.inl rfl) (.inl rfl) (by rw [he]; exact r) (by rw [he])
  have f10 : ((12 : Int) == 10) = false := rfl
  have f11 : ((12 : Int) == 11) = false := rfl
  have f12 : ((12 : Int) == 12) = true := rfl
  try simp only [go_sem, ruB, B1.at_, B2.at_, B3.at_]
  refine gC.of (refFindR (h.keep hX3) r k) ?_
  rintro v m4 ⟨hx4, hv⟩
  have hX4 := hX3.trans hx4
  have n4 := hx4.next
  have C1 := B1.keep hx4
  have C2 := B2.keep hx4
  have C3 := B3.keep hx4
  rcases hv with ⟨i, hi, hl, rfl⟩ | ⟨hl, rfl⟩
  rotate_left
  · have e3 : decide ((-1 : Int) < 0) = true := rfl
    try simp only [go_sem, ruB, C1.at_, C2.at_, C3.at_, e3, ne1, ne2, ↓ct, ↓cg, h.t.one, h.g.one]
    exact same hX4 (by omega) (by unfold moveS; rw [hl])
  have e3 : decide (((i : Nat) : Int) < 0) = false := decide_eq_false (by omega)
  obtain ⟨bb, oo, a1, a2, -, -⟩ := (h.t.keep h.tl hX4).elem tkV_len (k := .i64) hi
  generalize w.T[i] = t at *
  obtain ⟨ht, hid⟩ := k.tk hl
  have hlen := r.tl
  have hltl := k.k.tl
  have hout := outT_len (T := w.T) (id := id)
  simp only [tkV] at a2
  have n71 : (m.next = m4.next) = False := eq_false (by omega)
  have n72 : (m1.next = m4.next) = False := eq_false (by omega)
  have n73 : (m2.next = m4.next) = False := eq_false (by omega)
  try simp only [go_sem, ruB, C1.at_, C2.at_, C3.at_, e3, a1, a2, n71, n72, n73]
  have hx5 : Ext m4 (m4.new (.cells [.int .i64 t.id, .int .i64 t.grp, .int .i64 t.share, .int .i64 t.weight, .int .i64 t.cap, .bool t.off] (some 6))) := Ext.new
  have hb5 : Bk (m4.new (.cells [.int .i64 t.id, .int .i64 t.grp, .int .i64 t.share, .int .i64 t.weight, .int .i64 t.cap, .bool t.off] (some 6))) m4.next [.int .i64 t.id, .int .i64 t.grp, .int .i64 t.share, .int .i64 t.weight, .int .i64 t.cap, .bool t.off] 6 := Bk.new
  have hn5 : (m4.new (.cells [.int .i64 t.id, .int .i64 t.grp, .int .i64 t.share, .int .i64 t.weight, .int .i64 t.cap, .bool t.off] (some 6))).next = m4.next + 1 := rfl
  generalize m4.new (.cells [.int .i64 t.id, .int .i64 t.grp, .int .i64 t.share, .int .i64 t.weight, .int .i64 t.cap, .bool t.off] (some 6)) = m5 at hx5 hb5 hn5 ⊢
  have hX5 := hX4.trans hx5
  have n5 := hx5.next
  have D1 := C1.keep hx5
  have D2 := C2.keep hx5
  have D3 := C3.keep hx5
  have D7 := hb5
  by_cases g1 : t.grp = 0
  · have e4 : (t.grp == 0) = true := by rw [beq_iff_eq]; exact g1
    have hX' : moveS s id grp = (s, 14) := by unfold moveS; rw [hl]; simp only []; rw [if_pos g1]
    try simp only [go_sem, ruB, D1.at_, D2.at_, D3.at_, D7.at_, e4, ne1, ne2, ↓ct, ↓cg, h.t.one, h.g.one, n71, n72, n73]
    exact same hX5 (by omega) hX'
  have e4 : (t.grp == 0) = false := by rw [beq_eq_false_iff_ne]; exact g1
  try simp only [go_sem, ruB, D1.at_, D2.at_, D3.at_, D7.at_, e4, f10, f11, f12, ne1, ne2, ↓ct, ↓cg, h.t.one, h.g.one, n71, n72, n73]
  refine gC.of (refGroupR (h.keep hX5) r k) ?_
  rintro v m6 ⟨hx6, hv⟩
  have hX6 := hX5.trans hx6
  have n6 := hx6.next
  have G1 := D1.keep hx6
  have G2 := D2.keep hx6
  have G3 := D3.keep hx6
  have G7 := D7.keep hx6
  rcases hv with ⟨i2, hi2, g, hg, hgi, rfl⟩ | ⟨hg, rfl⟩
  rotate_left
  · have e5 : decide ((-1 : Int) < 0) = true := rfl
    try simp only [go_sem, ruB, G1.at_, G2.at_, G3.at_, e5, ne1, ne2, ↓ct, ↓cg, h.t.one, h.g.one]
    exact same hX6 (by omega) (by unfold moveS; rw [hl]; simp only []; rw [if_neg g1, hg])
  have e5 : decide (((i2 : Nat) : Int) < 0) = false := decide_eq_false (by omega)
  by_cases g2 : t.grp = grp
  · have e6 : (t.grp == grp) = true := by rw [beq_iff_eq]; exact g2
    try simp only [go_sem, ruB, G1.at_, G2.at_, G3.at_, G7.at_, e5, e6, ne1, ne2, ↓ct, ↓cg, h.t.one, h.g.one]
    exact same hX6 (by omega) (by unfold moveS; rw [hl]; simp only []; rw [if_neg g1, hg]; simp only []; rw [if_pos g2])
  have e6 : (t.grp == grp) = false := by rw [beq_eq_false_iff_ne]; exact g2
  try simp only [go_sem, ruB, G1.at_, G2.at_, G3.at_, G7.at_, e5, e6, ne1, ne2, ↓ct, ↓cg, h.t.one, h.g.one]
  refine gC.of (refMembers (h.keep hX6)) ?_
  rintro _ m7 ⟨hx7, rfl⟩
  have hX7 := hX6.trans hx7
  have n7 := hx7.next
  have H1 := G1.keep hx7
  have H2 := G2.keep hx7
  have H3 := G3.keep hx7
  have H7 := G7.keep hx7
  rw [r.mem k hg]
  by_cases t2 : 32 ≤ g.mem
  · have q6 : decide ((32 : Int) ≤ g.mem) = true := decide_eq_true t2
    try simp only [go_sem, ruB, H1.at_, H2.at_, H3.at_, H7.at_, q6, ne1, ne2, ↓ct, ↓cg, h.t.one, h.g.one]
    exact same hX7 (by omega) (by unfold moveS; rw [hl]; simp only []; rw [if_neg g1, hg]; simp only []; rw [if_neg g2, if_pos t2])
  have q6 : decide ((32 : Int) ≤ g.mem) = false := decide_eq_false t2
  have hX' : moveS s id grp = ({ s with G := cntU (cntU s.G t.grp (-1)) grp 1, T := updL s.T id { t with grp := grp } }, 0) := by unfold moveS; rw [hl]; simp only []; rw [if_neg g1, hg]; simp only []; rw [if_neg g2, if_neg t2]
  try simp only [go_sem, ruB, H1.at_, H2.at_, H3.at_, H7.at_, q6, ne1, ne2, ↓ct, ↓cg, h.t.one, h.g.one, n71, n72, n73]
  have hU : Upd m7 (m7.set m4.next (some (.cells [.int .i64 t.id, .int .i64 grp, .int .i64 t.share, .int .i64 t.weight, .int .i64 t.cap, .bool t.off] (some 6)))) [m4.next] := Upd.set (by simp)
  have E3 := H3.upd hU (by simp; omega)
  have hE := hX7.set (o := some (.cells [.int .i64 t.id, .int .i64 grp, .int .i64 t.share, .int .i64 t.weight, .int .i64 t.cap, .bool t.off] (some 6))) (show m.next ≤ m4.next by omega)
  refine gC.of (refWith (t := { t with grp := grp }) (h.keep hE) (by show (outT w.T t.id).length ≤ 99; rw [hid]; omega)) ?_
  rintro _ m8 ⟨hx8, tv', rfl, hv8, hf8⟩
  have F3 := E3.keep hx8
  have ct' := hv8.t.cells
  try simp only [go_sem, ruB, F3.at_, ↓ct', ↓cg, hv8.t.one, h.g.one]
  have n8 : m2.next < (m7.set m4.next (some (.cells [.int .i64 t.id, .int .i64 grp, .int .i64 t.share, .int .i64 t.weight, .int .i64 t.cap, .bool t.off] (some 6)))).next := by show m2.next < m7.next; omega
  refine DoP.fin h hv8 rfl (hE.trans hx8) (by omega) n8 (.inr hf8) (.inl rfl) ?_ (by rw [hX'])
  rw [hX']
  exact r.put (id := id) (t := { t with grp := grp }) k hid (by rw [cntU_map]; exact r.cntU)
end Go.Am


/- RosterR8 over the table of ledgerz (relayset.py). -/
set_option linter.unusedVariables false
set_option linter.unusedSimpArgs false
namespace Go.Am
open Classical
variable {m : Mem}

set_option maxHeartbeats 8000000 in
theorem refDo28 {s : Rs} {w : Rr} {tv gv : Value} {c : Cm} (h : RrV m w tv gv) (r : RRel s w) (k : RsWf s) : WC R F.ref28_Do [rrA w.f tv gv, .agg (cmV c).toArray] m (DoP m tv gv (doS s c)) := by
  obtain ⟨op, id, grp, sh, wt, cap, co, n⟩ := c
  refine WC.of R.ref28_Do rfl ?_
  simp only [RC.ref28_Do, cmV, go_sem, h.t.one, h.g.one]
  have hx1 : Ext m (m.new (.cells [.int .i64 w.f, tv, gv] (some 3))) := Ext.new
  have hb1 : Bk (m.new (.cells [.int .i64 w.f, tv, gv] (some 3))) m.next [.int .i64 w.f, tv, gv] 3 := Bk.new
  have hn1 : (m.new (.cells [.int .i64 w.f, tv, gv] (some 3))).next = m.next + 1 := rfl
  generalize m.new (.cells [.int .i64 w.f, tv, gv] (some 3)) = m1 at hx1 hb1 hn1 ⊢
  have hx2 : Ext m1 (m1.new (.cells [.int .i64 op, .int .i64 id, .int .i64 grp, .int .i64 sh, .int .i64 wt, .int .i64 cap, .int .i64 co, .int .i64 n] (some 8))) := Ext.new
  have hb2 : Bk (m1.new (.cells [.int .i64 op, .int .i64 id, .int .i64 grp, .int .i64 sh, .int .i64 wt, .int .i64 cap, .int .i64 co, .int .i64 n] (some 8))) m1.next [.int .i64 op, .int .i64 id, .int .i64 grp, .int .i64 sh, .int .i64 wt, .int .i64 cap, .int .i64 co, .int .i64 n] 8 := Bk.new
  have hn2 : (m1.new (.cells [.int .i64 op, .int .i64 id, .int .i64 grp, .int .i64 sh, .int .i64 wt, .int .i64 cap, .int .i64 co, .int .i64 n] (some 8))).next = m1.next + 1 := rfl
  generalize m1.new (.cells [.int .i64 op, .int .i64 id, .int .i64 grp, .int .i64 sh, .int .i64 wt, .int .i64 cap, .int .i64 co, .int .i64 n] (some 8)) = m2 at hx2 hb2 hn2 ⊢
  have hx3 : Ext m2 (m2.new (.cells [.int .i64 0, .slice none 0 0, .slice none 0 0] (some 3))) := Ext.new
  have hb3 : Bk (m2.new (.cells [.int .i64 0, .slice none 0 0, .slice none 0 0] (some 3))) m2.next [.int .i64 0, .slice none 0 0, .slice none 0 0] 3 := Bk.new
  have hn3 : (m2.new (.cells [.int .i64 0, .slice none 0 0, .slice none 0 0] (some 3))).next = m2.next + 1 := rfl
  generalize m2.new (.cells [.int .i64 0, .slice none 0 0, .slice none 0 0] (some 3)) = m3 at hx3 hb3 hn3 ⊢
  have B1 := (hb1.keep hx2).keep hx3
  have B2 := hb2.keep hx3
  have B3 := hb3
  have hX3 := (hx1.trans hx2).trans hx3
  have n3 := hX3.next
  have ne1 : (m.next = m2.next) = False := eq_false (by omega)
  have ne2 : (m2.next = m.next) = False := eq_false (by omega)
  have ct := h.t.cells
  have cg := h.g.cells
  by_cases g1 : op = 1
  · subst g1
    have f1 : ((1 : Int) == 1) = true := rfl
    have hX' : doS s ⟨1, id, grp, sh, wt, cap, co, n⟩ = arriveS s id sh := by unfold doS; simp
    rw [hX']
    try simp only [go_sem, ruB, B1.at_, B2.at_, f1]
    refine gC.of (refTasks1 (id := id) (grp := grp) (sh := sh) (wt := wt) (cap := cap) (co := co) (n := n) (h.keep hX3) r k) ?_
    rintro v m4 ⟨hx4, tv', gv', w', rfl, hv', hr', ht', hg'⟩
    have F3 := B3.keep hx4
    try simp only [go_sem, ruB, aExt0, aExt1, F3.at_, ↓hv'.t.cells, ↓hv'.g.cells, hv'.t.one, hv'.g.one]
    exact DoP.fin h hv' rfl (hX3.trans hx4) (by omega) (show m2.next < m3.next by omega) ht' hg' hr' rfl
  have f1 : (op == 1) = false := by rw [beq_eq_false_iff_ne]; exact g1
  by_cases g2 : op = 2
  · subst g2
    have f1 : ((2 : Int) == 1) = false := rfl
    have f2 : ((2 : Int) == 2) = true := rfl
    have hX' : doS s ⟨2, id, grp, sh, wt, cap, co, n⟩ = departS s id := by unfold doS; simp
    rw [hX']
    try simp only [go_sem, ruB, B1.at_, B2.at_, f1, f2]
    refine gC.of (refTasks2 (id := id) (grp := grp) (sh := sh) (wt := wt) (cap := cap) (co := co) (n := n) (h.keep hX3) r k) ?_
    rintro v m4 ⟨hx4, tv', gv', w', rfl, hv', hr', ht', hg'⟩
    have F3 := B3.keep hx4
    try simp only [go_sem, ruB, aExt0, aExt1, F3.at_, ↓hv'.t.cells, ↓hv'.g.cells, hv'.t.one, hv'.g.one]
    exact DoP.fin h hv' rfl (hX3.trans hx4) (by omega) (show m2.next < m3.next by omega) ht' hg' hr' rfl
  have f2 : (op == 2) = false := by rw [beq_eq_false_iff_ne]; exact g2
  by_cases g3 : op = 3
  · subst g3
    have f1 : ((3 : Int) == 1) = false := rfl
    have f2 : ((3 : Int) == 2) = false := rfl
    have f3 : ((3 : Int) == 3) = true := rfl
    have hX' : doS s ⟨3, id, grp, sh, wt, cap, co, n⟩ = reweightS s id sh := by unfold doS; simp
    rw [hX']
    try simp only [go_sem, ruB, B1.at_, B2.at_, f1, f2, f3]
    refine gC.of (refTasks3 (id := id) (grp := grp) (sh := sh) (wt := wt) (cap := cap) (co := co) (n := n) (h.keep hX3) r k) ?_
    rintro v m4 ⟨hx4, tv', gv', w', rfl, hv', hr', ht', hg'⟩
    have F3 := B3.keep hx4
    try simp only [go_sem, ruB, aExt0, aExt1, F3.at_, ↓hv'.t.cells, ↓hv'.g.cells, hv'.t.one, hv'.g.one]
    exact DoP.fin h hv' rfl (hX3.trans hx4) (by omega) (show m2.next < m3.next by omega) ht' hg' hr' rfl
  have f3 : (op == 3) = false := by rw [beq_eq_false_iff_ne]; exact g3
  by_cases g4 : op = 4
  · subst g4
    have f1 : ((4 : Int) == 1) = false := rfl
    have f2 : ((4 : Int) == 2) = false := rfl
    have f3 : ((4 : Int) == 3) = false := rfl
    have f4 : ((4 : Int) == 4) = true := rfl
    have hX' : doS s ⟨4, id, grp, sh, wt, cap, co, n⟩ = offS s id true := by unfold doS; simp
    rw [hX']
    try simp only [go_sem, ruB, B1.at_, B2.at_, f1, f2, f3, f4]
    refine gC.of (refTasks4 (id := id) (grp := grp) (sh := sh) (wt := wt) (cap := cap) (co := co) (n := n) (h.keep hX3) r k) ?_
    rintro v m4 ⟨hx4, tv', gv', w', rfl, hv', hr', ht', hg'⟩
    have F3 := B3.keep hx4
    try simp only [go_sem, ruB, aExt0, aExt1, F3.at_, ↓hv'.t.cells, ↓hv'.g.cells, hv'.t.one, hv'.g.one]
    exact DoP.fin h hv' rfl (hX3.trans hx4) (by omega) (show m2.next < m3.next by omega) ht' hg' hr' rfl
  have f4 : (op == 4) = false := by rw [beq_eq_false_iff_ne]; exact g4
  by_cases g5 : op = 5
  · subst g5
    have f1 : ((5 : Int) == 1) = false := rfl
    have f2 : ((5 : Int) == 2) = false := rfl
    have f3 : ((5 : Int) == 3) = false := rfl
    have f4 : ((5 : Int) == 4) = false := rfl
    have f5 : ((5 : Int) == 5) = true := rfl
    have hX' : doS s ⟨5, id, grp, sh, wt, cap, co, n⟩ = offS s id false := by unfold doS; simp
    rw [hX']
    try simp only [go_sem, ruB, B1.at_, B2.at_, f1, f2, f3, f4, f5]
    refine gC.of (refTasks5 (id := id) (grp := grp) (sh := sh) (wt := wt) (cap := cap) (co := co) (n := n) (h.keep hX3) r k) ?_
    rintro v m4 ⟨hx4, tv', gv', w', rfl, hv', hr', ht', hg'⟩
    have F3 := B3.keep hx4
    try simp only [go_sem, ruB, aExt0, aExt1, F3.at_, ↓hv'.t.cells, ↓hv'.g.cells, hv'.t.one, hv'.g.one]
    exact DoP.fin h hv' rfl (hX3.trans hx4) (by omega) (show m2.next < m3.next by omega) ht' hg' hr' rfl
  have f5 : (op == 5) = false := by rw [beq_eq_false_iff_ne]; exact g5
  by_cases g6 : op = 6
  · subst g6
    have f1 : ((6 : Int) == 1) = false := rfl
    have f2 : ((6 : Int) == 2) = false := rfl
    have f3 : ((6 : Int) == 3) = false := rfl
    have f4 : ((6 : Int) == 4) = false := rfl
    have f5 : ((6 : Int) == 5) = false := rfl
    have f6 : ((6 : Int) == 6) = true := rfl
    have hX' : doS s ⟨6, id, grp, sh, wt, cap, co, n⟩ = foundS s grp sh := by unfold doS; simp
    rw [hX']
    try simp only [go_sem, ruB, B1.at_, B2.at_, f1, f2, f3, f4, f5, f6]
    refine gC.of (refGroups6 (id := id) (grp := grp) (sh := sh) (wt := wt) (cap := cap) (co := co) (n := n) (h.keep hX3) r k) ?_
    rintro v m4 ⟨hx4, tv', gv', w', rfl, hv', hr', ht', hg'⟩
    have F3 := B3.keep hx4
    try simp only [go_sem, ruB, aExt0, aExt1, F3.at_, ↓hv'.t.cells, ↓hv'.g.cells, hv'.t.one, hv'.g.one]
    exact DoP.fin h hv' rfl (hX3.trans hx4) (by omega) (show m2.next < m3.next by omega) ht' hg' hr' rfl
  have f6 : (op == 6) = false := by rw [beq_eq_false_iff_ne]; exact g6
  by_cases g7 : op = 7
  · subst g7
    have f1 : ((7 : Int) == 1) = false := rfl
    have f2 : ((7 : Int) == 2) = false := rfl
    have f3 : ((7 : Int) == 3) = false := rfl
    have f4 : ((7 : Int) == 4) = false := rfl
    have f5 : ((7 : Int) == 5) = false := rfl
    have f6 : ((7 : Int) == 6) = false := rfl
    have f7 : ((7 : Int) == 7) = true := rfl
    have hX' : doS s ⟨7, id, grp, sh, wt, cap, co, n⟩ = fundS s grp sh := by unfold doS; simp
    rw [hX']
    try simp only [go_sem, ruB, B1.at_, B2.at_, f1, f2, f3, f4, f5, f6, f7]
    refine gC.of (refGroups7 (id := id) (grp := grp) (sh := sh) (wt := wt) (cap := cap) (co := co) (n := n) (h.keep hX3) r k) ?_
    rintro v m4 ⟨hx4, tv', gv', w', rfl, hv', hr', ht', hg'⟩
    have F3 := B3.keep hx4
    try simp only [go_sem, ruB, aExt0, aExt1, F3.at_, ↓hv'.t.cells, ↓hv'.g.cells, hv'.t.one, hv'.g.one]
    exact DoP.fin h hv' rfl (hX3.trans hx4) (by omega) (show m2.next < m3.next by omega) ht' hg' hr' rfl
  have f7 : (op == 7) = false := by rw [beq_eq_false_iff_ne]; exact g7
  by_cases g8 : op = 8
  · subst g8
    have f1 : ((8 : Int) == 1) = false := rfl
    have f2 : ((8 : Int) == 2) = false := rfl
    have f3 : ((8 : Int) == 3) = false := rfl
    have f4 : ((8 : Int) == 4) = false := rfl
    have f5 : ((8 : Int) == 5) = false := rfl
    have f6 : ((8 : Int) == 6) = false := rfl
    have f7 : ((8 : Int) == 7) = false := rfl
    have f8 : ((8 : Int) == 8) = true := rfl
    have hX' : doS s ⟨8, id, grp, sh, wt, cap, co, n⟩ = disbandS s grp := by unfold doS; simp
    rw [hX']
    try simp only [go_sem, ruB, B1.at_, B2.at_, f1, f2, f3, f4, f5, f6, f7, f8]
    refine gC.of (refGroups8 (id := id) (grp := grp) (sh := sh) (wt := wt) (cap := cap) (co := co) (n := n) (h.keep hX3) r k) ?_
    rintro v m4 ⟨hx4, tv', gv', w', rfl, hv', hr', ht', hg'⟩
    have F3 := B3.keep hx4
    try simp only [go_sem, ruB, aExt0, aExt1, F3.at_, ↓hv'.t.cells, ↓hv'.g.cells, hv'.t.one, hv'.g.one]
    exact DoP.fin h hv' rfl (hX3.trans hx4) (by omega) (show m2.next < m3.next by omega) ht' hg' hr' rfl
  have f8 : (op == 8) = false := by rw [beq_eq_false_iff_ne]; exact g8
  by_cases g9 : op = 9
  · subst g9
    have f1 : ((9 : Int) == 1) = false := rfl
    have f2 : ((9 : Int) == 2) = false := rfl
    have f3 : ((9 : Int) == 3) = false := rfl
    have f4 : ((9 : Int) == 4) = false := rfl
    have f5 : ((9 : Int) == 5) = false := rfl
    have f6 : ((9 : Int) == 6) = false := rfl
    have f7 : ((9 : Int) == 7) = false := rfl
    have f8 : ((9 : Int) == 8) = false := rfl
    have f9 : ((9 : Int) == 9) = true := rfl
    have hX' : doS s ⟨9, id, grp, sh, wt, cap, co, n⟩ = enterS s id grp wt cap := by unfold doS; simp
    rw [hX']
    try simp only [go_sem, ruB, B1.at_, B2.at_, f1, f2, f3, f4, f5, f6, f7, f8, f9]
    refine gC.of (refEnter (id := id) (grp := grp) (sh := sh) (wt := wt) (cap := cap) (co := co) (n := n) (h.keep hX3) r k) ?_
    rintro v m4 ⟨hx4, tv', gv', w', rfl, hv', hr', ht', hg'⟩
    have F3 := B3.keep hx4
    try simp only [go_sem, ruB, aExt0, aExt1, F3.at_, ↓hv'.t.cells, ↓hv'.g.cells, hv'.t.one, hv'.g.one]
    exact DoP.fin h hv' rfl (hX3.trans hx4) (by omega) (show m2.next < m3.next by omega) ht' hg' hr' rfl
  have f9 : (op == 9) = false := by rw [beq_eq_false_iff_ne]; exact g9
  by_cases g10 : op = 10
  · subst g10
    have f1 : ((10 : Int) == 1) = false := rfl
    have f2 : ((10 : Int) == 2) = false := rfl
    have f3 : ((10 : Int) == 3) = false := rfl
    have f4 : ((10 : Int) == 4) = false := rfl
    have f5 : ((10 : Int) == 5) = false := rfl
    have f6 : ((10 : Int) == 6) = false := rfl
    have f7 : ((10 : Int) == 7) = false := rfl
    have f8 : ((10 : Int) == 8) = false := rfl
    have f9 : ((10 : Int) == 9) = false := rfl
    have f10 : ((10 : Int) == 10) = true := rfl
    have hX' : doS s ⟨10, id, grp, sh, wt, cap, co, n⟩ = weighS s id wt := by unfold doS; simp
    rw [hX']
    try simp only [go_sem, ruB, B1.at_, B2.at_, f1, f2, f3, f4, f5, f6, f7, f8, f9, f10]
    refine gC.of (refMembers10 (id := id) (grp := grp) (sh := sh) (wt := wt) (cap := cap) (co := co) (n := n) (h.keep hX3) r k) ?_
    rintro v m4 ⟨hx4, tv', gv', w', rfl, hv', hr', ht', hg'⟩
    have F3 := B3.keep hx4
    try simp only [go_sem, ruB, aExt0, aExt1, F3.at_, ↓hv'.t.cells, ↓hv'.g.cells, hv'.t.one, hv'.g.one]
    exact DoP.fin h hv' rfl (hX3.trans hx4) (by omega) (show m2.next < m3.next by omega) ht' hg' hr' rfl
  have f10 : (op == 10) = false := by rw [beq_eq_false_iff_ne]; exact g10
  by_cases g11 : op = 11
  · subst g11
    have f1 : ((11 : Int) == 1) = false := rfl
    have f2 : ((11 : Int) == 2) = false := rfl
    have f3 : ((11 : Int) == 3) = false := rfl
    have f4 : ((11 : Int) == 4) = false := rfl
    have f5 : ((11 : Int) == 5) = false := rfl
    have f6 : ((11 : Int) == 6) = false := rfl
    have f7 : ((11 : Int) == 7) = false := rfl
    have f8 : ((11 : Int) == 8) = false := rfl
    have f9 : ((11 : Int) == 9) = false := rfl
    have f10 : ((11 : Int) == 10) = false := rfl
    have f11 : ((11 : Int) == 11) = true := rfl
    have hX' : doS s ⟨11, id, grp, sh, wt, cap, co, n⟩ = limitS s id cap := by unfold doS; simp
    rw [hX']
    try simp only [go_sem, ruB, B1.at_, B2.at_, f1, f2, f3, f4, f5, f6, f7, f8, f9, f10, f11]
    refine gC.of (refMembers11 (id := id) (grp := grp) (sh := sh) (wt := wt) (cap := cap) (co := co) (n := n) (h.keep hX3) r k) ?_
    rintro v m4 ⟨hx4, tv', gv', w', rfl, hv', hr', ht', hg'⟩
    have F3 := B3.keep hx4
    try simp only [go_sem, ruB, aExt0, aExt1, F3.at_, ↓hv'.t.cells, ↓hv'.g.cells, hv'.t.one, hv'.g.one]
    exact DoP.fin h hv' rfl (hX3.trans hx4) (by omega) (show m2.next < m3.next by omega) ht' hg' hr' rfl
  have f11 : (op == 11) = false := by rw [beq_eq_false_iff_ne]; exact g11
  by_cases g12 : op = 12
  · subst g12
    have f1 : ((12 : Int) == 1) = false := rfl
    have f2 : ((12 : Int) == 2) = false := rfl
    have f3 : ((12 : Int) == 3) = false := rfl
    have f4 : ((12 : Int) == 4) = false := rfl
    have f5 : ((12 : Int) == 5) = false := rfl
    have f6 : ((12 : Int) == 6) = false := rfl
    have f7 : ((12 : Int) == 7) = false := rfl
    have f8 : ((12 : Int) == 8) = false := rfl
    have f9 : ((12 : Int) == 9) = false := rfl
    have f10 : ((12 : Int) == 10) = false := rfl
    have f11 : ((12 : Int) == 11) = false := rfl
    have f12 : ((12 : Int) == 12) = true := rfl
    have hX' : doS s ⟨12, id, grp, sh, wt, cap, co, n⟩ = moveS s id grp := by unfold doS; simp
    rw [hX']
    try simp only [go_sem, ruB, B1.at_, B2.at_, f1, f2, f3, f4, f5, f6, f7, f8, f9, f10, f11, f12]
    refine gC.of (refMembers12 (id := id) (grp := grp) (sh := sh) (wt := wt) (cap := cap) (co := co) (n := n) (h.keep hX3) r k) ?_
    rintro v m4 ⟨hx4, tv', gv', w', rfl, hv', hr', ht', hg'⟩
    have F3 := B3.keep hx4
    try simp only [go_sem, ruB, aExt0, aExt1, F3.at_, ↓hv'.t.cells, ↓hv'.g.cells, hv'.t.one, hv'.g.one]
    exact DoP.fin h hv' rfl (hX3.trans hx4) (by omega) (show m2.next < m3.next by omega) ht' hg' hr' rfl
  have f12 : (op == 12) = false := by rw [beq_eq_false_iff_ne]; exact g12
  have hX' : doS s ⟨op, id, grp, sh, wt, cap, co, n⟩ = (s, 0) := by unfold doS; simp only []; rw [if_neg g1, if_neg g2, if_neg g3, if_neg g4, if_neg g5, if_neg g6, if_neg g7, if_neg g8, if_neg g9, if_neg g10, if_neg g11, if_neg g12]
  rw [hX']
  try simp only [go_sem, ruB, B1.at_, B2.at_, B3.at_, f1, f2, f3, f4, f5, f6, f7, f8, f9, f10, f11, f12, ne1, ne2, ↓ct, ↓cg, h.t.one, h.g.one]
  exact DoP.fin h (h.keep hX3) rfl hX3 (by omega) (show m2.next < m3.next by omega) (.inl rfl) (.inl rfl) r rfl
end Go.Am


/- RosterR9 over the table of ledgerz (relayset.py). -/
set_option linter.unusedVariables false
set_option linter.unusedSimpArgs false
namespace Go.Am
open Classical
variable {m : Mem}

theorem kfill_z6 : fillL [.int .i64 0, .int .i64 0, .int .i64 0, .int .i64 0, .int .i64 0, .bool false] [] = some [.int .i64 0, .int .i64 0, .int .i64 0, .int .i64 0, .int .i64 0, .bool false] := rfl
set_option maxHeartbeats 1000000 in
theorem refFindT {s : Rs} {w : Rr} {tv gv : Value} {id : Int} (h : RrV m w tv gv) (r : RRel s w) (k : RsWf s) : WC R F.ref28_Find [rrA w.f tv gv, .int .i64 id] m fun v m' => Ext m m' ∧ v = .tuple #[tvA ((lkp s.T id).getD zT), .bool (lkp s.T id).isSome] := by
  refine WC.of R.ref28_Find rfl ?_
  simp only [RC.ref28_Find, go_sem, h.t.one, h.g.one]
  have hx1 : Ext m (m.new (.cells [.int .i64 w.f, tv, gv] (some 3))) := Ext.new
  have hb1 : Bk (m.new (.cells [.int .i64 w.f, tv, gv] (some 3))) m.next [.int .i64 w.f, tv, gv] 3 := Bk.new
  have hn1 : (m.new (.cells [.int .i64 w.f, tv, gv] (some 3))).next = m.next + 1 := rfl
  generalize m.new (.cells [.int .i64 w.f, tv, gv] (some 3)) = m1 at hx1 hb1 hn1 ⊢
  have hx2 : Ext m1 (m1.new (.cells [.int .i64 0, .int .i64 0, .int .i64 0, .int .i64 0, .int .i64 0, .bool false] (some 6))) := Ext.new
  have hb2 : Bk (m1.new (.cells [.int .i64 0, .int .i64 0, .int .i64 0, .int .i64 0, .int .i64 0, .bool false] (some 6))) m1.next [.int .i64 0, .int .i64 0, .int .i64 0, .int .i64 0, .int .i64 0, .bool false] 6 := Bk.new
  have hn2 : (m1.new (.cells [.int .i64 0, .int .i64 0, .int .i64 0, .int .i64 0, .int .i64 0, .bool false] (some 6))).next = m1.next + 1 := rfl
  generalize m1.new (.cells [.int .i64 0, .int .i64 0, .int .i64 0, .int .i64 0, .int .i64 0, .bool false] (some 6)) = m2 at hx2 hb2 hn2 ⊢
  have B1 := hb1.keep hx2
  have hX2 := hx1.trans hx2
  try simp only [go_sem, ruB, B1.at_]
  refine gC.of (refFindR (h.keep hX2) r k) ?_
  rintro v m4 ⟨hx4, hv⟩
  have hX4 := hX2.trans hx4
  have C1 := B1.keep hx4
  have C2 := hb2.keep hx4
  have n1 := hx1.next
  rcases hv with ⟨i, hi, hl, rfl⟩ | ⟨hl, rfl⟩
  · have e3 : decide (((i : Nat) : Int) < 0) = false := decide_eq_false (by omega)
    obtain ⟨bb, oo, a1, a2, -, -⟩ := (h.t.keep h.tl hX4).elem tkV_len (k := .i64) hi
    rw [hl]
    generalize w.T[i] = t at *
    simp only [tkV] at a2
    simp only [Option.getD_some, Option.isSome_some, tvA, tkV]
    try simp only [go_sem, ruB, C1.at_, C2.at_, e3, a1, a2]
    exact hX4.set n1
  · have e3 : decide ((-1 : Int) < 0) = true := rfl
    rw [hl]
    simp only [Option.getD_none, Option.isSome_none, tvA, tkV, zT]
    try simp only [go_sem, ruB, C1.at_, C2.at_, e3, ↓kfill_z6]
    exact hX4.set n1

/-! ### sums -/
def sumT (l : List Tk) : Int := (l.map Tk.share).sum
def sumG (l : List Sp) : Int := (l.map Prod.snd).sum
theorem sumT_take {l : List Tk} {i : Nat} (h : i < l.length) : sumT (l.take (i + 1)) = sumT (l.take i) + l[i].share := by
  unfold sumT; rw [List.take_succ_eq_append_getElem h, List.map_append, List.sum_append]; simp
theorem sumG_take {l : List Sp} {i : Nat} (h : i < l.length) : sumG (l.take (i + 1)) = sumG (l.take i) + l[i].2 := by
  unfold sumG; rw [List.take_succ_eq_append_getElem h, List.map_append, List.sum_append]; simp
theorem sumT_le {l : List Tk} (h : ∀ t ∈ l, 0 ≤ t.share ∧ t.share ≤ 64) : 0 ≤ sumT l ∧ sumT l ≤ 64 * l.length := by
  induction l with
  | nil => simp [sumT]
  | cons t r ih =>
    have h1 := h t (by simp)
    have h2 := ih fun x hx => h x (by simp [hx])
    simp only [sumT, List.map_cons, List.sum_cons, List.length_cons] at h2 ⊢
    omega
theorem sumG_le {l : List Sp} (h : ∀ t ∈ l, 0 ≤ t.2 ∧ t.2 ≤ 64) : 0 ≤ sumG l ∧ sumG l ≤ 64 * l.length := by
  induction l with
  | nil => simp [sumG]
  | cons t r ih =>
    have h1 := h t (by simp)
    have h2 := ih fun x hx => h x (by simp [hx])
    simp only [sumG, List.map_cons, List.sum_cons, List.length_cons] at h2 ⊢
    omega
theorem sum_unitT {l : List Tk} (h : ∀ t ∈ l, t.grp ≠ 0 → t.share = 0) : shSumR (unitT l) = sumT l := by
  induction l with
  | nil => rfl
  | cons t r ih =>
    have h2 := ih fun x hx => h x (by simp [hx])
    unfold unitT shSumR sumT at *
    by_cases e : t.grp = 0
    · rw [List.filter_cons_of_pos (by simp [e]), List.map_cons, List.map_cons, List.sum_cons, List.map_cons, List.sum_cons, h2]
    · rw [List.filter_cons_of_neg (by simp [e]), List.map_cons, List.sum_cons, h2, h t (by simp) e, Int.zero_add]
theorem sum_unitG {l : List Gp} : shSumR (unitG l) = (l.map Gp.share).sum := by unfold shSumR unitG; rw [List.map_map]; rfl
theorem shSumR_app {a b : List Sp} : shSumR (a ++ b) = shSumR a + shSumR b := by unfold shSumR; rw [List.map_append, List.sum_append]
theorem RRel.tot {s : Rs} {w : Rr} (r : RRel s w) (k : RsWf s) : sumT w.T + sumG w.G = shSumR (unitsR s) := by
  unfold unitsR
  rw [shSumR_app, sum_unitT (fun t ht hg => (k.sh1 _ (tasksL_mem k ht) hg).1), sum_unitG]
  have h1 : sumT w.T = sumT (tasksL s) := perm_sumI (((tasksL_perm k.k.tn).trans r.T).symm.map _)
  have h2 : sumG w.G = ((groupsL s).map Gp.share).sum := by
    have p1 := (groupsL_perm k.k.gn).map Gp.share
    have p2 := r.G.map Prod.snd
    rw [List.map_map] at p1 p2
    exact (perm_sumI (p1.trans p2)).symm
  rw [h1, h2]
theorem RRel.shT {s : Rs} {w : Rr} (r : RRel s w) (k : RsWf s) : ∀ t ∈ w.T, 0 ≤ t.share ∧ t.share ≤ 64 := by
  intro t ht
  have := k.tk ((r.memT k).1 ht)
  by_cases e : t.grp = 0
  · have := this.1.sh0 e; omega
  · have := this.1.sh1 e; omega
theorem RRel.shG {s : Rs} {w : Rr} (r : RRel s w) (k : RsWf s) : ∀ p ∈ w.G, 0 ≤ p.2 ∧ p.2 ≤ 64 := by
  intro p hp
  obtain ⟨g, h1, h2⟩ := (r.memG k).1 hp
  have := k.gsh _ (lkp_some h1)
  simp only at this; omega

set_option maxHeartbeats 1000000 in
theorem refTotal28 {s : Rs} {w : Rr} {tv gv : Value} (h : RrV m w tv gv) (r : RRel s w) (k : RsWf s) : WC R F.ref28_Total [rrA w.f tv gv] m fun v m' => Ext m m' ∧ v = .int .i64 (shSumR (unitsR s)) := by
  rw [← r.tot k]
  have hT := r.shT k
  have hG := r.shG k
  have hTn := h.tn
  have hGn := h.gn
  refine WC.of R.ref28_Total rfl ?_
  simp only [RC.ref28_Total, go_sem, h.t.one, h.g.one]
  have hx1 : Ext m (m.new (.cells [.int .i64 w.f, tv, gv] (some 3))) := Ext.new
  have hb1 : Bk (m.new (.cells [.int .i64 w.f, tv, gv] (some 3))) m.next [.int .i64 w.f, tv, gv] 3 := Bk.new
  have hn1 : (m.new (.cells [.int .i64 w.f, tv, gv] (some 3))).next = m.next + 1 := rfl
  generalize m.new (.cells [.int .i64 w.f, tv, gv] (some 3)) = m1 at hx1 hb1 hn1 ⊢
  have ht := h.t.keep h.tl hx1
  have hg := h.g.keep h.gl hx1
  refine WL.mono (Q := fun y e m' => y = .exit 0 ∧ (∃ rs, e = (1, pt m.next) :: (3, .int .i64 (sumT w.T)) :: rs) ∧ m' = m1) ?_ ?_
  · refine WL.of (fun n e m' => ∃ i : Nat, i ≤ w.T.length ∧ n = w.T.length - i ∧ e = [(1, pt m.next), (3, .int .i64 (sumT (w.T.take i))), (4, .int .i64 i)] ∧ m' = m1) w.T.length
      ⟨0, by omega, by omega, by simp only [go_sem] <;> rfl, rfl⟩ ?_
    rintro _ _ _ ⟨i, hi, rfl, rfl, rfl⟩
    simp only [RB.ref28_Total_2, pt, go_sem]
    have s1 := st1 (show i < 1000000 by omega)
    by_cases g1 : i < w.T.length
    · have e1 : decide (((i : Nat) : Int) < ((w.T.length : Nat) : Int)) = true := decide_eq_true (by omega)
      obtain ⟨b, o, a1, -, a3, -⟩ := ht.elem tkV_len (k := .i64) g1
      have a32 := a3 2 (by omega)
      simp only [tkV, List.getElem?_cons_zero, List.getElem?_cons_succ] at a32
      have hb := sumT_le (l := w.T.take i) fun t ht => hT t (List.mem_of_mem_take ht)
      have hs := hT _ (List.getElem_mem g1)
      have htk := sumT_take g1
      rw [List.length_take] at hb
      have s2 : IntKind.wrap .i64 (sumT (w.T.take i) + (w.T[i]).share) = sumT (w.T.take i) + (w.T[i]).share := wrap_i64 (by omega) (by omega)
      try simp only [go_sem, ruB, hb1.at_, ht.len, e1, a1, a32, s1, s2]
      exact ⟨w.T.length - (i + 1), by omega, i + 1, by omega, rfl, by rw [htk]⟩
    · have e1 : decide (((i : Nat) : Int) < ((w.T.length : Nat) : Int)) = false := decide_eq_false (by omega)
      have hi2 : i = w.T.length := by omega
      subst hi2
      rw [List.take_length]
      try simp only [go_sem, ruB, hb1.at_, ht.len, e1]
      exact ⟨_, rfl⟩
  rintro _ _ m9 ⟨rfl, ⟨rs, rfl⟩, hm⟩
  replace hm := hm.symm
  subst hm
  have hbT := sumT_le hT
  simp only [pt]
  try simp only [go_sem, ruB]
  refine WL.of (fun n e m' => ∃ i : Nat, i ≤ w.G.length ∧ n = w.G.length - i ∧ e = [(1, pt m.next), (3, .int .i64 (sumT w.T + sumG (w.G.take i))), (5, .int .i64 i)] ∧ m' = m1) w.G.length
    ⟨0, by omega, by omega, by simp only [go_sem]; simp [sumG, pt], rfl⟩ ?_
  rintro _ _ _ ⟨i, hi, rfl, rfl, rfl⟩
  simp only [RB.ref28_Total_1, pt, go_sem]
  have s1 := st1 (show i < 1000000 by omega)
  by_cases g1 : i < w.G.length
  · have e1 : decide (((i : Nat) : Int) < ((w.G.length : Nat) : Int)) = true := decide_eq_true (by omega)
    obtain ⟨b, o, a1, -, a3, -⟩ := hg.elem spV_len (k := .i64) g1
    have a31 := a3 1 (by omega)
    simp only [spV, List.getElem?_cons_zero, List.getElem?_cons_succ] at a31
    have hb := sumG_le (l := w.G.take i) fun t ht => hG t (List.mem_of_mem_take ht)
    have hs := hG _ (List.getElem_mem g1)
    have htk := sumG_take g1
    rw [List.length_take] at hb
    have s2 : IntKind.wrap .i64 (sumT w.T + sumG (w.G.take i) + (w.G[i]).2) = sumT w.T + sumG (w.G.take i) + (w.G[i]).2 := wrap_i64 (by omega) (by omega)
    try simp only [go_sem, ruB, hb1.at_, hg.len, e1, a1, a31, s1, s2]
    exact ⟨w.G.length - (i + 1), by omega, i + 1, by omega, rfl, by rw [htk, Int.add_assoc]⟩
  · have e1 : decide (((i : Nat) : Int) < ((w.G.length : Nat) : Int)) = false := decide_eq_false (by omega)
    have hi2 : i = w.G.length := by omega
    subst hi2
    rw [List.take_length]
    try simp only [go_sem, ruB, hb1.at_, hg.len, e1]
    exact hx1

/-! ### units -/
def rng (n : Nat) : List Int := (List.range n).map fun i => ((i + 1 : Nat) : Int)
noncomputable def kN {α : Type} (L : List (Int × α)) (n : Nat) : List Int := (rng n).filter fun x => decide (x ∈ kys L)
theorem rng_succ {n : Nat} : rng (n + 1) = rng n ++ [((n + 1 : Nat) : Int)] := by unfold rng; rw [List.range_succ, List.map_append]; rfl
theorem kN_succ {α : Type} {L : List (Int × α)} {n : Nat} : kN L (n + 1) = kN L n ++ if ((n + 1 : Nat) : Int) ∈ kys L then [((n + 1 : Nat) : Int)] else [] := by
  unfold kN
  rw [rng_succ, List.filter_append]
  by_cases e : ((n + 1 : Nat) : Int) ∈ kys L
  · rw [if_pos e]; congr 1; simp only [List.filter_cons, List.filter_nil, e, decide_true, if_true]
  · rw [if_neg e]; congr 1; simp only [List.filter_cons, List.filter_nil, e, decide_false, Bool.false_eq_true, if_false]
theorem mem_rng {n : Nat} {x : Int} : x ∈ rng n ↔ 1 ≤ x ∧ x ≤ n := by
  unfold rng
  rw [List.mem_map]
  constructor
  · rintro ⟨i, hi, rfl⟩; have := List.mem_range.1 hi; omega
  · intro h; exact ⟨(x - 1).toNat, List.mem_range.2 (by omega), by omega⟩
theorem rng_sorted {n : Nat} : (rng n).Pairwise (· < ·) := by
  unfold rng
  rw [List.pairwise_map]
  exact List.pairwise_lt_range.imp fun h => by omega
theorem kN_sort {α : Type} {L : List (Int × α)} {n : Nat} (hn : (kys L).Nodup) (hr : ∀ x ∈ kys L, 1 ≤ x ∧ x ≤ (n : Int)) : kN L n = sortI (kys L) := by
  have h1 : (kN L n).Pairwise (· < ·) := rng_sorted.sublist List.filter_sublist
  refine List.Perm.eq_of_pairwise (le := fun a b => a ≤ b) (fun a b _ _ h1 h2 => by omega) (h1.imp fun h => by omega) sortI_sorted ?_
  refine ((List.perm_ext_iff_of_nodup (h1.imp fun h => by omega) hn).2 fun x => ?_).trans sortI_perm.symm
  unfold kN
  rw [List.mem_filter, mem_rng, decide_eq_true_eq]
  exact ⟨fun h => h.2, fun h => ⟨hr x h, h⟩⟩
noncomputable def uTn (s : Rs) (n : Nat) : List Sp := unitT ((kN s.T n).map fun id => (lkp s.T id).getD zT)
noncomputable def uGn (s : Rs) (n : Nat) : List Sp := unitG ((kN s.G n).map fun id => (lkp s.G id).getD zG)
theorem uTn_all {s : Rs} (k : RsWf s) : uTn s 200 = unitT (tasksL s) := by unfold uTn tasksL; rw [kN_sort k.k.tn k.k.tr]
theorem uGn_all {s : Rs} (k : RsWf s) : uGn s 40 = unitG (groupsL s) := by unfold uGn groupsL; rw [kN_sort k.k.gn k.k.gr]
theorem unitT_app {a b : List Tk} : unitT (a ++ b) = unitT a ++ unitT b := by unfold unitT; rw [List.filter_append, List.map_append]
theorem unitG_app {a b : List Gp} : unitG (a ++ b) = unitG a ++ unitG b := by unfold unitG; rw [List.map_append]
theorem uTn_none {s : Rs} {n : Nat} (h : lkp s.T ((n + 1 : Nat) : Int) = none) : uTn s (n + 1) = uTn s n := by
  unfold uTn; rw [kN_succ, if_neg (lkp_none h), List.append_nil]
theorem uTn_some {s : Rs} {n : Nat} {t : Tk} (h : lkp s.T ((n + 1 : Nat) : Int) = some t) : uTn s (n + 1) = uTn s n ++ if t.grp = 0 then [(t.id, t.share)] else [] := by
  unfold uTn; rw [kN_succ, if_pos (show _ ∈ kys s.T from List.mem_map.2 ⟨_, lkp_some h, rfl⟩), List.map_append, unitT_app, List.map_cons, h]
  by_cases e : t.grp = 0 <;> simp [unitT, e]
theorem uGn_none {s : Rs} {n : Nat} (h : lkp s.G ((n + 1 : Nat) : Int) = none) : uGn s (n + 1) = uGn s n := by
  unfold uGn; rw [kN_succ, if_neg (lkp_none h), List.append_nil]
theorem uGn_some {s : Rs} {n : Nat} {g : Gp} (h : lkp s.G ((n + 1 : Nat) : Int) = some g) : uGn s (n + 1) = uGn s n ++ [(1000 + g.id, g.share)] := by
  unfold uGn; rw [kN_succ, if_pos (show _ ∈ kys s.G from List.mem_map.2 ⟨_, lkp_some h, rfl⟩), List.map_append, unitG_app, List.map_cons, h]; rfl
theorem kN_len {α : Type} {L : List (Int × α)} {n : Nat} : (kN L n).length ≤ n := by
  unfold kN
  have := List.length_filter_le (fun x => decide (x ∈ kys L)) (rng n)
  have e : (rng n).length = n := by unfold rng; rw [List.length_map, List.length_range]
  omega
theorem uTn_len {s : Rs} {n : Nat} : (uTn s n).length ≤ n := by
  unfold uTn
  have := unitT_len (l := (kN s.T n).map fun id => (lkp s.T id).getD zT)
  rw [List.length_map] at this
  have := kN_len (L := s.T) (n := n); omega
theorem uGn_len {s : Rs} {n : Nat} : (uGn s n).length ≤ n := by
  unfold uGn unitG
  rw [List.length_map, List.length_map]; exact kN_len
end Go.Am


/- RosterRA over the table of ledgerz (relayset.py). -/
set_option linter.unusedVariables false
set_option linter.unusedSimpArgs false
namespace Go.Am
open Classical
variable {m : Mem}

set_option maxHeartbeats 2000000 in
theorem refUnits28 {s : Rs} {w : Rr} {tv gv : Value} (h : RrV m w tv gv) (r : RRel s w) (k : RsWf s) : WC R F.ref28_Units [rrA w.f tv gv] m fun v m' => Ext m m' ∧ Own m m' 2 (unitsR s).length ((unitsR s).flatMap spV) v := by
  unfold unitsR
  rw [← uTn_all k, ← uGn_all k]
  refine WC.of R.ref28_Units rfl ?_
  simp only [RC.ref28_Units, go_sem, h.t.one, h.g.one]
  have hx1 : Ext m (m.new (.cells [.int .i64 w.f, tv, gv] (some 3))) := Ext.new
  have hb1 : Bk (m.new (.cells [.int .i64 w.f, tv, gv] (some 3))) m.next [.int .i64 w.f, tv, gv] 3 := Bk.new
  have hn1 : (m.new (.cells [.int .i64 w.f, tv, gv] (some 3))).next = m.next + 1 := rfl
  generalize m.new (.cells [.int .i64 w.f, tv, gv] (some 3)) = m1 at hx1 hb1 hn1 ⊢
  have ho0 : Own m1 (m1.new (.cells [] (some 2))) 2 0 [] (.slice (some ⟨m1.next, 0, none⟩) 0 0) := .at (all := []) (Nat.le_refl _) (by simp [Mem.new]) (Nat.le_refl _) (by simp [Mem.new]) rfl rfl rfl
  refine WL.mono (Q := fun y e m' => y = .exit 0 ∧ ∃ z rs, e = (1, pt m.next) :: (3, z) :: rs ∧ Own m1 m' 2 (uTn s 200).length ((uTn s 200).flatMap spV) z ∧ Ext m1 m') ?_ ?_
  · refine WL.of (fun n e m' => ∃ (i : Nat) (z : Value), i ≤ 200 ∧ n = 200 - i ∧ e = [(1, pt m.next), (3, z), (4, .int .i64 ((i + 1 : Nat) : Int))] ∧ Own m1 m' 2 (uTn s i).length ((uTn s i).flatMap spV) z ∧ Ext m1 m') 200
      ⟨0, _, by omega, by omega, by simp only [go_sem] <;> rfl, ho0, Ext.new⟩ ?_
    rintro _ _ m2 ⟨i, z, hi, rfl, rfl, hz, hx2⟩
    simp only [RB.ref28_Units_2, pt, go_sem]
    have s1 := st1 (show i + 1 < 1000000 by omega)
    have C1 := hb1.keep hx2
    have hX2 := hx1.trans hx2
    by_cases g1 : i < 200
    · have e1 : decide (((i + 1 : Nat) : Int) ≤ 200) = true := decide_eq_true (by omega)
      try simp only [go_sem, ruB, C1.at_, e1]
      refine gC.of (refFindT (id := ((i + 1 : Nat) : Int)) (h.keep hX2) r k) ?_
      rintro _ m3 ⟨hx3, rfl⟩
      have hul := uTn_len (s := s) (n := i)
      cases hl : lkp s.T ((i + 1 : Nat) : Int) with
      | none =>
        simp only [Option.getD_none, Option.isSome_none, tvA, tkV, zT]
        have hz3 := hz.keep hx3
        have D1 := C1.keep hx3
        have n2 := hx2.next; have n3 := hx3.next
        have ne1 : (m.next = m3.next) = False := eq_false (by omega)
        try simp only [go_sem, ruB, aExt0, aExt1, D1.at_, ne1, s1]
        exact ⟨200 - (i + 1), by omega, i + 1, z, by omega, rfl, rfl, by rw [uTn_none hl]; exact hz3.keep Ext.new, (hx2.trans hx3).trans Ext.new⟩
      | some t =>
        have hid := (k.tk hl).2
        have hus := uTn_some hl
        simp only [Option.getD_some, Option.isSome_some, tvA, tkV]
        try simp only [go_sem, ruB, aExt0, aExt1]
        have hx4 : Ext m3 (m3.new (.cells [.int .i64 t.id, .int .i64 t.grp, .int .i64 t.share, .int .i64 t.weight, .int .i64 t.cap, .bool t.off] (some 6))) := Ext.new
        have hb4 : Bk (m3.new (.cells [.int .i64 t.id, .int .i64 t.grp, .int .i64 t.share, .int .i64 t.weight, .int .i64 t.cap, .bool t.off] (some 6))) m3.next [.int .i64 t.id, .int .i64 t.grp, .int .i64 t.share, .int .i64 t.weight, .int .i64 t.cap, .bool t.off] 6 := Bk.new
        have hn4 : (m3.new (.cells [.int .i64 t.id, .int .i64 t.grp, .int .i64 t.share, .int .i64 t.weight, .int .i64 t.cap, .bool t.off] (some 6))).next = m3.next + 1 := rfl
        generalize m3.new (.cells [.int .i64 t.id, .int .i64 t.grp, .int .i64 t.share, .int .i64 t.weight, .int .i64 t.cap, .bool t.off] (some 6)) = m4 at hx4 hb4 hn4 ⊢
        have hz4 := (hz.keep hx3).keep hx4
        have hx14 := (hx2.trans hx3).trans hx4
        by_cases g2 : t.grp = 0
        · have e2 : (t.grp == 0) = true := by rw [beq_iff_eq]; exact g2
          rw [if_pos g2, hid] at hus
          obtain ⟨v', m5, p1, p2, p3⟩ := hz4.app (by_ := 16) (es := spV (((i + 1 : Nat) : Int), t.share)) hx14 (by omega) rfl rfl (by omega) (by omega)
          simp only [spV] at p1
          try simp only [go_sem, ruB, hb4.at_, e2, ↓kfill_p, p1, s1]
          refine ⟨200 - (i + 1), by omega, i + 1, v', by omega, rfl, rfl, ?_, p3⟩
          rw [hus, List.length_append, List.flatMap_append]
          simpa using p2
        · have e2 : (t.grp == 0) = false := by rw [beq_eq_false_iff_ne]; exact g2
          rw [if_neg g2, List.append_nil] at hus
          try simp only [go_sem, ruB, hb4.at_, e2, s1]
          exact ⟨200 - (i + 1), by omega, i + 1, z, by omega, rfl, rfl, by rw [hus]; exact hz4, hx14⟩
    · have e1 : decide (((i + 1 : Nat) : Int) ≤ 200) = false := decide_eq_false (by omega)
      have hi2 : i = 200 := by omega
      subst hi2
      try simp only [go_sem, ruB, e1]
      exact ⟨z, _, rfl, hz, hx2⟩
  rintro _ _ m2 ⟨rfl, z0, rs, rfl, hz0, hx2⟩
  simp only [pt]
  try simp only [go_sem, ruB]
  have hl0 := uTn_len (s := s) (n := 200)
  generalize uTn s 200 = P at *
  refine WL.of (fun n e m' => ∃ (i : Nat) (z : Value), i ≤ 40 ∧ n = 40 - i ∧ e = [(1, pt m.next), (3, z), (7, .int .i64 ((i + 1 : Nat) : Int))] ∧ Own m1 m' 2 (P ++ uGn s i).length ((P ++ uGn s i).flatMap spV) z ∧ Ext m1 m') 40
    ⟨0, z0, by omega, by omega, by simp only [go_sem] <;> rfl, (by rw [show uGn s 0 = [] from rfl, List.append_nil]; exact hz0), hx2⟩ ?_
  rintro _ _ m3 ⟨i, z, hi, rfl, rfl, hz, hx3⟩
  simp only [RB.ref28_Units_1, pt, go_sem]
  have s1 := st1 (show i + 1 < 1000000 by omega)
  have C1 := hb1.keep hx3
  have hX3 := hx1.trans hx3
  by_cases g1 : i < 40
  · have e1 : decide (((i + 1 : Nat) : Int) ≤ 40) = true := decide_eq_true (by omega)
    try simp only [go_sem, ruB, C1.at_, e1]
    refine gC.of (refGroupR (id := ((i + 1 : Nat) : Int)) (h.keep hX3) r k) ?_
    rintro v m4 ⟨hx4, hv⟩
    have D1 := C1.keep hx4
    have hz4 := hz.keep hx4
    have hx14 := hx3.trans hx4
    have hul := uGn_len (s := s) (n := i)
    rcases hv with ⟨j, hj, g, hg, hgj, rfl⟩ | ⟨hg, rfl⟩
    · have e2 : decide ((0 : Int) ≤ ((j : Nat) : Int)) = true := decide_eq_true (by omega)
      obtain ⟨bb, oo, a1, -, a3, -⟩ := (h.g.keep h.gl (hX3.trans hx4)).elem spV_len (k := .i64) hj
      have a31 := a3 1 (by omega)
      rw [hgj] at a31
      simp only [spV, List.getElem?_cons_zero, List.getElem?_cons_succ] at a31
      have hgi := k.gi _ (lkp_some hg)
      simp only at hgi
      have hus := uGn_some hg
      rw [hgi] at hus
      have hw : IntKind.wrap .i64 (1000 + ((i + 1 : Nat) : Int)) = 1000 + ((i + 1 : Nat) : Int) := wrap_i64 (by omega) (by omega)
      obtain ⟨v', m5, p1, p2, p3⟩ := hz4.app (by_ := 16) (es := spV (1000 + ((i + 1 : Nat) : Int), g.share)) hx14 (by omega) rfl rfl (by rw [List.length_append]; omega) (by rw [List.length_append]; omega)
      simp only [spV] at p1
      try simp only [go_sem, ruB, e2, D1.at_, a1, a31, hw, ↓kfill_p, p1, s1]
      refine ⟨40 - (i + 1), by omega, i + 1, v', by omega, rfl, rfl, ?_, p3⟩
      rw [hus, ← List.append_assoc, List.length_append, List.flatMap_append]
      simpa using p2
    · have e2 : decide ((0 : Int) ≤ -1) = false := rfl
      try simp only [go_sem, ruB, e2, s1]
      exact ⟨40 - (i + 1), by omega, i + 1, z, by omega, rfl, rfl, by rw [uGn_none hg]; exact hz4, hx14⟩
  · have e1 : decide (((i + 1 : Nat) : Int) ≤ 40) = false := decide_eq_false (by omega)
    have hi2 : i = 40 := by omega
    subst hi2
    try simp only [go_sem, ruB, e1]
    exact ⟨hX3, hz.weak hx1⟩
end Go.Am
