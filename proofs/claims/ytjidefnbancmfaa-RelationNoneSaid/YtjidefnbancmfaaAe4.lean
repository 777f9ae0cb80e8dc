/- AE, part 4: families: a slice that is appended to, and that may lie where it lay or anew. -/
import Derived.Test.YtjidefnbancmfaaAe3
set_option linter.unusedVariables false
namespace Go.AE

/-- a block of its own becomes the first of a family. -/
def AW.found (aw : AW) (b : Nat) (l : List V) : AW :=
  { heap := aw.heap.put b (.cells l (.fam aw.next)), next := aw.next + 1, fams := aw.fams.put aw.next ⟨b, aw.next + 1, b⟩ }
theorem R.found {aw : AW} {w : World} {m : Map} {base : Nat} (hR : R aw w m base) {b : Nat} {e : Emb} {l : List V} (hm : m b = some e) (hx : aw.heap.get b = some (.cells l .own)) :
    R (aw.found b l) w m base ∧ Goes aw (aw.found b l) w w m m := by
  have hlt := hR.lt b e hm
  have old : ∀ {b' : Nat} {e' : Emb} {z : Blk}, m b' = some e' → b' ≠ b → (aw.found b l).heap.get b' = some z → aw.heap.get b' = some z ∧ ((aw.found b l).live b' z = true → aw.live b' z = true) := by
    intro b' e' z h hne hz
    have hz' : aw.heap.get b' = some z := by simp only [AW.found] at hz; rw [T.get_put_ne hne] at hz; exact hz
    refine ⟨hz', fun hl => ?_⟩
    cases z with
    | cells l' sh' =>
      cases sh' with
      | own => rfl
      | lax => rfl
      | ro => rfl
      | fam g =>
        have hg := hR.famlt b' e' l' g h hz'
        simp only [AW.live, AW.alive, AW.found] at hl ⊢
        rw [T.get_put_ne (by omega)] at hl
        exact hl
    | map es ck => rfl
    | mapIter r1 r2 r3 r4 => rfl
  have self : ∀ {z : Blk}, (aw.found b l).heap.get b = some z → z = .cells l (.fam aw.next) := by
    intro z hz
    rcases T.get_put hz with ⟨_, h3⟩ | ⟨h3, _⟩
    · exact h3
    · exact absurd rfl h3
  constructor
  · constructor
    · intro b' e' l' f h hy
      by_cases hbb : b' = b
      · subst hbb
        have := self hy
        cases this
        simp [AW.found]
      · have := hR.famlt b' e' l' f h (old h hbb hy).1
        simp only [AW.found]; omega
    · exact hR.size
    · intro b' e' h; have := hR.lt b' e' h; exact ⟨by simp only [AW.found]; omega, this.2⟩
    · intro b' e' h
      rcases hR.base b' e' h with h1 | ⟨l', h1⟩
      · exact .inl h1
      · refine .inr ⟨l', ?_⟩
        have hne : b' ≠ b := by
          rintro rfl
          rw [hx] at h1
          cases h1
        simp only [AW.found]; rw [T.get_put_ne hne]; exact h1
    · intro b' e' z h hz
      by_cases hbb : b' = b
      · subst hbb
        rw [hm] at h; cases h
        have := self hz
        subst this
        intro _
        obtain ⟨cur, t, lo, hi, p1, p2, p3, p4, p5⟩ := hR.blk b' e _ hm hx rfl
        exact ⟨cur, t, lo, hi, p1, p2, p3, p4.imp id (fun h => ⟨by simp, h.2⟩), p5⟩
      · have ⟨q1, q2⟩ := old h hbb hz
        have hb := hR.blk b' e' z h q1
        cases z with
        | cells l' sh' => exact fun hal => hb (q2 hal)
        | map es ck => exact hb
        | mapIter r1 r2 r3 r4 => exact hb
    · intro b1 e1 z1 b2 e2 z2 h1 hz1 h2 hz2 hl1 hl2 hne hec
      by_cases hb1 : b1 = b
      · exfalso
        subst hb1
        rw [hm] at h1; cases h1
        have ⟨q1, q2⟩ := old h2 (Ne.symm hne) hz2
        have := hR.apart b1 e _ b2 e2 z2 hm hx h2 q1 rfl (q2 hl2) hne hec
        cases z2 <;> simp [Blk.mates] at this
      · by_cases hb2 : b2 = b
        · exfalso
          subst hb2
          rw [hm] at h2; cases h2
          have ⟨q1, q2⟩ := old h1 hb1 hz1
          have := hR.apart b1 e1 z1 b2 e _ h1 q1 hm hx (q2 hl1) rfl hne hec
          cases z1 with
          | cells lx shx => cases shx <;> simp [Blk.mates] at this
          | map es ck => simp [Blk.mates] at this
          | mapIter r1 r2 r3 r4 => simp [Blk.mates] at this
        · have ⟨q1, q2⟩ := old h1 hb1 hz1
          have ⟨q3, q4⟩ := old h2 hb2 hz2
          exact hR.apart b1 e1 z1 b2 e2 z2 h1 q1 h2 q3 (q2 hl1) (q4 hl2) hne hec
    · intro f F hf
      simp only [AW.found] at hf
      rcases T.get_put hf with ⟨rfl, rfl⟩ | ⟨h1, h2⟩
      · refine ⟨by simp [AW.found], ?_⟩
        intro b1 e1 l1 e2 l2 h1 hz1 ha1 h2 hz2 hec
        have hb1 : b1 = b := by
          apply Classical.byContradiction
          intro hb1
          have := hR.famlt b1 e1 l1 _ h1 (old h1 hb1 hz1).1
          omega
        subst hb1
        simp only [] at h2 hz2
        rw [h1] at h2; cases h2
        rw [hz1] at hz2; cases hz2
        omega
      · obtain ⟨k1, k2⟩ := hR.fam f F h2
        refine ⟨by simp only [AW.found]; omega, ?_⟩
        intro b1 e1 l1 e2 l2 g1 hz1 ha1 g2 hz2 hec
        have hb1 : b1 ≠ b := by
          rintro rfl
          have := self hz1
          cases this
          exact h1 rfl
        have hb2 : F.last ≠ b := by
          intro hb
          rw [hb] at hz2
          have := self hz2
          cases this
          exact h1 rfl
        have ⟨q1, q2⟩ := old g1 hb1 hz1
        exact k2 b1 e1 l1 e2 l2 g1 q1 (q2 ha1) g2 (old g2 hb2 hz2).1 hec
  · constructor
    · exact .refl m
    · intro b' e' h; exact .inl h
    · simp [AW.found]
    · exact Nat.le_refl _
    · rfl
    · rfl
    · rfl
    · intro b' l' h _
      have hne : b' ≠ b := by
        rintro rfl
        rw [hx] at h
        cases h
      simp only [AW.found]; rw [T.get_put_ne hne]; exact h
    · intro b' l' h _
      by_cases hne : b' = b
      · subst hne
        have := self h
        cases this
      · simp only [AW.found] at h; rw [T.get_put_ne hne] at h; exact ⟨l', h⟩
    · intro c hc _; rfl
    · intro b' hlt' h
      have hne : b' ≠ b := by
        rintro rfl
        rw [hx] at h
        cases h
      simp only [AW.found]; rw [T.get_put_ne hne]; exact h

theorem R.foundLax {aw : AW} {w : World} {m : Map} {base : Nat} (hR : R aw w m base) {b : Nat} {e : Emb} {l : List V} (hm : m b = some e) (hx : aw.heap.get b = some (.cells l .lax)) :
    R (aw.found b l) w m base ∧ Goes aw (aw.found b l) w w m m := by
  have hlt := hR.lt b e hm
  have old : ∀ {b' : Nat} {e' : Emb} {z : Blk}, m b' = some e' → b' ≠ b → (aw.found b l).heap.get b' = some z → aw.heap.get b' = some z ∧ ((aw.found b l).live b' z = true → aw.live b' z = true) := by
    intro b' e' z h hne hz
    have hz' : aw.heap.get b' = some z := by simp only [AW.found] at hz; rw [T.get_put_ne hne] at hz; exact hz
    refine ⟨hz', fun hl => ?_⟩
    cases z with
    | cells l' sh' =>
      cases sh' with
      | own => rfl
      | lax => rfl
      | ro => rfl
      | fam g =>
        have hg := hR.famlt b' e' l' g h hz'
        simp only [AW.live, AW.alive, AW.found] at hl ⊢
        rw [T.get_put_ne (by omega)] at hl
        exact hl
    | map es ck => rfl
    | mapIter r1 r2 r3 r4 => rfl
  have self : ∀ {z : Blk}, (aw.found b l).heap.get b = some z → z = .cells l (.fam aw.next) := by
    intro z hz
    rcases T.get_put hz with ⟨_, h3⟩ | ⟨h3, _⟩
    · exact h3
    · exact absurd rfl h3
  constructor
  · constructor
    · intro b' e' l' f h hy
      by_cases hbb : b' = b
      · subst hbb
        have := self hy
        cases this
        simp [AW.found]
      · have := hR.famlt b' e' l' f h (old h hbb hy).1
        simp only [AW.found]; omega
    · exact hR.size
    · intro b' e' h; have := hR.lt b' e' h; exact ⟨by simp only [AW.found]; omega, this.2⟩
    · intro b' e' h
      rcases hR.base b' e' h with h1 | ⟨l', h1⟩
      · exact .inl h1
      · refine .inr ⟨l', ?_⟩
        have hne : b' ≠ b := by
          rintro rfl
          rw [hx] at h1
          cases h1
        simp only [AW.found]; rw [T.get_put_ne hne]; exact h1
    · intro b' e' z h hz
      by_cases hbb : b' = b
      · subst hbb
        rw [hm] at h; cases h
        have := self hz
        subst this
        intro _
        obtain ⟨cur, t, lo, hi, p1, p2, p3, p4, p5⟩ := hR.blk b' e _ hm hx rfl
        exact ⟨cur, t, lo, hi, p1, p2, p3, p4.imp id (fun h => ⟨by simp, h.2⟩), p5⟩
      · have ⟨q1, q2⟩ := old h hbb hz
        have hb := hR.blk b' e' z h q1
        cases z with
        | cells l' sh' => exact fun hal => hb (q2 hal)
        | map es ck => exact hb
        | mapIter r1 r2 r3 r4 => exact hb
    · intro b1 e1 z1 b2 e2 z2 h1 hz1 h2 hz2 hl1 hl2 hne hec
      by_cases hb1 : b1 = b
      · exfalso
        subst hb1
        rw [hm] at h1; cases h1
        have ⟨q1, q2⟩ := old h2 (Ne.symm hne) hz2
        have := hR.apart b1 e _ b2 e2 z2 hm hx h2 q1 rfl (q2 hl2) hne hec
        cases z2 <;> simp [Blk.mates] at this
      · by_cases hb2 : b2 = b
        · exfalso
          subst hb2
          rw [hm] at h2; cases h2
          have ⟨q1, q2⟩ := old h1 hb1 hz1
          have := hR.apart b1 e1 z1 b2 e _ h1 q1 hm hx (q2 hl1) rfl hne hec
          cases z1 with
          | cells lx shx => cases shx <;> simp [Blk.mates] at this
          | map es ck => simp [Blk.mates] at this
          | mapIter r1 r2 r3 r4 => simp [Blk.mates] at this
        · have ⟨q1, q2⟩ := old h1 hb1 hz1
          have ⟨q3, q4⟩ := old h2 hb2 hz2
          exact hR.apart b1 e1 z1 b2 e2 z2 h1 q1 h2 q3 (q2 hl1) (q4 hl2) hne hec
    · intro f F hf
      simp only [AW.found] at hf
      rcases T.get_put hf with ⟨rfl, rfl⟩ | ⟨h1, h2⟩
      · refine ⟨by simp [AW.found], ?_⟩
        intro b1 e1 l1 e2 l2 h1 hz1 ha1 h2 hz2 hec
        have hb1 : b1 = b := by
          apply Classical.byContradiction
          intro hb1
          have := hR.famlt b1 e1 l1 _ h1 (old h1 hb1 hz1).1
          omega
        subst hb1
        simp only [] at h2 hz2
        rw [h1] at h2; cases h2
        rw [hz1] at hz2; cases hz2
        omega
      · obtain ⟨k1, k2⟩ := hR.fam f F h2
        refine ⟨by simp only [AW.found]; omega, ?_⟩
        intro b1 e1 l1 e2 l2 g1 hz1 ha1 g2 hz2 hec
        have hb1 : b1 ≠ b := by
          rintro rfl
          have := self hz1
          cases this
          exact h1 rfl
        have hb2 : F.last ≠ b := by
          intro hb
          rw [hb] at hz2
          have := self hz2
          cases this
          exact h1 rfl
        have ⟨q1, q2⟩ := old g1 hb1 hz1
        exact k2 b1 e1 l1 e2 l2 g1 q1 (q2 ha1) g2 (old g2 hb2 hz2).1 hec
  · constructor
    · exact .refl m
    · intro b' e' h; exact .inl h
    · simp [AW.found]
    · exact Nat.le_refl _
    · rfl
    · rfl
    · rfl
    · intro b' l' h _
      have hne : b' ≠ b := by
        rintro rfl
        rw [hx] at h
        cases h
      simp only [AW.found]; rw [T.get_put_ne hne]; exact h
    · intro b' l' h _
      by_cases hne : b' = b
      · subst hne
        have := self h
        cases this
      · simp only [AW.found] at h; rw [T.get_put_ne hne] at h; exact ⟨l', h⟩
    · intro c hc _; rfl
    · intro b' hlt' h
      have hne : b' ≠ b := by
        rintro rfl
        rw [hx] at h
        cases h
      simp only [AW.found]; rw [T.get_put_ne hne]; exact h

/-- a family's block has been appended to: a new one of the family. -/
def AW.grow (aw : AW) (b f : Nat) (F : Fam) (l2 : List V) : AW :=
  { heap := aw.heap.put aw.next (.cells l2 (.fam f)), next := aw.next + 1,
    fams := aw.fams.put f (match Nat.beq F.last b with | true => ⟨F.keep, F.floor, aw.next⟩ | false => ⟨b, aw.next, aw.next⟩) }

theorem grow_alive {aw : AW} {b f : Nat} {F : Fam} {l2 : List V} {b' : Nat} {sh : Share} (hF : aw.fams.get f = some F) (hb : aw.alive b (.fam f) = true) (hlt : b' < aw.next)
    (h : (aw.grow b f F l2).alive b' sh = true) : aw.alive b' sh = true ∧ (sh = .fam f → F.last = b ∨ b' = b) := by
  cases sh with
  | own => exact ⟨rfl, fun h => by cases h⟩
  | lax => exact ⟨rfl, fun h => by cases h⟩
  | ro => exact ⟨rfl, fun h => by cases h⟩
  | fam g =>
    simp only [AW.alive, AW.grow] at h
    split at h
    · rename_i G hG
      rcases T.get_put hG with ⟨rfl, rfl⟩ | ⟨h1, h2⟩
      · cases hq : Nat.beq F.last b with
        | true =>
          rw [hq] at h
          refine ⟨?_, fun _ => .inl (Nat.eq_of_beq_eq_true hq)⟩
          simp only [AW.alive, hF]
          exact h
        | false =>
          rw [hq] at h
          simp only [Bool.or_eq_true, Nat.ble_eq] at h
          have : b' = b := by
            rcases h with h | h
            · exact Nat.eq_of_beq_eq_true h
            · omega
          subst this
          exact ⟨hb, fun _ => .inr rfl⟩
      · refine ⟨by simp only [AW.alive, h2]; exact h, fun hc => ?_⟩
        cases hc
        exact absurd rfl h1
    · cases h

theorem R.grow {aw : AW} {w w' : World} {m : Map} {base : Nat} (hR : R aw w m base) {b f : Nat} {e en : Emb} {F : Fam} {l l2 : List V} (hm : m b = some e)
    (hx : aw.heap.get b = some (.cells l (.fam f))) (hal : aw.alive b (.fam f) = true) (hF : aw.fams.get f = some F)
    (hsz : w.heap.size ≤ w'.heap.size) (hen : en.c < w'.heap.size)
    (hos : w'.os = w.os) (htape : w'.tape = w.tape) (hout : w'.output = w.output)
    -- what the block was, and what it is
    (hcase : (en.c = e.c ∧ e.s + l.length ≤ en.s + l2.length ∧ (∀ cur t lo hi, w.heap[e.c]? = some (.cells cur t (lo, hi)) → ∃ cur', w'.heap[e.c]? = some (.cells cur' t (lo, hi)) ∧ cur'.size = cur.size ∧ ∀ i, i < e.s + l.length → cur'[i]? = cur[i]?)) ∨
      (w.heap.size ≤ en.c ∧ w'.heap[e.c]? = w.heap[e.c]?))
    (hoth : ∀ c, c < w.heap.size → c ≠ e.c → w'.heap[c]? = w.heap[c]?)
    (hnew : BR (aw.grow b f F l2) (m.set aw.next en) w' aw.next en (.cells l2 (.fam f))) :
    R (aw.grow b f F l2) w' (m.set aw.next en) base ∧ Goes aw (aw.grow b f F l2) w w' m (m.set aw.next en) := by
  have hnone : m aw.next = none := by
    cases h : m aw.next with
    | none => rfl
    | some e => exact absurd (hR.lt _ _ h).1 (by omega)
  have hle : m.le (m.set aw.next en) := Map.le_set hnone
  have hbl := hR.lt b e hm
  have hfl := hR.famlt b e l f hm hx
  have old : ∀ {b' : Nat} {e' : Emb} {z : Blk}, m b' = some e' → (aw.grow b f F l2).heap.get b' = some z → aw.heap.get b' = some z := by
    intro b' e' z h hz
    have := (hR.lt b' e' h).1
    simp only [AW.grow] at hz; rw [T.get_put_ne (by omega)] at hz; exact hz
  have live : ∀ {b' : Nat} {e' : Emb} {z : Blk}, m b' = some e' → (aw.grow b f F l2).live b' z = true → aw.live b' z = true ∧ (z.share = some (.fam f) → F.last = b ∨ b' = b) := by
    intro b' e' z h hl
    cases z with
    | cells l' sh' =>
      obtain ⟨h1, h2⟩ := grow_alive hF hal (hR.lt b' e' h).1 hl
      refine ⟨h1, fun hs => h2 ?_⟩
      simpa [Blk.share] using hs
    | map es ck => exact ⟨rfl, fun h => by simp [Blk.share] at h⟩
    | mapIter r1 r2 r3 r4 => exact ⟨rfl, fun h => by simp [Blk.share] at h⟩
  -- a mate of b that is still to be read ends where b does, or ahead of it
  have mate : ∀ {b' : Nat} {e' : Emb} {z : Blk}, m b' = some e' → aw.heap.get b' = some z → (aw.grow b f F l2).live b' z = true → e'.c = e.c → ∃ l', z = .cells l' (.fam f) ∧ e'.s + l'.length ≤ e.s + l.length := by
    intro b' e' z h hz hl hec
    obtain ⟨h1, h2⟩ := live h hl
    by_cases hbb : b' = b
    · subst hbb
      rw [hm] at h; cases h
      rw [hx] at hz; cases hz
      exact ⟨l, rfl, Nat.le_refl _⟩
    · have hmt := hR.apart b' e' z b e _ h hz hm hx h1 hal hbb hec
      cases z with
      | cells l' sh' =>
        cases sh' with
        | own => simp [Blk.mates] at hmt
        | lax => simp [Blk.mates] at hmt
        | ro => simp [Blk.mates] at hmt
        | fam g =>
          simp only [Blk.mates, beq_iff_eq] at hmt
          subst hmt
          refine ⟨l', rfl, ?_⟩
          have hlast : F.last = b := (h2 rfl).resolve_right hbb
          have hm' : m F.last = some e := by rw [hlast]; exact hm
          have hx' : aw.heap.get F.last = some (.cells l (.fam g)) := by rw [hlast]; exact hx
          exact (hR.fam g F hF).2 b' e' l' e l h hz h1 hm' hx' hec
      | map es ck => simp [Blk.mates] at hmt
      | mapIter r1 r2 r3 r4 => simp [Blk.mates] at hmt
  have hself : ∀ {z : Blk}, (aw.grow b f F l2).heap.get aw.next = some z → z = .cells l2 (.fam f) := by
    intro z hz
    rcases T.get_put hz with ⟨_, h3⟩ | ⟨h3, _⟩
    · exact h3
    · exact absurd rfl h3
  constructor
  · constructor
    · intro b' e' l' g h hy
      rcases Map.set_cases h with ⟨rfl, rfl⟩ | ⟨h1, h2⟩
      · have := hself hy; cases this; simp only [AW.grow]; omega
      · have := hR.famlt b' e' l' g h2 (old h2 hy); simp only [AW.grow]; omega
    · have := hR.size; omega
    · intro b' e' h
      rcases Map.set_cases h with ⟨rfl, rfl⟩ | ⟨h1, h2⟩
      · exact ⟨by simp [AW.grow], hen⟩
      · have := hR.lt b' e' h2; exact ⟨by simp only [AW.grow]; omega, by omega⟩
    · intro b' e' h
      rcases Map.set_cases h with ⟨rfl, rfl⟩ | ⟨h1, h2⟩
      · rcases hcase with ⟨h1, _⟩ | ⟨h1, _⟩
        · rcases hR.base b e hm with h3 | ⟨l', h3⟩
          · exact .inl (by omega)
          · rw [hx] at h3; cases h3
        · exact .inl (Nat.le_trans hR.size h1)
      · rcases hR.base b' e' h2 with h3 | ⟨l', h3⟩
        · exact .inl h3
        · exact .inr ⟨l', by simp only [AW.grow]; rw [T.get_put_ne h1]; exact h3⟩
    · intro b' e' z h hz
      rcases Map.set_cases h with ⟨rfl, rfl⟩ | ⟨h1, h2⟩
      · have := hself hz; subst this; exact hnew
      · have hz' := old h2 hz
        have hold := hR.blk b' e' z h2 hz'
        have hlt' := hR.lt b' e' h2
        by_cases hec : e'.c = e.c
        · -- it lies where b lies
          rcases hcase with ⟨q1, q2, q3⟩ | ⟨q1, q2⟩
          · cases z with
            | cells l' sh' =>
              intro hl
              obtain ⟨l'', hz2, hle2⟩ := mate h2 hz' hl hec
              cases hz2
              obtain ⟨cur, t, lo, hi, p1, p2, p3, p4, p5⟩ := hold (live (z := .cells l' (.fam f)) h2 hl).1
              rw [hec] at p1
              obtain ⟨cur', r1, r2, r3⟩ := q3 cur t lo hi p1
              refine ⟨cur', t, lo, hi, by rw [hec]; exact r1, by omega, p3, p4.elim .inl (fun h => .inr ⟨h.1, by omega⟩), fun i x hi' => ?_⟩
              obtain ⟨y, hy1, hy2⟩ := p5 i x hi'
              have hil : i < l'.length := (List.getElem?_eq_some_iff.1 hi').1
              exact ⟨y, by rw [r3 _ (by omega)]; exact hy1, hy2.mono hle⟩
            | map es ck => obtain ⟨l'', hz2, _⟩ := mate h2 hz' rfl hec; cases hz2
            | mapIter r1 r2 r3 r4 => obtain ⟨l'', hz2, _⟩ := mate h2 hz' rfl hec; cases hz2
          · refine BR.mono hle (fun sh l hz2 hl => ?_) (by rw [hec]; exact q2) hold
            subst hz2
            exact (live (z := .cells l sh) h2 hl).1
        · refine BR.mono hle (fun sh l hz2 hl => ?_) (hoth e'.c hlt'.2 hec) hold
          subst hz2
          exact (live (z := .cells l sh) h2 hl).1
    · intro b1 e1 z1 b2 e2 z2 h1 hz1 h2 hz2 hl1 hl2 hne hec
      rcases Map.set_cases h1 with ⟨rfl, rfl⟩ | ⟨k1, k2⟩
      · have := hself hz1; subst this
        rcases Map.set_cases h2 with ⟨rfl, rfl⟩ | ⟨k3, k4⟩
        · exact absurd rfl hne
        · rcases hcase with ⟨q1, _⟩ | ⟨q1, _⟩
          · obtain ⟨l', hz, _⟩ := mate k4 (old k4 hz2) hl2 (by omega)
            subst hz; simp [Blk.mates]
          · have := (hR.lt b2 e2 k4).2; omega
      · rcases Map.set_cases h2 with ⟨rfl, rfl⟩ | ⟨k3, k4⟩
        · have := hself hz2; subst this
          rcases hcase with ⟨q1, _⟩ | ⟨q1, _⟩
          · obtain ⟨l', hz, _⟩ := mate k2 (old k2 hz1) hl1 (by omega)
            subst hz; simp [Blk.mates]
          · have := (hR.lt b1 e1 k2).2; omega
        · exact hR.apart b1 e1 z1 b2 e2 z2 k2 (old k2 hz1) k4 (old k4 hz2) (live k2 hl1).1 (live k4 hl2).1 hne hec
    · intro g G hG
      simp only [AW.grow] at hG
      rcases T.get_put hG with ⟨rfl, rfl⟩ | ⟨h1, h2⟩
      · have hlast : (match Nat.beq F.last b with | true => (⟨F.keep, F.floor, aw.next⟩ : Fam) | false => ⟨b, aw.next, aw.next⟩).last = aw.next := by split <;> rfl
        have hfl' : (match Nat.beq F.last b with | true => (⟨F.keep, F.floor, aw.next⟩ : Fam) | false => ⟨b, aw.next, aw.next⟩).floor ≤ (aw.grow b g F l2).next := by
          split
          · have := (hR.fam g F hF).1; simp only [AW.grow]; omega
          · simp [AW.grow]
        refine ⟨hfl', ?_⟩
        rw [hlast]
        intro b1 e1 l1 e2 l2' g1 hz1 ha1 g2 hz2 hec
        have h0 := hself hz2
        cases h0
        rw [Map.set_same] at g2
        cases g2
        rcases Map.set_cases g1 with ⟨rfl, rfl⟩ | ⟨k1, k2⟩
        · have := hself hz1; cases this; omega
        · rcases hcase with ⟨q1, q2, _⟩ | ⟨q1, _⟩
          · obtain ⟨l', hz, hle2⟩ := mate k2 (old k2 hz1) ha1 (by omega)
            cases hz
            omega
          · have := (hR.lt b1 e1 k2).2; omega
      · obtain ⟨k1, k2⟩ := hR.fam g G h2
        refine ⟨by simp only [AW.grow]; omega, ?_⟩
        intro b1 e1 l1 e2 l2' g1 hz1 ha1 g2 hz2 hec
        rcases Map.set_cases g1 with ⟨rfl, rfl⟩ | ⟨k3, k4⟩
        · have := hself hz1; cases this; exact absurd rfl h1
        · rcases Map.set_cases g2 with ⟨h5, rfl⟩ | ⟨k5, k6⟩
          · rw [h5] at hz2
            have := hself hz2; cases this; exact absurd rfl h1
          · exact k2 b1 e1 l1 e2 l2' k4 (old k4 hz1) (live (z := .cells l1 (.fam g)) k4 ha1).1 k6 (old k6 hz2) hec
  · constructor
    · exact hle
    · intro b' e' h
      rcases Map.set_cases h with ⟨rfl, rfl⟩ | ⟨h1, h2⟩
      · rcases hcase with ⟨q1, _⟩ | ⟨q1, _⟩
        · exact .inr ⟨Nat.le_refl _, .inr ⟨b, e, _, hm, q1.symm, hx, fun l' hl' => by cases hl'⟩⟩
        · exact .inr ⟨Nat.le_refl _, .inl q1⟩
      · exact .inl h2
    · simp [AW.grow]
    · exact hsz
    · exact hos
    · exact htape
    · exact hout
    · intro b' l' h hlt; simp only [AW.grow]; rw [T.get_put_ne (by omega)]; exact h
    · intro b' l' h hlt; simp only [AW.grow] at h; rw [T.get_put_ne (by omega)] at h; exact ⟨l', h⟩
    · intro c hc hno
      refine hoth c hc (fun hce => ?_)
      exact hno b e _ hm hx (fun l' hl' => by cases hl') hce.symm
    · intro b' hlt h; simp only [AW.grow]; rw [T.get_put_ne (by omega)]; exact h
end Go.AE
