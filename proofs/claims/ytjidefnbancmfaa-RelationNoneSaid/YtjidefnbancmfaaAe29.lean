/- AE, part 29: a slice's block that is written over and grown, where it lay or anew: nothing of its family is to be read any more. -/
import Derived.Test.YtjidefnbancmfaaAe28
set_option linter.unusedVariables false
set_option linter.unusedSimpArgs false
namespace Go.AE

def AW.reborn (aw : AW) (f : Nat) (l2 : List V) : AW :=
  { heap := aw.heap.put aw.next (.cells l2 .lax), next := aw.next + 1, fams := aw.fams.put f ⟨aw.next, aw.next + 1, aw.next⟩ }
theorem reborn_alive {aw : AW} {f : Nat} {l2 : List V} {b' : Nat} {sh : Share} (hlt : b' < aw.next) (h : (aw.reborn f l2).alive b' sh = true) : aw.alive b' sh = true ∧ sh ≠ .fam f := by
  cases sh with
  | own => exact ⟨rfl, by simp⟩
  | lax => exact ⟨rfl, by simp⟩
  | ro => exact ⟨rfl, by simp⟩
  | fam g =>
    simp only [AW.alive, AW.reborn] at h
    split at h
    · rename_i G hG
      rcases T.get_put hG with ⟨rfl, rfl⟩ | ⟨h1, h2⟩
      · simp only [Bool.or_eq_true] at h
        rcases h with h | h
        · have := Nat.eq_of_beq_eq_true h; omega
        · have := Nat.le_of_ble_eq_true h; omega
      · refine ⟨?_, by simpa using h1⟩
        simp only [AW.alive, h2]; exact h
    · cases h
theorem R.reborn {aw : AW} {w w' : World} {m : Map} {base : Nat} (hR : R aw w m base) {b f : Nat} {e en : Emb} {l l2 : List V} (hm : m b = some e)
    (hx : aw.heap.get b = some (.cells l (.fam f))) (hal : aw.alive b (.fam f) = true)
    (hsz : w.heap.size ≤ w'.heap.size) (hen : en.c < w'.heap.size)
    (hos : w'.os = w.os) (htape : w'.tape = w.tape) (hout : w'.output = w.output)
    (hcase : en.c = e.c ∨ w.heap.size ≤ en.c)
    (hoth : ∀ c, c < w.heap.size → c ≠ e.c → w'.heap[c]? = w.heap[c]?)
    (hnew : BR (aw.reborn f l2) (m.set aw.next en) w' aw.next en (.cells l2 .lax)) :
    R (aw.reborn f l2) w' (m.set aw.next en) base ∧ Goes aw (aw.reborn f l2) w w' m (m.set aw.next en) := by
  have hnone : m aw.next = none := by
    cases h : m aw.next with
    | none => rfl
    | some e => exact absurd (hR.lt _ _ h).1 (by omega)
  have hle : m.le (m.set aw.next en) := Map.le_set hnone
  have hbl := hR.lt b e hm
  have old : ∀ {b' : Nat} {e' : Emb} {z : Blk}, m b' = some e' → (aw.reborn f l2).heap.get b' = some z → aw.heap.get b' = some z := by
    intro b' e' z h hz
    have := (hR.lt b' e' h).1
    simp only [AW.reborn] at hz; rw [T.get_put_ne (by omega)] at hz; exact hz
  have live : ∀ {b' : Nat} {e' : Emb} {z : Blk}, m b' = some e' → (aw.reborn f l2).live b' z = true → aw.live b' z = true ∧ z.share ≠ some (.fam f) := by
    intro b' e' z h hl
    cases z with
    | cells l' sh' =>
      obtain ⟨h1, h2⟩ := reborn_alive (hR.lt b' e' h).1 hl
      exact ⟨h1, by simpa [Blk.share] using h2⟩
    | map es ck => exact ⟨rfl, fun h => by simp [Blk.share] at h⟩
    | mapIter r1 r2 r3 r4 => exact ⟨rfl, fun h => by simp [Blk.share] at h⟩
  -- whatever is still to be read lies elsewhere
  have away : ∀ {b' : Nat} {e' : Emb} {z : Blk}, m b' = some e' → aw.heap.get b' = some z → (aw.reborn f l2).live b' z = true → e'.c ≠ e.c := by
    intro b' e' z h hz hl hec
    obtain ⟨h1, h2⟩ := live h hl
    by_cases hbb : b' = b
    · subst hbb
      rw [hx] at hz; cases hz
      exact h2 rfl
    · have hmt := hR.apart b' e' z b e _ h hz hm hx h1 hal hbb hec
      cases z with
      | cells l' sh' =>
        cases sh' with
        | own => simp [Blk.mates] at hmt
        | lax => simp [Blk.mates] at hmt
        | ro => simp [Blk.mates] at hmt
        | fam g =>
          simp only [Blk.mates, beq_iff_eq] at hmt
          subst hmt
          exact h2 rfl
      | map es ck => simp [Blk.mates] at hmt
      | mapIter r1 r2 r3 r4 => simp [Blk.mates] at hmt
  have hself : ∀ {z : Blk}, (aw.reborn f l2).heap.get aw.next = some z → z = .cells l2 .lax := by
    intro z hz
    rcases T.get_put hz with ⟨_, h3⟩ | ⟨h3, _⟩
    · exact h3
    · exact absurd rfl h3
  constructor
  · constructor
    · intro b' e' l' g h hy
      rcases Map.set_cases h with ⟨rfl, rfl⟩ | ⟨h1, h2⟩
      · have := hself hy; cases this
      · have := hR.famlt b' e' l' g h2 (old h2 hy); simp only [AW.reborn]; omega
    · have := hR.size; omega
    · intro b' e' h
      rcases Map.set_cases h with ⟨rfl, rfl⟩ | ⟨h1, h2⟩
      · exact ⟨by simp [AW.reborn], hen⟩
      · have := hR.lt b' e' h2; exact ⟨by simp only [AW.reborn]; omega, by omega⟩
    · intro b' e' h
      rcases Map.set_cases h with ⟨rfl, rfl⟩ | ⟨h1, h2⟩
      · rcases hcase with h1 | h1
        · rcases hR.base b e hm with h3 | ⟨l', h3⟩
          · exact .inl (by omega)
          · rw [hx] at h3; cases h3
        · exact .inl (Nat.le_trans hR.size h1)
      · rcases hR.base b' e' h2 with h3 | ⟨l', h3⟩
        · exact .inl h3
        · exact .inr ⟨l', by simp only [AW.reborn]; rw [T.get_put_ne h1]; exact h3⟩
    · intro b' e' z h hz
      rcases Map.set_cases h with ⟨rfl, rfl⟩ | ⟨h1, h2⟩
      · have := hself hz; subst this; exact hnew
      · have hz' := old h2 hz
        have hold := hR.blk b' e' z h2 hz'
        have hlt' := hR.lt b' e' h2
        cases z with
        | cells l' sh' =>
          intro hl
          have hec := away h2 hz' (z := .cells l' sh') hl
          obtain ⟨cur, t, lo, hi, p1, p2, p3, p4, p5⟩ := hold (live (z := .cells l' sh') h2 hl).1
          exact ⟨cur, t, lo, hi, by rw [hoth _ hlt'.2 hec]; exact p1, p2, p3, p4, p5.mono hle⟩
        | map es ck => exact BR.mono hle (fun sh l hz2 hl => by cases hz2) (hoth e'.c hlt'.2 (away h2 hz' rfl)) hold
        | mapIter r1 r2 r3 r4 => exact BR.mono hle (fun sh l hz2 hl => by cases hz2) (hoth e'.c hlt'.2 (away h2 hz' rfl)) hold
    · intro b1 e1 z1 b2 e2 z2 h1 hz1 h2 hz2 hl1 hl2 hne hec
      rcases Map.set_cases h1 with ⟨rfl, rfl⟩ | ⟨k1, k2⟩
      · rcases Map.set_cases h2 with ⟨rfl, rfl⟩ | ⟨k3, k4⟩
        · exact absurd rfl hne
        · rcases hcase with q1 | q1
          · exact absurd (by omega) (away k4 (old k4 hz2) hl2)
          · have := (hR.lt b2 e2 k4).2; omega
      · rcases Map.set_cases h2 with ⟨rfl, rfl⟩ | ⟨k3, k4⟩
        · rcases hcase with q1 | q1
          · exact absurd (by omega) (away k2 (old k2 hz1) hl1)
          · have := (hR.lt b1 e1 k2).2; omega
        · exact hR.apart b1 e1 z1 b2 e2 z2 k2 (old k2 hz1) k4 (old k4 hz2) (live k2 hl1).1 (live k4 hl2).1 hne hec
    · intro g G hG
      simp only [AW.reborn] at hG
      rcases T.get_put hG with ⟨rfl, rfl⟩ | ⟨h1, h2⟩
      · refine ⟨by simp [AW.reborn], ?_⟩
        intro b1 e1 l1 e2 l2' g1 hz1 ha1 g2 hz2 hec
        have h0 := hself hz2
        cases h0
      · obtain ⟨k1, k2⟩ := hR.fam g G h2
        refine ⟨by simp only [AW.reborn]; omega, ?_⟩
        intro b1 e1 l1 e2 l2' g1 hz1 ha1 g2 hz2 hec
        rcases Map.set_cases g1 with ⟨rfl, rfl⟩ | ⟨k3, k4⟩
        · have := hself hz1; cases this
        · rcases Map.set_cases g2 with ⟨h5, rfl⟩ | ⟨k5, k6⟩
          · rw [h5] at hz2
            have := hself hz2; cases this
          · exact k2 b1 e1 l1 e2 l2' k4 (old k4 hz1) (live (z := .cells l1 (.fam g)) k4 ha1).1 k6 (old k6 hz2) hec
  · constructor
    · exact hle
    · intro b' e' h
      rcases Map.set_cases h with ⟨rfl, rfl⟩ | ⟨h1, h2⟩
      · rcases hcase with q1 | q1
        · exact .inr ⟨Nat.le_refl _, .inr ⟨b, e, _, hm, q1.symm, hx, fun l' hl' => by cases hl'⟩⟩
        · exact .inr ⟨Nat.le_refl _, .inl q1⟩
      · exact .inl h2
    · simp [AW.reborn]
    · exact hsz
    · exact hos
    · exact htape
    · exact hout
    · intro b' l' h hlt; simp only [AW.reborn]; rw [T.get_put_ne (by omega)]; exact h
    · intro b' l' h hlt; simp only [AW.reborn] at h; rw [T.get_put_ne (by omega)] at h; exact ⟨l', h⟩
    · intro c hc hno
      refine hoth c hc (fun hce => ?_)
      exact hno b e _ hm hx (fun l' hl' => by cases hl') hce.symm
    · intro b' hlt h; simp only [AW.reborn]; rw [T.get_put_ne (by omega)]; exact h
end Go.AE
