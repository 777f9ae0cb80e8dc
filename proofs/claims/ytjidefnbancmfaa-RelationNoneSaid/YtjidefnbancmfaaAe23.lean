/- AE, part 23: regions whose order is drawn. -/
import Derived.Test.YtjidefnbancmfaaAe22
set_option linter.unusedVariables false
set_option linter.unusedSimpArgs false
namespace Go.AE

theorem T.get_del {α : Type} {t : T α} : ∀ {k j : Nat} {u : α}, (t.del k).get j = some u → j ≠ k ∧ t.get j = some u := by
  induction t with
  | e => intro k j u h; simp [T.del, T.get] at h
  | n l v r ihl ihr =>
    intro k j u h
    cases k with
    | zero =>
      cases j with
      | zero => simp [T.del, T.get] at h
      | succ j => exact ⟨by omega, by simpa [T.del, T.get] using h⟩
    | succ k =>
      cases j with
      | zero =>
        refine ⟨by omega, ?_⟩
        simp only [T.del] at h
        split at h <;> simpa [T.get] using h
      | succ j =>
        simp only [T.del] at h
        split at h
        · rename_i hk
          simp only [T.get] at h ⊢
          split at h
          · rename_i hj
            obtain ⟨h1, h2⟩ := ihl h
            exact ⟨by omega, h2⟩
          · rename_i hj
            have hj' : ¬ j % 2 = 0 := hj
            exact ⟨by omega, h⟩
        · rename_i hk
          have hk' : ¬ k % 2 = 0 := hk
          simp only [T.get] at h ⊢
          split at h
          · rename_i hj
            exact ⟨by omega, h⟩
          · rename_i hj
            have hj' : ¬ j % 2 = 0 := hj
            obtain ⟨h1, h2⟩ := ihr h
            exact ⟨by omega, h2⟩
theorem hideL_get : ∀ {ds : List Nat} {fr : Fr} {d : Nat} {v : V}, (hideL fr ds).get d = some v → d ∉ ds ∧ fr.get d = some v
  | [], fr, d, v, h => ⟨by simp, h⟩
  | x :: ds, fr, d, v, h => by
    obtain ⟨h1, h2⟩ := hideL_get (ds := ds) h
    obtain ⟨h3, h4⟩ := T.get_del h2
    exact ⟨by simp [h1, h3], h4⟩
theorem memN_iff : ∀ {x : Nat} {l : List Nat}, memN x l = true ↔ x ∈ l
  | x, [] => by simp [memN]
  | x, y :: l => by
    simp only [memN]
    split
    · rename_i h; have := Nat.eq_of_beq_eq_true h; simp [this]
    · rename_i h
      have : x ≠ y := fun he => by rw [he, Nat.beq_refl] at h; cases h
      simp [memN_iff, this]

theorem valOf_same {x : Option V} {aw aw' : AW} {r : Res} (h : valOf x aw = some (r, aw')) : aw' = aw ∧ ∃ v, r = .val v := by
  obtain ⟨v, h1, rfl, rfl⟩ := valOf_inv h
  exact ⟨rfl, v, rfl⟩
theorem quiet_ok {o : AOp} {fr : Fr} {aw aw' : AW} {r : Res} (hq : o.quiet = true) (h : aop o fr aw = some (r, aw')) : aw' = aw ∧ ∃ v, r = .val v := by
  cases o <;> first | (simp only [AOp.quiet] at hq; cases hq; done) | skip
  all_goals simp only [aop] at h
  all_goals first
    | exact valOf_same h
    | (repeat' split at h) <;> first | (exact valOf_same h) | (cases h; done) | (cases h; exact ⟨rfl, _, rfl⟩)
mutual
theorem VL.beq_eq : ∀ {l l' : List V}, VL.beq l l' = true → l = l'
  | [], [], _ => rfl
  | [], _ :: _, h => by simp [VL.beq] at h
  | _ :: _, [], h => by simp [VL.beq] at h
  | x :: l, y :: l', h => by
    simp only [VL.beq, Bool.and_eq_true] at h
    rw [V.beq_eq h.1, VL.beq_eq h.2]
theorem V.beq_eq : ∀ {x y : V}, V.beq x y = true → x = y := by
  intro x y h
  match x with
  | .iface t v => cases y <;> first | (simp [V.beq] at h; done) | (simp only [V.beq, Bool.and_eq_true] at h; rw [Nat.eq_of_beq_eq_true h.1, V.beq_eq h.2])
  | .agg l => cases y <;> first | (simp [V.beq] at h; done) | (simp only [V.beq] at h; rw [VL.beq_eq h])
  | .tuple l => cases y <;> first | (simp [V.beq] at h; done) | (simp only [V.beq] at h; rw [VL.beq_eq h])
  | .bool a => cases y <;> first | (simp [V.beq] at h; done) | (rename_i b; revert h; cases a <;> cases b <;> simp [V.beq])
  | .int k n => cases y <;> first | (simp [V.beq] at h; done) | (simp only [V.beq, Bool.and_eq_true, decide_eq_true_eq] at h; rw [h.1, h.2])
  | .str l => cases y <;> first | (simp [V.beq] at h; done) | (simp only [V.beq] at h; rw [eqL_iff.1 h])
  | .ptr b o => cases y <;> first | (simp [V.beq] at h; done) | (simp only [V.beq, Bool.and_eq_true] at h; rw [Nat.eq_of_beq_eq_true h.1, Nat.eq_of_beq_eq_true h.2])
  | .slice b o l c => cases y <;> first | (simp [V.beq] at h; done) | (simp only [V.beq, Bool.and_eq_true, decide_eq_true_eq] at h; rw [Nat.eq_of_beq_eq_true h.1.1.1, Nat.eq_of_beq_eq_true h.1.1.2, Nat.eq_of_beq_eq_true h.1.2, h.2])
  | .map b => cases y <;> first | (simp [V.beq] at h; done) | (simp only [V.beq] at h; rw [Nat.eq_of_beq_eq_true h])
  | .func .. => simp [V.beq] at h
  | .undef | .nilptr | .nilslice | .nilmap | .nilfunc | .niliface => cases y <;> first | rfl | (simp [V.beq] at h; done)
end
end Go.AE
