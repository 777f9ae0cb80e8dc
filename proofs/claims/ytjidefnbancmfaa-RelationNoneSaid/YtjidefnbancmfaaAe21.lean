/- AE, part 21: every operation is the model's. -/
import Derived.Test.YtjidefnbancmfaaAe20
set_option linter.unusedVariables false
set_option linter.unusedSimpArgs false
namespace Go.AE

section
variable {P : Program} {o : Oper} {act : Act} {aw aw' : AW} {w : World} {m : Map} {base N : Nat} {fr : Fr}

theorem aop_ok (hR : R aw w m base) (hfr : FR m N fr act.tmps) {ao : AOp} {r : Res} (hc : cOp P o.op = some ao) (h : aop ao fr aw = some (r, aw')) : OpOK P o act aw aw' w m base r := by
  have mov : ∀ {x : Operand} {a : Opd} {r aw'}, (o.op = .move x ∨ o.op = .assign x) → cOpd x = some a → aop (.mov a) fr aw = some (r, aw') → OpOK P o act aw aw' w m base r := by
    intro x a r aw' ho hx h
    simp only [aop] at h
    obtain ⟨v, h1, rfl, rfl⟩ := valOf_inv h
    exact mov_ok hR hfr ho hx h1
  cases ho : o.op <;> rw [ho] at hc <;> simp only [cOp] at hc
  case move x =>
    split at hc
    · rename_i a ha; cases hc; exact mov (.inl ho) ha h
    · cases hc
  case assign x =>
    split at hc
    · rename_i a ha; cases hc; exact mov (.inr ho) ha h
    · cases hc
  case pick c x y =>
    split at hc
    · rename_i c' a b h1 h2 h3
      cases hc
      simp only [aop] at h
      split at h
      · rename_i hb
        obtain ⟨v, h4, rfl, rfl⟩ := valOf_inv h
        exact pick_ok hR hfr ho h1 h2 h3 hb (by simpa using h4)
      · rename_i hb
        obtain ⟨v, h4, rfl, rfl⟩ := valOf_inv h
        exact pick_ok hR hfr ho h1 h2 h3 hb (by simpa using h4)
      · cases h
    · cases hc
  case alloc t =>
    split at hc
    · rename_i z hz; cases hc; cases h; exact alloc_ok hR ho hz
    · cases hc
  case box t x =>
    split at hc
    · rename_i a ha
      cases hc
      simp only [aop] at h
      split at h
      · rename_i v hv; cases h; exact box_ok hR hfr ho ha hv
      · cases h
    · cases hc
  case build t parts =>
    split at hc
    · rename_i z hz
      split at hc
      · rename_i fs hu
        split at hc
        · rename_i ps hps
          split at hc
          · rename_i q hq
            cases hc
            simp only [aop] at h
            split at h
            · rename_i ps' h1
              split at h
              · rename_i l h2; cases h; exact buildS_ok hR hfr ho hz hu hps hq h1 h2
              · cases h
            · cases h
          · cases hc
        · cases hc
      · rename_i k e hu
        split at hc
        · rename_i n hn
          split at hc
          · rename_i q hq
            cases hc
            simp only [aop] at h
            split at h
            · rename_i ps' h1
              split at h
              · rename_i l h2; cases h; exact buildA_ok hR hfr ho hz hu hn hq h1 h2
              · cases h
            · cases h
          · cases hc
        · cases hc
      · cases hc
    · cases hc
  case buildSlice t len parts =>
    split at hc
    · rename_i e hu
      split at hc
      · rename_i i hi
        split at hc
        · rename_i hmax
          split at hc
          · rename_i h0
            split at hc
            · rename_i q hq
              cases hc
              simp only [aop] at h
              split at h
              · rename_i ps' h1
                split at h
                · rename_i l h2; cases h; exact buildSlice_ok hR hfr ho hu hi hmax (.inl ⟨h0, rfl⟩) hq h1 h2
                · cases h
              · cases h
            · cases hc
          · rename_i h0
            split at hc
            · rename_i z hz
              split at hc
              · rename_i hzl
                split at hc
                · rename_i q hq
                  cases hc
                  simp only [aop] at h
                  split at h
                  · rename_i ps' h1
                    split at h
                    · rename_i l h2; cases h; exact buildSlice_ok hR hfr ho hu hi hmax (.inr ⟨h0, z, hz, hzl, rfl⟩) hq h1 h2
                    · cases h
                  · cases h
                · cases hc
              · cases hc
            · cases hc
        · cases hc
      · cases hc
    · cases hc
  case insert t x k y =>
    split at hc
    · rename_i a b c h1 h2 h3
      split at hc
      · rename_i kt el hu
        split at hc
        · rename_i ty hty
          cases hc
          simp only [aop] at h
          split at h
          · rename_i mv kv v e1 e2 e3
            split at h
            · rename_i bk es ck e4 e5
              split at h
              · rename_i i v0 n e6; cases h; exact mapUpdate_ok hR hfr (.inr ho) h1 h2 h3 hu hty e1 e2 e3 e4 e5 e6
              · rename_i e6; cases h; exact mapUpdate_ok hR hfr (.inr ho) h1 h2 h3 hu hty e1 e2 e3 e4 e5 e6
              · cases h
            · cases h
          · cases h
        · cases hc
      · cases hc
    · cases hc
  case load t x =>
    split at hc
    · rename_i a ha
      split at hc
      · rename_i n g hn hg
        cases hc
        simp only [aop] at h
        split at h
        · rename_i b off h1
          cases g with
          | true =>
            simp only [] at h
            split at h
            · rename_i l h2; cases h; exact loadA_ok hR hfr ho ha hn hg h1 h2
            · cases h
          | false =>
            simp only [] at h
            split at h
            · rename_i v h2; cases h; exact load1_ok hR hfr ho ha hg h1 h2
            · cases h
        · cases h
      · cases hc
    · cases hc
  case store t x v =>
    split at hc
    · rename_i a b ha hb
      split at hc
      · rename_i n hn
        cases hc
        simp only [aop] at h
        split at h
        · rename_i bk off vv h1 h2
          split at h
          · rename_i hl
            split at h
            · rename_i aw1 hst; cases h; exact store_ok hR hfr ho ha hb hn h1 h2 hl hst
            · cases h
          · cases h
        · cases h
      · cases hc
    · cases hc
  case nilCheck x =>
    split at hc
    · rename_i a ha
      cases hc
      simp only [aop] at h
      split at h
      · rename_i b off h1; cases h; exact nilCheck_ok hR hfr ho ha h1 (.inl ⟨b, off, rfl⟩)
      · rename_i f p q h1; cases h; exact nilCheck_ok hR hfr ho ha h1 (.inr (.inl ⟨f, p, q, rfl⟩))
      · rename_i t v h1; cases h; exact nilCheck_ok hR hfr ho ha h1 (.inr (.inr ⟨t, v, rfl⟩))
      · cases h
    · cases hc
  case binOp op t x y yt => exact cBin_ok hR hfr ho hc h
  case unOp op t x =>
    split at hc
    · rename_i a ha
      cases hc
      simp only [aop] at h
      split at h
      · rename_i va h1
        obtain ⟨v, h2, rfl, rfl⟩ := valOf_inv h
        exact un_ok hR hfr ho ha h1 h2
      · cases h
    · cases hc
  case convert src dst x =>
    split at hc
    · rename_i a ha
      split at hc
      · rename_i k0 k hs hd
        cases hc
        simp only [aop] at h
        split at h
        · rename_i k' n h1; cases h; exact conv_ok hR hfr ho hs hd ha h1
        · cases h
      · rename_i hs hd
        cases hc
        simp only [aop] at h
        split at h
        · rename_i l h1; cases h; exact convStr_ok hR hfr ho hs hd ha h1
        · cases h
      · rename_i e hs hd
        split at hc
        · rename_i he
          cases hc
          simp only [aop] at h
          split at h
          · rename_i l h1
            split at h
            · rename_i hl; cases h; exact bytesOf_ok hR hfr ho hs hd he ha h1 hl
            · cases h
          · cases h
        · cases hc
      · rename_i e hs hd
        split at hc
        · rename_i he
          cases hc
          simp only [aop] at h
          split at h
          · rename_i h1; cases h; exact strOf_ok hR hfr ho hs hd he ha h1 (.inl ⟨rfl, rfl⟩)
          · rename_i b off len cap h1
            split at h
            · rename_i n l h2
              split at h
              · rename_i cs h3; cases h; exact strOf_ok hR hfr ho hs hd he ha h1 (.inr ⟨b, off, len, cap, n, l, rfl, h2, h3⟩)
              · cases h
            · cases h
          · cases h
        · cases hc
      · cases hc
    · cases hc
  case makeInterface t x =>
    split at hc
    · rename_i a ha
      split at hc
      · cases hc
      · rename_i d hd hu
        cases hc
        simp only [aop] at h
        split at h
        · rename_i v h1; cases h; exact mkIface_ok hR hfr ho ha hu (fun ms hm => hd ms hm) h1
        · cases h
      · cases hc
    · cases hc
  case makeFunc fn first cap =>
    split at hc
    · rename_i f c hf hcp
      cases hc
      simp only [aop] at h
      split at h
      · rename_i vf vc h1 h2; cases h; exact mkFunc_ok hR hfr ho hf hcp h1 h2
      · cases h
    · cases hc
  case makeMap t res =>
    cases res with
    | none => cases hc; cases h; exact mkMap_ok hR ho
    | some q => cases hc
  case makeSlice t l c =>
    split at hc
    · rename_i a b ha hb
      split at hc
      · rename_i e hu
        split at hc
        · rename_i i z hi hz
          split at hc
          · rename_i hcond
            cases hc
            simp only [aop] at h
            split at h
            · rename_i lv cv h1 h2
              split at h
              · rename_i ln cn h3 h4
                split at h
                · rename_i hb'; cases h; exact mkSlice_ok hR hfr ho ha hb hu hi hz hcond.1 hcond.2 h1 h2 h3 h4 hb'.1 hb'.2.1 hb'.2.2
                · cases h
              · cases h
            · cases h
          · cases hc
        · cases hc
      · cases hc
    · cases hc
  case slice t x lo hi mx =>
    split at hc
    · rename_i a al ah am ha hl hh hm
      split at hc
      · rename_i hu
        split at hc
        · cases hc
          cases mx with
          | some q =>
            simp only [cOpt] at hm
            split at hm <;> cases hm
          | none =>
            simp only [aop] at h
            split at h
            · rename_i s l hh' h1 h2 h3
              split at h
              · rename_i hb; cases h; exact sliceStr_ok hR hfr ho ha hl hh hu h1 h2 h3 hb.1 hb.2
              · cases h
            · cases h
        · cases hc
      · rename_i e hu
        split at hc
        · rename_i n hn
          cases hc
          simp only [aop] at h
          split at h
          · rename_i b off len cap l hh' q h1 h2 h3 h4
            obtain ⟨v, h5, rfl, rfl⟩ := valOf_inv h
            exact slice_ok hR hfr ho ha hl hh hm hu hn h1 h2 h3 h4 h5
          · rename_i l hh' q h1 h2 h3 h4
            split at h
            · rename_i z1 z2 z3
              split at h
              · rename_i hb; cases h; exact sliceNil_ok hR hfr ho ha hl hh hm hu hn h1 h2 h3 h4 z1 z2 z3 hb
              · cases h
            · cases h
          · cases h
        · cases hc
      · rename_i k e hu
        split at hc
        · rename_i n hn
          cases hc
          simp only [aop] at h
          split at h
          · rename_i b off l hh' q h1 h2 h3 h4
            obtain ⟨v, h5, rfl, rfl⟩ := valOf_inv h
            exact sliceArr_ok hR hfr ho ha hl hh hm hu hn h1 h2 h3 h4 h5
          · cases h
        · cases hc
      · cases hc
    · cases hc
  case fieldAddr s x f =>
    split at hc
    · rename_i a ha
      split at hc
      · rename_i fs hu
        split at hc
        · rename_i fd hf
          split at hc
          · rename_i n hn
            cases hc
            simp only [aop] at h
            split at h
            · rename_i b off h1; cases h; exact fieldAddr_ok hR hfr ho ha hu hf hn h1
            · cases h
          · cases hc
        · cases hc
      · cases hc
    · cases hc
  case field t x f =>
    split at hc
    · rename_i a ha
      split at hc
      · rename_i fs hu
        split at hc
        · rename_i fd hf
          split at hc
          · rename_i n g hn hg
            cases hc
            simp only [aop] at h
            split at h
            · rename_i l h1
              obtain ⟨v, h5, rfl, rfl⟩ := valOf_inv h
              exact field_ok hR hfr ho ha hu hf hn hg h1 h5
            · cases h
          · cases hc
        · cases hc
      · cases hc
    · cases hc
  case indexAddr t x i =>
    split at hc
    · rename_i a b ha hb
      split at hc
      · rename_i e hu
        split at hc
        · rename_i n hn
          cases hc
          simp only [aop] at h
          split at h
          · rename_i bk off len cap iv h1 h2
            split at h
            · rename_i j hj
              split at h
              · rename_i hlt; cases h; exact indexAddr_ok hR hfr ho ha hb hu hn h1 h2 hj hlt
              · cases h
            · cases h
          · cases h
        · cases hc
      · rename_i k e hu
        split at hc
        · rename_i n hn
          cases hc
          simp only [aop] at h
          split at h
          · rename_i bk off iv h1 h2
            split at h
            · rename_i j hj
              split at h
              · rename_i hlt; cases h; exact indexArr_ok hR hfr ho ha hb hu hn h1 h2 hj hlt
              · cases h
            · cases h
          · cases h
        · cases hc
      · cases hc
    · cases hc
  case index t x i =>
    split at hc
    · rename_i a b ha hb
      split at hc
      · rename_i hu
        cases hc
        simp only [aop] at h
        split at h
        · rename_i l iv h1 h2
          split at h
          · rename_i j hj
            split at h
            · rename_i c hcx; cases h; exact indexStr_ok hR hfr ho ha hb hu h1 h2 hj hcx
            · cases h
          · cases h
        · cases h
      · rename_i k e hu
        split at hc
        · rename_i n g hn hg
          cases hc
          simp only [aop] at h
          split at h
          · rename_i l iv h1 h2
            split at h
            · rename_i j hj
              split at h
              · rename_i hlt
                obtain ⟨v, h5, rfl, rfl⟩ := valOf_inv h
                exact indexAgg_ok hR hfr ho ha hb hu hn hg h1 h2 hj hlt h5
              · cases h
            · cases h
          · cases h
        · cases hc
      · cases hc
    · cases hc
  case lookup t x k ok =>
    split at hc
    · rename_i a b ha hb
      split at hc
      · rename_i kt el hu
        split at hc
        · rename_i ty z hty hz
          cases hc
          simp only [aop] at h
          split at h
          · rename_i mv kv h1 h2
            split at h
            · rename_i ob es ck h3 h4
              split at h
              · rename_i i v n h5; cases h; exact lookup_ok hR hfr ho ha hb hu hty hz h1 h2 h3 h4 h5
              · rename_i h5; cases h; exact lookup_ok hR hfr ho ha hb hu hty hz h1 h2 h3 h4 h5
              · cases h
            · cases h
          · cases h
        · cases hc
      · cases hc
    · cases hc
  case mapUpdate t x k y =>
    split at hc
    · rename_i a b c h1 h2 h3
      split at hc
      · rename_i kt el hu
        split at hc
        · rename_i ty hty
          cases hc
          simp only [aop] at h
          split at h
          · rename_i mv kv v e1 e2 e3
            split at h
            · rename_i bk es ck e4 e5
              split at h
              · rename_i i v0 n e6; cases h; exact mapUpdate_ok hR hfr (.inl ho) h1 h2 h3 hu hty e1 e2 e3 e4 e5 e6
              · rename_i e6; cases h; exact mapUpdate_ok hR hfr (.inl ho) h1 h2 h3 hu hty e1 e2 e3 e4 e5 e6
              · cases h
            · cases h
          · cases h
        · cases hc
      · cases hc
    · cases hc
  case mapEntry t x k =>
    split at hc
    · rename_i a b ha hb
      split at hc
      · rename_i kt el hu
        split at hc
        · rename_i ty z hty hz
          cases hc
          simp only [aop] at h
          split at h
          · rename_i mv kv h1 h2
            split at h
            · rename_i bk es ck h3 h4
              split at h
              · rename_i i v n h5; cases h; exact mapEntry_ok hR hfr ho ha hb hu hty hz h1 h2 h3 h4 h5
              · rename_i h5; cases h; exact mapEntry_ok hR hfr ho ha hb hu hty hz h1 h2 h3 h4 h5
              · cases h
            · cases h
          · cases h
        · cases hc
      · cases hc
    · cases hc
  case entryStore t x s y =>
    split at hc
    · rename_i a b c h1 h2 h3
      cases hc
      simp only [aop] at h
      split at h
      · rename_i mv sv v e1 e2 e3
        split at h
        · rename_i bk es ck n e4 e5
          split at h
          · rename_i i e6
            split at h
            · rename_i k v0 n' e7; cases h; exact entryStore_ok hR hfr ho h1 h2 h3 e1 e2 e3 e4 e5 e6 e7
            · cases h
          · cases h
        · cases h
      · cases h
    · cases hc
  case range t x =>
    split at hc
    · rename_i a ha
      split at hc
      · rename_i kt el hu
        cases hc
        simp only [aop] at h
        split at h
        · rename_i mv h1
          split at h
          · rename_i ob es ck h2; cases h; exact rangeMap_ok hR hfr ho ha hu h1 h2
          · cases h
        · cases h
      · cases hc
    · cases hc
  case next x isS =>
    cases isS with
    | true => cases hc
    | false =>
      simp only [] at hc
      split at hc
      · rename_i a ha
        cases hc
        simp only [aop] at h
        split at h
        · rename_i q h1
          split at h
          · rename_i s1 s2 s3 h2; cases h; exact nextOver hR hfr ho ha h1 (.inl ⟨_, _, _, h2⟩)
          · rename_i b since seen last h2
            split at h
            · rename_i es ck h3
              split at h
              · cases h; exact nextOver hR hfr ho ha h1 (.inr ⟨b, since, seen, last, _, ck, h2, h3, .inl rfl⟩)
              · rename_i k v n hck
                split at h
                · split at h
                  · rename_i hlt; cases h; exact nextHit hR hfr ho ha h1 h2 h3 hlt
                  · cases h
                · rename_i p
                  split at h
                  · rename_i hq
                    obtain ⟨rfl, hlt⟩ := hq
                    cases h; exact nextOver hR hfr ho ha h1 (.inr ⟨b, since, _, last, _, ck, h2, h3, .inr ⟨k, v, p, rfl, rfl, hlt⟩⟩)
                  · cases h
                · cases h
              · cases h
            · cases h
          · cases h
        · cases h
      · cases hc
  case typeAssert x xt t ok =>
    split at hc
    · rename_i a ha
      split at hc
      · cases hc
      · rename_i d z hd hu hz
        cases hc
        simp only [aop] at h
        split at h
        · rename_i t' v h1
          split at h
          · rename_i heq
            have := Nat.eq_of_beq_eq_true heq
            subst this
            cases h
            exact typeAssert_ok hR hfr ho ha hu (fun ms hm => hd ms hm) hz h1 (.inl ⟨v, rfl, rfl⟩)
          · rename_i heq
            cases ok with
            | true =>
              simp only [] at h
              cases h
              exact typeAssert_ok hR hfr ho ha hu (fun ms hm => hd ms hm) hz h1 (.inr ⟨rfl, rfl, .inr ⟨t', v, rfl, fun hq => by subst hq; simp at heq⟩⟩)
            | false => cases h
        · rename_i h1
          cases ok with
          | true =>
            simp only [] at h
            cases h
            exact typeAssert_ok hR hfr ho ha hu (fun ms hm => hd ms hm) hz h1 (.inr ⟨rfl, rfl, .inl rfl⟩)
          | false => cases h
        · cases h
      · cases hc
    · cases hc
  case extract x i =>
    split at hc
    · rename_i a ha
      cases hc
      simp only [aop] at h
      split at h
      · rename_i l h1
        obtain ⟨v, h5, rfl, rfl⟩ := valOf_inv h
        exact extract_ok hR hfr ho ha h1 h5
      · cases h
    · cases hc
  case call c =>
    split at hc
    · rename_i f hcal
      split at hc
      · rename_i a as ha has
        cases hc
        simp only [aop] at h
        split at h
        · rename_i g first cap args h1 h2
          cases h
          exact call_ok hfr ho hcal ha has h1 h2
        · cases h
      · cases hc
    · rename_i bi hcal
      obtain ⟨cal, args, ts⟩ := c
      simp only at hcal
      subst hcal
      exact cBuiltin_ok hR hfr ho hc h
    · cases hc
  all_goals cases hc
end
end Go.AE
