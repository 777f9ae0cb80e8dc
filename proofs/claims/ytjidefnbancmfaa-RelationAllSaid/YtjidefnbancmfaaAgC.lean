/- AE, part 21: every operation is the model's. -/
import Derived.Test.YtjidefnbancmfaaAgB
import Derived.LoopN
import Derived.Below
import Derived.Laws.IdiomCopy
set_option linter.unusedVariables false
set_option linter.unusedSimpArgs false
namespace Go.AE

section
variable {P : Program} {o : Oper} {act : Act} {aw aw' : AW} {w : World} {m : Map} {base N : Nat} {fr : Fr}

theorem aop_ok (hR : R aw w m base) (hfr : FR m N fr act.tmps) {ao : AOp} {r : Res} (hc : cOp P o.op = some ao) (h : aop ao fr aw = some (r, aw')) : OpOK P o act aw aw' w m base r := by
  have mov : ∀ {x : Operand} {a : Opd} {r aw'}, (o.op = .move x ∨ o.op = .assign x) → cOpd x = some a → aop (.mov a) fr aw = some (r, aw') → OpOK P o act aw aw' w m base r := by
    intro x a r aw' ho hx h
    simp only [aop] at h
    obtain ⟨v, h1, rfl, rfl⟩ := valOf_inv h
    exact mov_ok hR hfr ho hx h1
  cases ho : o.op <;> rw [ho] at hc <;> simp only [cOp] at hc
  case move x =>
    split at hc
    · rename_i a ha; cases hc; exact mov (.inl ho) ha h
    · cases hc
  case assign x =>
    split at hc
    · rename_i a ha; cases hc; exact mov (.inr ho) ha h
    · cases hc
  case pick c x y =>
    split at hc
    · rename_i c' a b h1 h2 h3
      cases hc
      simp only [aop] at h
      split at h
      · rename_i hb
        obtain ⟨v, h4, rfl, rfl⟩ := valOf_inv h
        exact pick_ok hR hfr ho h1 h2 h3 hb (by simpa using h4)
      · rename_i hb
        obtain ⟨v, h4, rfl, rfl⟩ := valOf_inv h
        exact pick_ok hR hfr ho h1 h2 h3 hb (by simpa using h4)
      · cases h
    · cases hc
  case alloc t =>
    split at hc
    · rename_i z hz; cases hc; cases h; exact alloc_ok hR ho hz
    · cases hc
  case box t x =>
    split at hc
    · rename_i a ha
      cases hc
      simp only [aop] at h
      split at h
      · rename_i v hv; cases h; exact box_ok hR hfr ho ha hv
      · cases h
    · cases hc
  case build t parts =>
    split at hc
    · rename_i z hz
      split at hc
      · rename_i fs hu
        split at hc
        · rename_i ps hps
          split at hc
          · rename_i q hq
            cases hc
            simp only [aop] at h
            split at h
            · rename_i ps' h1
              split at h
              · rename_i l h2; cases h; exact buildS_ok hR hfr ho hz hu hps hq h1 h2
              · cases h
            · cases h
          · cases hc
        · cases hc
      · rename_i k e hu
        split at hc
        · rename_i n hn
          split at hc
          · rename_i q hq
            cases hc
            simp only [aop] at h
            split at h
            · rename_i ps' h1
              split at h
              · rename_i l h2; cases h; exact buildA_ok hR hfr ho hz hu hn hq h1 h2
              · cases h
            · cases h
          · cases hc
        · cases hc
      · cases hc
    · cases hc
  case buildSlice t len parts =>
    split at hc
    · rename_i e hu
      split at hc
      · rename_i i hi
        split at hc
        · rename_i hmax
          split at hc
          · rename_i h0
            split at hc
            · rename_i q hq
              cases hc
              simp only [aop] at h
              split at h
              · rename_i ps' h1
                split at h
                · rename_i l h2; cases h; exact buildSlice_ok hR hfr ho hu hi hmax (.inl ⟨h0, rfl⟩) hq h1 h2
                · cases h
              · cases h
            · cases hc
          · rename_i h0
            split at hc
            · rename_i z hz
              split at hc
              · rename_i hzl
                split at hc
                · rename_i q hq
                  cases hc
                  simp only [aop] at h
                  split at h
                  · rename_i ps' h1
                    split at h
                    · rename_i l h2; cases h; exact buildSlice_ok hR hfr ho hu hi hmax (.inr ⟨h0, z, hz, hzl, rfl⟩) hq h1 h2
                    · cases h
                  · cases h
                · cases hc
              · cases hc
            · cases hc
        · cases hc
      · cases hc
    · cases hc
  case insert t x k y =>
    split at hc
    · rename_i a b c h1 h2 h3
      split at hc
      · rename_i kt el hu
        split at hc
        · rename_i ty hty
          cases hc
          simp only [aop] at h
          split at h
          · rename_i mv kv v e1 e2 e3
            split at h
            · rename_i bk es ck e4 e5
              split at h
              · rename_i i v0 n e6; cases h; exact mapUpdate_ok hR hfr (.inr ho) h1 h2 h3 hu hty e1 e2 e3 e4 e5 e6
              · rename_i e6; cases h; exact mapUpdate_ok hR hfr (.inr ho) h1 h2 h3 hu hty e1 e2 e3 e4 e5 e6
              · cases h
            · cases h
          · cases h
        · cases hc
      · cases hc
    · cases hc
  case load t x =>
    split at hc
    · rename_i a ha
      split at hc
      · rename_i n g hn hg
        cases hc
        simp only [aop] at h
        split at h
        · rename_i b off h1
          cases g with
          | true =>
            simp only [] at h
            split at h
            · rename_i l h2; cases h; exact loadA_ok hR hfr ho ha hn hg h1 h2
            · cases h
          | false =>
            simp only [] at h
            split at h
            · rename_i v h2; cases h; exact load1_ok hR hfr ho ha hg h1 h2
            · cases h
        · cases h
      · cases hc
    · cases hc
  case store t x v =>
    split at hc
    · rename_i a b ha hb
      split at hc
      · rename_i n hn
        cases hc
        simp only [aop] at h
        split at h
        · rename_i bk off vv h1 h2
          split at h
          · rename_i hl
            split at h
            · rename_i aw1 hst; cases h; exact store_ok hR hfr ho ha hb hn h1 h2 hl hst
            · cases h
          · cases h
        · cases h
      · cases hc
    · cases hc
  case nilCheck x =>
    split at hc
    · rename_i a ha
      cases hc
      simp only [aop] at h
      split at h
      · rename_i b off h1; cases h; exact nilCheck_ok hR hfr ho ha h1 (.inl ⟨b, off, rfl⟩)
      · rename_i f p q h1; cases h; exact nilCheck_ok hR hfr ho ha h1 (.inr (.inl ⟨f, p, q, rfl⟩))
      · rename_i t v h1; cases h; exact nilCheck_ok hR hfr ho ha h1 (.inr (.inr ⟨t, v, rfl⟩))
      · cases h
    · cases hc
  case binOp op t x y yt => exact cBin_ok hR hfr ho hc h
  case unOp op t x =>
    split at hc
    · rename_i a ha
      cases hc
      simp only [aop] at h
      split at h
      · rename_i va h1
        obtain ⟨v, h2, rfl, rfl⟩ := valOf_inv h
        exact un_ok hR hfr ho ha h1 h2
      · cases h
    · cases hc
  case convert src dst x =>
    split at hc
    · rename_i a ha
      split at hc
      · rename_i k0 k hs hd
        cases hc
        simp only [aop] at h
        split at h
        · rename_i k' n h1; cases h; exact conv_ok hR hfr ho hs hd ha h1
        · cases h
      · rename_i hs hd
        cases hc
        simp only [aop] at h
        split at h
        · rename_i l h1; cases h; exact convStr_ok hR hfr ho hs hd ha h1
        · cases h
      · rename_i e hs hd
        split at hc
        · rename_i he
          cases hc
          simp only [aop] at h
          split at h
          · rename_i l h1
            split at h
            · rename_i hl; cases h; exact bytesOf_ok hR hfr ho hs hd he ha h1 hl
            · cases h
          · cases h
        · cases hc
      · rename_i e hs hd
        split at hc
        · rename_i he
          cases hc
          simp only [aop] at h
          split at h
          · rename_i h1; cases h; exact strOf_ok hR hfr ho hs hd he ha h1 (.inl ⟨rfl, rfl⟩)
          · rename_i b off len cap h1
            split at h
            · rename_i n l h2
              split at h
              · rename_i cs h3; cases h; exact strOf_ok hR hfr ho hs hd he ha h1 (.inr ⟨b, off, len, cap, n, l, rfl, h2, h3⟩)
              · cases h
            · cases h
          · cases h
        · cases hc
      · cases hc
    · cases hc
  case makeInterface t x =>
    split at hc
    · rename_i a ha
      split at hc
      · cases hc
      · rename_i d hd hu
        cases hc
        simp only [aop] at h
        split at h
        · rename_i v h1; cases h; exact mkIface_ok hR hfr ho ha hu (fun ms hm => hd ms hm) h1
        · cases h
      · cases hc
    · cases hc
  case makeFunc fn first cap =>
    split at hc
    · rename_i f c hf hcp
      cases hc
      simp only [aop] at h
      split at h
      · rename_i vf vc h1 h2; cases h; exact mkFunc_ok hR hfr ho hf hcp h1 h2
      · cases h
    · cases hc
  case makeMap t res =>
    cases res with
    | none => cases hc; cases h; exact mkMap_ok hR ho
    | some q => cases hc
  case makeSlice t l c =>
    split at hc
    · rename_i a b ha hb
      split at hc
      · rename_i e hu
        split at hc
        · rename_i i z hi hz
          split at hc
          · rename_i hcond
            cases hc
            simp only [aop] at h
            split at h
            · rename_i lv cv h1 h2
              split at h
              · rename_i ln cn h3 h4
                split at h
                · rename_i hb'; cases h; exact mkSlice_ok hR hfr ho ha hb hu hi hz hcond.1 hcond.2 h1 h2 h3 h4 hb'.1 hb'.2.1 hb'.2.2
                · cases h
              · cases h
            · cases h
          · cases hc
        · cases hc
      · cases hc
    · cases hc
  case slice t x lo hi mx =>
    split at hc
    · rename_i a al ah am ha hl hh hm
      split at hc
      · rename_i hu
        split at hc
        · cases hc
          cases mx with
          | some q =>
            simp only [cOpt] at hm
            split at hm <;> cases hm
          | none =>
            simp only [aop] at h
            split at h
            · rename_i s l hh' h1 h2 h3
              split at h
              · rename_i hb; cases h; exact sliceStr_ok hR hfr ho ha hl hh hu h1 h2 h3 hb.1 hb.2
              · cases h
            · cases h
        · cases hc
      · rename_i e hu
        split at hc
        · rename_i n hn
          cases hc
          simp only [aop] at h
          split at h
          · rename_i b off len cap l hh' q h1 h2 h3 h4
            obtain ⟨v, h5, rfl, rfl⟩ := valOf_inv h
            exact slice_ok hR hfr ho ha hl hh hm hu hn h1 h2 h3 h4 h5
          · rename_i l hh' q h1 h2 h3 h4
            split at h
            · rename_i z1 z2 z3
              split at h
              · rename_i hb; cases h; exact sliceNil_ok hR hfr ho ha hl hh hm hu hn h1 h2 h3 h4 z1 z2 z3 hb
              · cases h
            · cases h
          · cases h
        · cases hc
      · rename_i k e hu
        split at hc
        · rename_i n hn
          cases hc
          simp only [aop] at h
          split at h
          · rename_i b off l hh' q h1 h2 h3 h4
            obtain ⟨v, h5, rfl, rfl⟩ := valOf_inv h
            exact sliceArr_ok hR hfr ho ha hl hh hm hu hn h1 h2 h3 h4 h5
          · cases h
        · cases hc
      · cases hc
    · cases hc
  case fieldAddr s x f =>
    split at hc
    · rename_i a ha
      split at hc
      · rename_i fs hu
        split at hc
        · rename_i fd hf
          split at hc
          · rename_i n hn
            cases hc
            simp only [aop] at h
            split at h
            · rename_i b off h1; cases h; exact fieldAddr_ok hR hfr ho ha hu hf hn h1
            · cases h
          · cases hc
        · cases hc
      · cases hc
    · cases hc
  case field t x f =>
    split at hc
    · rename_i a ha
      split at hc
      · rename_i fs hu
        split at hc
        · rename_i fd hf
          split at hc
          · rename_i n g hn hg
            cases hc
            simp only [aop] at h
            split at h
            · rename_i l h1
              obtain ⟨v, h5, rfl, rfl⟩ := valOf_inv h
              exact field_ok hR hfr ho ha hu hf hn hg h1 h5
            · cases h
          · cases hc
        · cases hc
      · cases hc
    · cases hc
  case indexAddr t x i =>
    split at hc
    · rename_i a b ha hb
      split at hc
      · rename_i e hu
        split at hc
        · rename_i n hn
          cases hc
          simp only [aop] at h
          split at h
          · rename_i bk off len cap iv h1 h2
            split at h
            · rename_i j hj
              split at h
              · rename_i hlt; cases h; exact indexAddr_ok hR hfr ho ha hb hu hn h1 h2 hj hlt
              · cases h
            · cases h
          · cases h
        · cases hc
      · rename_i k e hu
        split at hc
        · rename_i n hn
          cases hc
          simp only [aop] at h
          split at h
          · rename_i bk off iv h1 h2
            split at h
            · rename_i j hj
              split at h
              · rename_i hlt; cases h; exact indexArr_ok hR hfr ho ha hb hu hn h1 h2 hj hlt
              · cases h
            · cases h
          · cases h
        · cases hc
      · cases hc
    · cases hc
  case index t x i =>
    split at hc
    · rename_i a b ha hb
      split at hc
      · rename_i hu
        cases hc
        simp only [aop] at h
        split at h
        · rename_i l iv h1 h2
          split at h
          · rename_i j hj
            split at h
            · rename_i c hcx; cases h; exact indexStr_ok hR hfr ho ha hb hu h1 h2 hj hcx
            · cases h
          · cases h
        · cases h
      · rename_i k e hu
        split at hc
        · rename_i n g hn hg
          cases hc
          simp only [aop] at h
          split at h
          · rename_i l iv h1 h2
            split at h
            · rename_i j hj
              split at h
              · rename_i hlt
                obtain ⟨v, h5, rfl, rfl⟩ := valOf_inv h
                exact indexAgg_ok hR hfr ho ha hb hu hn hg h1 h2 hj hlt h5
              · cases h
            · cases h
          · cases h
        · cases hc
      · cases hc
    · cases hc
  case lookup t x k ok =>
    split at hc
    · rename_i a b ha hb
      split at hc
      · rename_i kt el hu
        split at hc
        · rename_i ty z hty hz
          cases hc
          simp only [aop] at h
          split at h
          · rename_i mv kv h1 h2
            split at h
            · rename_i ob es ck h3 h4
              split at h
              · rename_i i v n h5; cases h; exact lookup_ok hR hfr ho ha hb hu hty hz h1 h2 h3 h4 h5
              · rename_i h5; cases h; exact lookup_ok hR hfr ho ha hb hu hty hz h1 h2 h3 h4 h5
              · cases h
            · cases h
          · cases h
        · cases hc
      · cases hc
    · cases hc
  case mapUpdate t x k y =>
    split at hc
    · rename_i a b c h1 h2 h3
      split at hc
      · rename_i kt el hu
        split at hc
        · rename_i ty hty
          cases hc
          simp only [aop] at h
          split at h
          · rename_i mv kv v e1 e2 e3
            split at h
            · rename_i bk es ck e4 e5
              split at h
              · rename_i i v0 n e6; cases h; exact mapUpdate_ok hR hfr (.inl ho) h1 h2 h3 hu hty e1 e2 e3 e4 e5 e6
              · rename_i e6; cases h; exact mapUpdate_ok hR hfr (.inl ho) h1 h2 h3 hu hty e1 e2 e3 e4 e5 e6
              · cases h
            · cases h
          · cases h
        · cases hc
      · cases hc
    · cases hc
  case mapEntry t x k =>
    split at hc
    · rename_i a b ha hb
      split at hc
      · rename_i kt el hu
        split at hc
        · rename_i ty z hty hz
          cases hc
          simp only [aop] at h
          split at h
          · rename_i mv kv h1 h2
            split at h
            · rename_i bk es ck h3 h4
              split at h
              · rename_i i v n h5; cases h; exact mapEntry_ok hR hfr ho ha hb hu hty hz h1 h2 h3 h4 h5
              · rename_i h5; cases h; exact mapEntry_ok hR hfr ho ha hb hu hty hz h1 h2 h3 h4 h5
              · cases h
            · cases h
          · cases h
        · cases hc
      · cases hc
    · cases hc
  case entryStore t x s y =>
    split at hc
    · rename_i a b c h1 h2 h3
      cases hc
      simp only [aop] at h
      split at h
      · rename_i mv sv v e1 e2 e3
        split at h
        · rename_i bk es ck n e4 e5
          split at h
          · rename_i i e6
            split at h
            · rename_i k v0 n' e7; cases h; exact entryStore_ok hR hfr ho h1 h2 h3 e1 e2 e3 e4 e5 e6 e7
            · cases h
          · cases h
        · cases h
      · cases h
    · cases hc
  case range t x =>
    split at hc
    · rename_i a ha
      split at hc
      · rename_i kt el hu
        cases hc
        simp only [aop] at h
        split at h
        · rename_i mv h1
          split at h
          · rename_i ob es ck h2; cases h; exact rangeMap_ok hR hfr ho ha hu h1 h2
          · cases h
        · cases h
      · cases hc
    · cases hc
  case next x isS =>
    cases isS with
    | true => cases hc
    | false =>
      simp only [] at hc
      split at hc
      · rename_i a ha
        cases hc
        simp only [aop] at h
        split at h
        · rename_i q h1
          split at h
          · rename_i s1 s2 s3 h2; cases h; exact nextOver hR hfr ho ha h1 (.inl ⟨_, _, _, h2⟩)
          · rename_i b since seen last h2
            split at h
            · rename_i es ck h3
              split at h
              · cases h; exact nextOver hR hfr ho ha h1 (.inr ⟨b, since, seen, last, _, ck, h2, h3, .inl rfl⟩)
              · rename_i k v n hck
                split at h
                · split at h
                  · rename_i hlt; cases h; exact nextHit hR hfr ho ha h1 h2 h3 hlt
                  · cases h
                · rename_i p
                  split at h
                  · rename_i hq
                    obtain ⟨rfl, hlt⟩ := hq
                    cases h; exact nextOver hR hfr ho ha h1 (.inr ⟨b, since, _, last, _, ck, h2, h3, .inr ⟨k, v, p, rfl, rfl, hlt⟩⟩)
                  · cases h
                · cases h
              · cases h
            · cases h
          · cases h
        · cases h
      · cases hc
  case typeAssert x xt t ok =>
    split at hc
    · rename_i a ha
      split at hc
      · cases hc
      · rename_i d z hd hu hz
        cases hc
        simp only [aop] at h
        split at h
        · rename_i t' v h1
          split at h
          · rename_i heq
            have := Nat.eq_of_beq_eq_true heq
            subst this
            cases h
            exact typeAssert_ok hR hfr ho ha hu (fun ms hm => hd ms hm) hz h1 (.inl ⟨v, rfl, rfl⟩)
          · rename_i heq
            cases ok with
            | true =>
              simp only [] at h
              cases h
              exact typeAssert_ok hR hfr ho ha hu (fun ms hm => hd ms hm) hz h1 (.inr ⟨rfl, rfl, .inr ⟨t', v, rfl, fun hq => by subst hq; simp at heq⟩⟩)
            | false => cases h
        · rename_i h1
          cases ok with
          | true =>
            simp only [] at h
            cases h
            exact typeAssert_ok hR hfr ho ha hu (fun ms hm => hd ms hm) hz h1 (.inr ⟨rfl, rfl, .inl rfl⟩)
          | false => cases h
        · cases h
      · cases hc
    · cases hc
  case extract x i =>
    split at hc
    · rename_i a ha
      cases hc
      simp only [aop] at h
      split at h
      · rename_i l h1
        obtain ⟨v, h5, rfl, rfl⟩ := valOf_inv h
        exact extract_ok hR hfr ho ha h1 h5
      · cases h
    · cases hc
  case call c =>
    split at hc
    · rename_i f hcal
      split at hc
      · rename_i a as ha has
        cases hc
        simp only [aop] at h
        split at h
        · rename_i g first cap args h1 h2
          cases h
          exact call_ok hfr ho hcal ha has h1 h2
        · cases h
      · cases hc
    · rename_i bi hcal
      obtain ⟨cal, args, ts⟩ := c
      simp only at hcal
      subst hcal
      exact cBuiltin_ok hR hfr ho hc h
    · cases hc
  all_goals cases hc
end
end Go.AE

/- AE, part 22: code: what the abstract steps come to, the model's code comes to. -/
set_option linter.unusedVariables false
set_option linter.unusedSimpArgs false
namespace Go.AE

structure TabOK (P : Program) (tab : Tab) : Prop where
  mixed : P.follows .mixedOrders = true
  code : ∀ f af, tab.code f = some af → ∃ fn c, P.funcs[f]? = some fn ∧ fn.body = some c ∧ cFun P fn = some af
  prim : ∀ f args aw v aw', tab.prim f args aw v aw' → (∃ fn, P.funcs[f]? = some fn ∧ fn.body.isSome = true ∧ fn.name ≠ "runtime.NumGoroutine") ∧
    ∀ (w : World) (m : Map) (base : Nat) (args' : Array Value), R aw w m base → VRs m args args'.toList →
      Calls P f args' w fun e w' => ∃ v' m', e = .returned v' ∧ VR m' v v' ∧ R aw' w' m' base ∧ Goes aw aw' w w' m m'
  ext : ∀ f args aw v, tab.ext f args aw v → ∀ (w : World) (m : Map) (base : Nat) (args' : Array Value), R aw w m base → VRs m args args'.toList → ∃ v', (callFunc f args').run P w = .ok (.value v') w ∧ VR m v v'

section
variable {P : Program} {tab : Tab}

def toExit : AExit → Exit
  | .normal => .normal
  | .exit id => .exit id
  | .ret => .ret
/-- what the end must be good for. -/
def Post (N : Nat) (a : Act) (aw : AW) (w : World) (m : Map) (base : Nat) (fr' : Fr) (aw' : AW) (K : Act → World → Prop) : Prop :=
  ∀ (a' : Act) (w' : World) (m' : Map), FR m' N fr' a'.tmps → a'.defers = a.defers → R aw' w' m' base → Goes aw aw' w w' m m' → K a' w'
def GoodX (P : Program) (c : ACode) (fr : Fr) (aw : AW) (e : AExit) (fr' : Fr) (aw' : AW) : Prop :=
  (∀ (code : Code) (N : Nat), cCode P N code = some c → ∀ (a : Act) (w : World) (m : Map) (base : Nat) (Q : Exit → Act → World → Prop), FR m N fr a.tmps → R aw w m base → Post N a aw w m base fr' aw' (Q (toExit e)) → code.wp P Q a w) ∧
  (∀ b, c = .loop b → ∀ (code : Code) (N : Nat), cCode P N code = some b → ∃ n, ∀ (a : Act) (w : World) (m : Map) (base : Nat) (Q : Exit → Act → World → Prop), FR m N fr a.tmps → R aw w m base → Post N a aw w m base fr' aw' (Q (toExit e)) → Code.rounds P code Q n a w)
/-- compiled operations at their places. -/
def At (P : Program) (N : Nat) (ops : Array Oper) : List AOper → List Nat → Prop
  | [], is => is = []
  | a :: l, is => ∃ i r o, is = i :: r ∧ ops[i]? = some o ∧ cOper P N ops o = some a ∧ At P N ops l r
def GoodO (P : Program) (l : List AOper) (fr : Fr) (aw : AW) (fr' : Fr) (aw' : AW) : Prop :=
  ∀ (ops : Array Oper) (N : Nat) (is : List Nat), At P N ops l is → ∀ (a : Act) (w : World) (m : Map) (base : Nat) (Q : Exit → Act → World → Prop), FR m N fr a.tmps → R aw w m base → Post N a aw w m base fr' aw' (Q .normal) → wpOps P ops Q is a w
def GoodC (P : Program) (f : Nat) (args : List V) (aw : AW) (v : V) (aw' : AW) : Prop :=
  (∃ fn, P.funcs[f]? = some fn ∧ fn.body.isSome = true ∧ fn.name ≠ "runtime.NumGoroutine") ∧ ∀ (w : World) (m : Map) (base : Nat) (args' : Array Value), R aw w m base → VRs m args args'.toList →
    Calls P f args' w fun e w' => ∃ v' m', e = .returned v' ∧ VR m' v v' ∧ R aw' w' m' base ∧ Goes aw aw' w w' m m'

theorem Post.trans {N : Nat} {a a1 : Act} {aw aw1 : AW} {w w1 : World} {m m1 : Map} {base : Nat} {fr' : Fr} {aw' : AW} {K : Act → World → Prop} (hR : R aw w m base) (h : Post N a aw w m base fr' aw' K) (hd : a1.defers = a.defers) (hg : Goes aw aw1 w w1 m m1) :
    Post N a1 aw1 w1 m1 base fr' aw' K := fun a' w' m' h1 h2 h3 h4 => h a' w' m' h1 (h2.trans hd) h3 (Goes.trans hR hg h4)
theorem Post.now {N : Nat} {a : Act} {aw : AW} {w : World} {m : Map} {base : Nat} {fr : Fr} {K : Act → World → Prop} (hR : R aw w m base) (hfr : FR m N fr a.tmps) (h : Post N a aw w m base fr aw K) : K a w :=
  h a w m hfr rfl hR (.refl _ _ _)

theorem cOpers_at {N : Nat} {ops : Array Oper} : ∀ {l : List Oper} {r : List AOper} {k : Nat}, cOpers P N ops l = some r → (∀ j, l[j]? = ops[k + j]?) → At P N ops r (List.range' k l.length)
  | [], r, k, h, _ => by cases h; rfl
  | o :: l, r, k, h, hk => by
    simp only [cOpers] at h
    split at h
    · rename_i a ha
      split at h
      · rename_i q hq
        cases h
        refine ⟨k, _, o, ?_, ?_, ha, cOpers_at (k := k + 1) hq (fun j => ?_)⟩
        · simp [List.range'_succ]
        · have := hk 0; simpa using this.symm
        · have := hk (j + 1)
          simp only [List.getElem?_cons_succ] at this
          rw [this]; congr 1; omega
      · cases h
    · cases h
theorem cOper_inv {N : Nat} {ops : Array Oper} {o : Oper} {a : AOper} (h : cOper P N ops o = some a) : cGuard ops o.guard = some a.guard ∧ cOpS P o.op = some a.op ∧ a.dst = o.dst ∧ dstOk N o.dst = true := by
  unfold cOper at h
  split at h
  · cases h; exact ⟨by assumption, by assumption, rfl, by assumption⟩
  · cases h
theorem aop_okS {o : Oper} {act : Act} {aw aw' : AW} {w : World} {m : Map} {base N : Nat} {fr : Fr} (hR : R aw w m base) (hfr : FR m N fr act.tmps) {ao : AOp} {r : Res} (hc : cOpS P o.op = some ao) (h : aop ao fr aw = some (r, aw')) : OpOK P o act aw aw' w m base r := by
  unfold cOpS at hc
  split at hc
  · rename_i a ha; cases hc; exact aop_ok hR hfr ha h
  · cases hc; cases h
theorem wanted_ok {m : Map} {N : Nat} {fr : Fr} {a : Act} (hfr : FR m N fr a.tmps) {ops : Array Oper} {o : Oper} {g : Option (Nat × Bool)} (hg : cGuard ops o.guard = some g) {b : Bool} (h : wanted fr g = some b) :
    Region.wanted o (yielded ops a.tmps) = b := by
  unfold cGuard at hg
  split at hg
  · rename_i hgd
    cases hg
    cases h
    simp [Region.wanted, hgd]
  · rename_i j want hgd
    split at hg
    · rename_i o' ho'
      split at hg
      · rename_i d hd
        cases hg
        simp only [wanted] at h
        split at h
        · rename_i x hx
          cases h
          obtain ⟨v', h1, h2⟩ := hfr.2 _ _ hx
          cases h2
          simp [Region.wanted, hgd, yielded, ho', hd, h1]
        · rename_i hx
          cases h
          obtain ⟨v', h1, h2⟩ := hfr.2 _ _ hx
          cases h2
          simp [Region.wanted, hgd, yielded, ho', hd, h1, undef]
        · cases h
      · cases hg
    · cases hg
theorem FR.put {m : Map} {N : Nat} {fr : Fr} {a : Act} (hfr : FR m N fr a.tmps) {d : Option Nat} (hd : dstOk N d = true) {v : V} {v' : Value} (hv : VR m v v') : FR m N (putO fr d v) (a.put d v').tmps := by
  cases d with
  | none => exact hfr
  | some d =>
    have hlt : d < N := Nat.blt_eq.mp hd
    refine ⟨by simp [Act.put, hfr.1], fun k u hk => ?_⟩
    rcases T.get_put hk with ⟨rfl, rfl⟩ | ⟨h1, h2⟩
    · exact ⟨v', by simp [Act.put, hfr.1, hlt], hv⟩
    · obtain ⟨u', q1, q2⟩ := hfr.2 _ _ h2
      exact ⟨u', by simp [Act.put, Array.getElem?_setIfInBounds_ne (Ne.symm h1), q1], q2⟩
theorem put_defers {a : Act} {d : Option Nat} {v : Value} : (a.put d v).defers = a.defers := by cases d <;> rfl
theorem callFunc_enter {f : Nat} {args : Array Value} {w : World} (h : ∃ fn, P.funcs[f]? = some fn ∧ fn.body.isSome = true ∧ fn.name ≠ "runtime.NumGoroutine") : (callFunc f args).run P w = .ok (.enter f args) w := by
  obtain ⟨fn, h1, h2, h3⟩ := h
  have h5 : fn.body ≠ none := by intro hb; rw [hb] at h2; cases h2
  simp [callFunc, h1, h3, h5]
theorem initFr_ok {m : Map} : ∀ {args : List V} {k : Nat} {d : Nat} {v : V}, (initFr args k).get d = some v → k ≤ d ∧ args[d - k]? = some v
  | [], k, d, v, h => by simp [initFr, T.get] at h
  | x :: l, k, d, v, h => by
    simp only [initFr] at h
    rcases T.get_put h with ⟨rfl, rfl⟩ | ⟨h1, h2⟩
    · exact ⟨Nat.le_refl _, by simp⟩
    · obtain ⟨q1, q2⟩ := initFr_ok (m := m) h2
      refine ⟨by omega, ?_⟩
      rw [show d - k = (d - (k + 1)) + 1 by omega, List.getElem?_cons_succ]
      exact q2
def resStep (tmps : Array Value) : ResultVar → Sem Value
  | .tmp t => pure (tmps.getD t undef)
  | .cell a t => do loadVar t (← asAddr (tmps.getD a undef))
theorem results_eq (fn : Func) (tmps : Array Value) : results fn tmps = (do
    let vs ← fn.results.mapM (resStep tmps)
    pure (if h : vs.size = 1 then vs[0] else .tuple vs)) := by
  unfold results
  congr 1
theorem res_ok {N : Nat} {m : Map} {fr : Fr} {a : Act} {aw : AW} {w : World} {base : Nat} (hR : R aw w m base) (hfr : FR m N fr a.tmps) : ∀ {rs : List ResultVar} {l : List ARes} {vs : List V}, cRes P rs = some l → resV fr aw l = some vs →
    ∃ ys : List Value, VRs m vs ys ∧ (rs.mapM (resStep a.tmps)).run P w = .ok ys w
  | [], l, vs, hc, h => by cases hc; cases h; exact ⟨[], rfl, by simp⟩
  | .tmp t :: rs, l, vs, hc, h => by
    simp only [cRes] at hc
    split at hc
    · rename_i r hr
      cases hc
      simp only [resV] at h
      split at h
      · rename_i v hv
        split at h
        · rename_i r' hr'
          cases h
          obtain ⟨ys, h1, h2⟩ := res_ok hR hfr hr hr'
          obtain ⟨v', q1, q2⟩ := hfr.2 _ _ hv
          refine ⟨v' :: ys, ⟨v', ys, rfl, q2, h1⟩, ?_⟩
          have : a.tmps.getD t undef = v' := by simp [q1]
          have hstep : (resStep a.tmps (.tmp t)).run P w = .ok v' w := by simp only [resStep, this, Sem.run_pure]
          simp only [List.mapM_cons, hstep, Sem.run_bind, Sem.run_pure, Result.andThen_ok, h2]
        · cases h
      · cases h
    · cases hc
  | .cell ad t :: rs, l, vs, hc, h => by
    simp only [cRes] at hc
    split at hc
    · rename_i n g r hn hg hr
      cases hc
      simp only [resV] at h
      split at h
      · rename_i b off hv
        split at h
        · rename_i v hload
          split at h
          · rename_i r' hr'
            cases h
            obtain ⟨ys, h1, h2⟩ := res_ok hR hfr hr hr'
            obtain ⟨p', q1, e, hm, q2⟩ := hfr.2 _ _ hv
            subst q2
            have hp : a.tmps.getD ad undef = .pointer (some ⟨e.c, e.s + off, none⟩) := by simp [q1]
            have hl : ∃ y, VR m v y ∧ (loadVar t ⟨e.c, e.s + off, none⟩).run P w = .ok y w := by
              cases g with
              | true =>
                simp only [] at hload
                split at hload
                · rename_i lv hlv
                  cases hload
                  obtain ⟨zs, k1, k2, k3⟩ := load_run (P := P) hR hm hlv
                  exact ⟨.agg zs.toArray, ⟨_, rfl, k2⟩, by simp [loadVar, run_isAgg hg, run_sizeOf hn, k3]⟩
                · cases hload
              | false =>
                simp only [] at hload
                split at hload
                · rename_i u hu
                  cases hload
                  obtain ⟨y, k1, k2⟩ := load1_run (P := P) hR hm hu
                  exact ⟨y, k1, by simp only [loadVar, Sem.run_bind, run_isAgg hg, Result.andThen_ok, Bool.false_eq_true, if_false, k2]⟩
                · cases hload
            obtain ⟨y, k1, k2⟩ := hl
            refine ⟨y :: ys, ⟨y, ys, rfl, k1, h1⟩, ?_⟩
            have hstep : (resStep a.tmps (.cell ad t)).run P w = .ok y w := by simp only [resStep, hp, asAddr, Sem.run_bind, Sem.run_pure, Result.andThen_ok, k2]
            simp only [List.mapM_cons, hstep, Sem.run_bind, Sem.run_pure, Result.andThen_ok, h2]
          · cases h
        · cases h
      · cases h
    · cases hc
theorem results_ok {N : Nat} {m : Map} {fr : Fr} {a : Act} {aw : AW} {w : World} {base : Nat} (hR : R aw w m base) (hfr : FR m N fr a.tmps) {fn : Func} {l : List ARes} {vs : List V} (hc : cRes P fn.results.toList = some l) (h : resV fr aw l = some vs) :
    ∃ v', (results fn a.tmps).run P w = .ok v' w ∧ VR m (resOne vs) v' := by
  obtain ⟨ys, h1, h2⟩ := res_ok (P := P) hR hfr hc h
  have hrun : (fn.results.mapM (resStep a.tmps)).run P w = .ok ys.toArray w := by
    rw [Array.mapM_eq_mapM_toList]
    simp only [Sem.run_map, h2, Result.andThen_ok]
  refine ⟨_, by rw [results_eq]; simp only [Sem.run_bind, hrun, Result.andThen_ok]; rfl, ?_⟩
  match vs, ys, h1 with
  | [], ys, h1 => cases h1; exact ⟨#[], rfl, rfl⟩
  | [v], ys, h1 =>
    obtain ⟨y, r, rfl, k1, k2⟩ := h1
    cases k2
    exact k1
  | v :: u :: vs, ys, h1 =>
    have hl := h1.length
    have hne : ¬ (ys.toArray.size = 1) := by simp at hl ⊢; omega
    rw [dif_neg hne]
    exact ⟨_, rfl, h1⟩
end
end Go.AE

/- AE, part 23: regions whose order is drawn. -/
set_option linter.unusedVariables false
set_option linter.unusedSimpArgs false
namespace Go.AE

theorem T.get_del {α : Type} {t : T α} : ∀ {k j : Nat} {u : α}, (t.del k).get j = some u → j ≠ k ∧ t.get j = some u := by
  induction t with
  | e => intro k j u h; simp [T.del, T.get] at h
  | n l v r ihl ihr =>
    intro k j u h
    cases k with
    | zero =>
      cases j with
      | zero => simp [T.del, T.get] at h
      | succ j => exact ⟨by omega, by simpa [T.del, T.get] using h⟩
    | succ k =>
      cases j with
      | zero =>
        refine ⟨by omega, ?_⟩
        simp only [T.del] at h
        split at h <;> simpa [T.get] using h
      | succ j =>
        simp only [T.del] at h
        split at h
        · rename_i hk
          simp only [T.get] at h ⊢
          split at h
          · rename_i hj
            obtain ⟨h1, h2⟩ := ihl h
            exact ⟨by omega, h2⟩
          · rename_i hj
            have hj' : ¬ j % 2 = 0 := hj
            exact ⟨by omega, h⟩
        · rename_i hk
          have hk' : ¬ k % 2 = 0 := hk
          simp only [T.get] at h ⊢
          split at h
          · rename_i hj
            exact ⟨by omega, h⟩
          · rename_i hj
            have hj' : ¬ j % 2 = 0 := hj
            obtain ⟨h1, h2⟩ := ihr h
            exact ⟨by omega, h2⟩
theorem hideL_get : ∀ {ds : List Nat} {fr : Fr} {d : Nat} {v : V}, (hideL fr ds).get d = some v → d ∉ ds ∧ fr.get d = some v
  | [], fr, d, v, h => ⟨by simp, h⟩
  | x :: ds, fr, d, v, h => by
    obtain ⟨h1, h2⟩ := hideL_get (ds := ds) h
    obtain ⟨h3, h4⟩ := T.get_del h2
    exact ⟨by simp [h1, h3], h4⟩
theorem memN_iff : ∀ {x : Nat} {l : List Nat}, memN x l = true ↔ x ∈ l
  | x, [] => by simp [memN]
  | x, y :: l => by
    simp only [memN]
    split
    · rename_i h; have := Nat.eq_of_beq_eq_true h; simp [this]
    · rename_i h
      have : x ≠ y := fun he => by rw [he, Nat.beq_refl] at h; cases h
      simp [memN_iff, this]

theorem valOf_same {x : Option V} {aw aw' : AW} {r : Res} (h : valOf x aw = some (r, aw')) : aw' = aw ∧ ∃ v, r = .val v := by
  obtain ⟨v, h1, rfl, rfl⟩ := valOf_inv h
  exact ⟨rfl, v, rfl⟩
theorem quiet_ok {o : AOp} {fr : Fr} {aw aw' : AW} {r : Res} (hq : o.quiet = true) (h : aop o fr aw = some (r, aw')) : aw' = aw ∧ ∃ v, r = .val v := by
  cases o <;> first | (simp only [AOp.quiet] at hq; cases hq; done) | skip
  all_goals simp only [aop] at h
  all_goals first
    | exact valOf_same h
    | (repeat' split at h) <;> first | (exact valOf_same h) | (cases h; done) | (cases h; exact ⟨rfl, _, rfl⟩)
mutual
theorem VL.beq_eq : ∀ {l l' : List V}, VL.beq l l' = true → l = l'
  | [], [], _ => rfl
  | [], _ :: _, h => by simp [VL.beq] at h
  | _ :: _, [], h => by simp [VL.beq] at h
  | x :: l, y :: l', h => by
    simp only [VL.beq, Bool.and_eq_true] at h
    rw [V.beq_eq h.1, VL.beq_eq h.2]
theorem V.beq_eq : ∀ {x y : V}, V.beq x y = true → x = y := by
  intro x y h
  match x with
  | .iface t v => cases y <;> first | (simp [V.beq] at h; done) | (simp only [V.beq, Bool.and_eq_true] at h; rw [Nat.eq_of_beq_eq_true h.1, V.beq_eq h.2])
  | .agg l => cases y <;> first | (simp [V.beq] at h; done) | (simp only [V.beq] at h; rw [VL.beq_eq h])
  | .tuple l => cases y <;> first | (simp [V.beq] at h; done) | (simp only [V.beq] at h; rw [VL.beq_eq h])
  | .bool a => cases y <;> first | (simp [V.beq] at h; done) | (rename_i b; revert h; cases a <;> cases b <;> simp [V.beq])
  | .int k n => cases y <;> first | (simp [V.beq] at h; done) | (simp only [V.beq, Bool.and_eq_true, decide_eq_true_eq] at h; rw [h.1, h.2])
  | .str l => cases y <;> first | (simp [V.beq] at h; done) | (simp only [V.beq] at h; rw [eqL_iff.1 h])
  | .ptr b o => cases y <;> first | (simp [V.beq] at h; done) | (simp only [V.beq, Bool.and_eq_true] at h; rw [Nat.eq_of_beq_eq_true h.1, Nat.eq_of_beq_eq_true h.2])
  | .slice b o l c => cases y <;> first | (simp [V.beq] at h; done) | (simp only [V.beq, Bool.and_eq_true, decide_eq_true_eq] at h; rw [Nat.eq_of_beq_eq_true h.1.1.1, Nat.eq_of_beq_eq_true h.1.1.2, Nat.eq_of_beq_eq_true h.1.2, h.2])
  | .map b => cases y <;> first | (simp [V.beq] at h; done) | (simp only [V.beq] at h; rw [Nat.eq_of_beq_eq_true h])
  | .func f a c => cases y <;> first | (simp [V.beq] at h; done) | (simp only [V.beq, Bool.and_eq_true, decide_eq_true_eq] at h; rw [h.1.1, VL.beq_eq h.1.2, VL.beq_eq h.2])
  | .undef | .nilptr | .nilslice | .nilmap | .nilfunc | .niliface => cases y <;> first | rfl | (simp [V.beq] at h; done)
end
end Go.AE

/- AE, part 24: regions whose order is drawn are good. -/
set_option linter.unusedVariables false
set_option linter.unusedSimpArgs false
namespace Go.AE

section
variable {P : Program} {tab : Tab}

def GoodOne (P : Program) (o : AOper) (fr : Fr) (aw : AW) (v : V) (aw1 : AW) : Prop :=
  ∀ (ops : Array Oper) (N i : Nat) (o' : Oper), ops[i]? = some o' → cOper P N ops o' = some o → ∀ (a : Act) (w : World) (m : Map) (base : Nat) (Q : Exit → Act → World → Prop) (K : Act → World → Prop), FR m N fr a.tmps → R aw w m base →
    (∀ (w' : World) (m' : Map) (v' : Value), VR m' v v' → R aw1 w' m' base → Goes aw aw1 w w' m m' → K (a.put o.dst v') w') → wpOp P ops Q i K a w
def OneG (P : Program) (o : AOper) (fr : Fr) (aw : AW) (v : V) (aw1 : AW) : Prop :=
  GoodOne P o fr aw v aw1 ∧ (o.op.quiet = true → aw1 = aw) ∧ (wanted fr o.guard = some false → v = .undef)

theorem goodOne_pass {o : AOper} {fr : Fr} {aw : AW} (hw : wanted fr o.guard = some false) : GoodOne P o fr aw .undef aw := by
  intro ops N i o' ho hc a w m base Q K hfr hR hK
  obtain ⟨g1, g2, g3, g4⟩ := cOper_inv hc
  have hwant := wanted_ok hfr g1 hw
  simp only [wpOp, ho, hwant, Bool.false_eq_true, if_false]
  rw [← g3]
  exact hK w m undef rfl hR (.refl _ _ _)
theorem goodOne_val {o : AOper} {fr : Fr} {aw aw1 : AW} {v : V} (hw : wanted fr o.guard = some true) (ha : aop o.op fr aw = some (.val v, aw1)) : GoodOne P o fr aw v aw1 := by
  intro ops N i o' ho hc a w m base Q K hfr hR hK
  obtain ⟨g1, g2, g3, g4⟩ := cOper_inv hc
  have hwant := wanted_ok hfr g1 hw
  obtain ⟨v', w', m', k1, k2, k3, k4⟩ := aop_okS (o := o') hR hfr g2 ha
  simp only [wpOp, ho, hwant, if_true]
  refine .inl ?_
  simp only [Oper.wp, k1, Oper.upon_value]
  rw [← g3]
  exact hK w' m' v' k2 k3 k4
theorem goodOne_skip {o : AOper} {fr : Fr} {aw aw1 : AW} (hw : wanted fr o.guard = some true) (ha : aop o.op fr aw = some (.skip, aw1)) : GoodOne P o fr aw .undef aw1 := by
  intro ops N i o' ho hc a w m base Q K hfr hR hK
  obtain ⟨g1, g2, g3, g4⟩ := cOper_inv hc
  have hwant := wanted_ok hfr g1 hw
  obtain ⟨w', m', k1, k3, k4⟩ := aop_okS (o := o') hR hfr g2 ha
  simp only [wpOp, ho, hwant, if_true]
  refine .inl ?_
  simp only [Oper.wp, k1, Oper.upon_skip]
  rw [← g3]
  exact hK w' m' undef rfl k3 k4
theorem goodOne_call {o : AOper} {fr : Fr} {aw aw0 aw1 : AW} {f : Nat} {args : List V} {v : V} (hw : wanted fr o.guard = some true) (ha : aop o.op fr aw = some (.call f args, aw0)) (hg : GoodC P f args aw0 v aw1) : GoodOne P o fr aw v aw1 := by
  intro ops N i o' ho hc a w m base Q K hfr hR hK
  obtain ⟨g1, g2, g3, g4⟩ := cOper_inv hc
  have hwant := wanted_ok hfr g1 hw
  obtain ⟨rfl, args', k1, k2⟩ := aop_okS (o := o') hR hfr g2 ha
  simp only [wpOp, ho, hwant, if_true]
  refine .inl ?_
  simp only [Oper.wp, k1, callFunc_enter hg.1, Oper.upon_enter]
  refine (hg.2 w m base args' hR k2).mono ?_
  rintro e w' ⟨v', m', rfl, q1, q2, q3⟩
  show K _ _
  rw [← g3]
  exact hK w' m' v' q1 q2 q3
theorem goodOne_ext (T : TabOK P tab) {o : AOper} {fr : Fr} {aw aw0 : AW} {f : Nat} {args : List V} {v : V} (hw : wanted fr o.guard = some true) (ha : aop o.op fr aw = some (.call f args, aw0)) (hx : tab.ext f args aw0 v) : GoodOne P o fr aw v aw0 := by
  intro ops N i o' ho hc a w m base Q K hfr hR hK
  obtain ⟨g1, g2, g3, g4⟩ := cOper_inv hc
  have hwant := wanted_ok hfr g1 hw
  obtain ⟨rfl, args', k1, k2⟩ := aop_okS (o := o') hR hfr g2 ha
  obtain ⟨v', q1, q2⟩ := T.ext f args _ v hx w m base args' hR k2
  simp only [wpOp, ho, hwant, if_true]
  refine .inl ?_
  simp only [Oper.wp, k1, q1, Oper.upon_value]
  rw [← g3]
  exact hK w m v' q2 hR (.refl _ _ _)

/-! what a pass through the operations, in the order in which they stand, tells. -/
def FrAt (l : List DOper) (st : List Stp) (fr : Fr) (i : Nat) (x : Nat) (v : V) : Prop :=
  (∃ (k : Nat) (dk : DOper) (sk : Stp), k < i ∧ l[k]? = some dk ∧ st[k]? = some sk ∧ dk.op.dst = some x ∧ sk.v = v) ∨ ((∀ (k : Nat) (dk : DOper), k < i → l[k]? = some dk → dk.op.dst ≠ some x) ∧ fr.get x = some v)
def EpAt (l : List DOper) (st : List Stp) (aw : AW) (i : Nat) (x : AW) : Prop :=
  ((∀ (e : Nat) (de : DOper), e < i → l[e]? = some de → de.eff = false) ∧ x = aw) ∨
  ∃ (e : Nat) (de : DOper) (se : Stp), e < i ∧ l[e]? = some de ∧ de.eff = true ∧ st[e]? = some se ∧ x = se.aw1 ∧ ∀ (e' : Nat) (de' : DOper), e < e' → e' < i → l[e']? = some de' → de'.eff = false
structure PassG (P : Program) (l : List DOper) (fr : Fr) (aw : AW) (st : List Stp) (fr' : Fr) (aw' : AW) : Prop where
  len : st.length = l.length
  one : ∀ (i : Nat) (d : DOper) (s : Stp), l[i]? = some d → st[i]? = some s → OneG P d.op s.fe s.aw0 s.v s.aw1
  fe : ∀ (i : Nat) (d : DOper) (s : Stp) (x : Nat) (v : V), l[i]? = some d → st[i]? = some s → s.fe.get x = some v → x ∉ d.hide ∧ FrAt l st fr i x v
  ep : ∀ (i : Nat) (d : DOper) (s : Stp), l[i]? = some d → st[i]? = some s → EpAt l st aw i s.aw0
  fin : ∀ (x : Nat) (v : V), fr'.get x = some v → FrAt l st fr l.length x v
  epFin : EpAt l st aw l.length aw'

theorem FrAt.cons {d : DOper} {s : Stp} {l : List DOper} {st : List Stp} {fr : Fr} {i x : Nat} {v : V} (h : FrAt l st (putO fr d.op.dst s.v) i x v) : FrAt (d :: l) (s :: st) fr (i + 1) x v := by
  rcases h with ⟨k, dk, sk, h1, h2, h3, h4, h5⟩ | ⟨h1, h2⟩
  · exact .inl ⟨k + 1, dk, sk, by omega, by simpa using h2, by simpa using h3, h4, h5⟩
  · have tail : ∀ k dk, k < i → l[k]? = some dk → dk.op.dst ≠ some x := h1
    cases hd : d.op.dst with
    | none =>
      rw [hd] at h2
      refine .inr ⟨fun k dk hk hl => ?_, h2⟩
      cases k with
      | zero => simp at hl; subst hl; rw [hd]; simp
      | succ k => exact tail k dk (by omega) (by simpa using hl)
    | some y =>
      rw [hd] at h2
      rcases T.get_put h2 with ⟨rfl, rfl⟩ | ⟨q1, q2⟩
      · exact .inl ⟨0, d, s, by omega, rfl, rfl, hd, rfl⟩
      · refine .inr ⟨fun k dk hk hl => ?_, q2⟩
        cases k with
        | zero => simp at hl; subst hl; rw [hd]; simp; omega
        | succ k => exact tail k dk (by omega) (by simpa using hl)
theorem EpAt.cons {d : DOper} {s : Stp} {l : List DOper} {st : List Stp} {aw : AW} {i : Nat} {x : AW} (hq : d.eff = false → s.aw1 = aw) (h : EpAt l st s.aw1 i x) : EpAt (d :: l) (s :: st) aw (i + 1) x := by
  rcases h with ⟨h1, rfl⟩ | ⟨e, de, se, h1, h2, h3, h4, h5, h6⟩
  · cases hd : d.eff with
    | false =>
      refine .inl ⟨fun e de he hl => ?_, hq hd⟩
      cases e with
      | zero => simp at hl; subst hl; exact hd
      | succ e => exact h1 e de (by omega) (by simpa using hl)
    | true =>
      refine .inr ⟨0, d, s, by omega, rfl, hd, rfl, rfl, fun e' de' h2 h3 hl => ?_⟩
      cases e' with
      | zero => omega
      | succ e' => exact h1 e' de' (by omega) (by simpa using hl)
  · refine .inr ⟨e + 1, de, se, by omega, by simpa using h2, h3, by simpa using h4, h5, fun e' de' h7 h8 hl => ?_⟩
    cases e' with
    | zero => omega
    | succ e' => exact h6 e' de' (by omega) (by omega) (by simpa using hl)
theorem PassG.nil {fr : Fr} {aw : AW} : PassG P [] fr aw [] fr aw where
  len := rfl
  one i d s h := by simp at h
  fe i d s x v h := by simp at h
  ep i d s h := by simp at h
  fin x v h := .inr ⟨fun k dk hk => by simp at hk, h⟩
  epFin := .inl ⟨fun e de he => by simp at he, rfl⟩
theorem PassG.cons {d : DOper} {l : List DOper} {fr : Fr} {aw : AW} {v : V} {aw1 : AW} {st : List Stp} {fr' : Fr} {aw' : AW} (hq : d.eff = true ∨ d.op.op.quiet = true) (h1 : OneG P d.op (hideL fr d.hide) aw v aw1) (h : PassG P l (putO fr d.op.dst v) aw1 st fr' aw') :
    PassG P (d :: l) fr aw (⟨hideL fr d.hide, v, aw, aw1⟩ :: st) fr' aw' := by
  have hq' : d.eff = false → aw1 = aw := fun he => by
    rcases hq with hq | hq
    · rw [hq] at he; cases he
    · exact h1.2.1 hq
  exact {
    len := by simp [h.len]
    one := fun i d' s hl hs => by
      cases i with
      | zero => simp at hl hs; subst hl hs; exact h1
      | succ i => exact h.one i d' s (by simpa using hl) (by simpa using hs)
    fe := fun i d' s x u hl hs hg => by
      cases i with
      | zero =>
        simp at hl hs; subst hl hs
        obtain ⟨q1, q2⟩ := hideL_get hg
        exact ⟨q1, .inr ⟨fun k dk hk => by omega, q2⟩⟩
      | succ i =>
        obtain ⟨q1, q2⟩ := h.fe i d' s x u (by simpa using hl) (by simpa using hs) hg
        exact ⟨q1, q2.cons (s := ⟨hideL fr d.hide, v, aw, aw1⟩)⟩
    ep := fun i d' s hl hs => by
      cases i with
      | zero => simp at hl hs; subst hl hs; exact .inl ⟨fun e de he => by omega, rfl⟩
      | succ i => exact (h.ep i d' s (by simpa using hl) (by simpa using hs)).cons (s := ⟨hideL fr d.hide, v, aw, aw1⟩) hq'
    fin := fun x u hg => (h.fin x u hg).cons (s := ⟨hideL fr d.hide, v, aw, aw1⟩)
    epFin := h.epFin.cons (s := ⟨hideL fr d.hide, v, aw, aw1⟩) hq' }
end
end Go.AE

/- AE, part 25: regions whose order is drawn: every order comes to the same. -/
set_option linter.unusedVariables false
set_option linter.unusedSimpArgs false
namespace Go.AE

/-! the tests, told as propositions -/
structure DFacts (l : List DOper) (af : List (List Nat)) : Prop where
  after : ∀ (j : Nat) (y : DOper), l[j]? = some y → ∃ a, af[j]? = some a ∧ (∀ x, x ∈ a → x < j) ∧ (∀ x, x ∈ y.anc → x < j ∧ (x ∈ a ∨ ∃ (k : Nat) (z : DOper), k ∈ a ∧ l[k]? = some z ∧ x ∈ z.anc)) ∧ (y.eff = true ∨ y.op.op.quiet = true)
  eff : ∀ (i j : Nat) (x y : DOper), i < j → l[i]? = some x → l[j]? = some y → x.eff = true → y.eff = true → i ∈ y.anc
  hide : ∀ (i j : Nat) (x y : DOper) (d : Nat), l[i]? = some x → l[j]? = some y → i ≠ j → i ∉ y.anc → j ∉ x.anc → x.op.dst = some d → d ∈ y.hide
  dst : ∀ (i j : Nat) (x y : DOper) (d : Nat), l[i]? = some x → l[j]? = some y → i ≠ j → x.op.dst = some d → y.op.dst ≠ some d
theorem lt_of_get {α : Type} {l : List α} {i : Nat} {x : α} (h : l[i]? = some x) : i < l.length := (List.getElem?_eq_some_iff.1 h).1
theorem dFacts {l : List DOper} {af : List (List Nat)} (h : dOK l af = true) : DFacts l af := by
  have H : ∀ j y, l[j]? = some y → ∃ a, af[j]? = some a ∧ dOne l j y a = true ∧ ∀ i x, i < j → l[i]? = some x → dPair i x j y = true := by
    intro j y hj
    simp only [dOK, List.all_eq_true, List.mem_range] at h
    have := h j (lt_of_get hj)
    simp only [hj] at this
    split at this
    · rename_i y' a hy' ha
      cases hy'
      simp only [Bool.and_eq_true, List.all_eq_true, List.mem_range] at this
      refine ⟨a, ha, this.1, fun i x hi hx => ?_⟩
      have := this.2 i hi
      simpa only [hx] using this
    · cases this
  have one : ∀ (j : Nat) (y : DOper), l[j]? = some y → ∃ a, af[j]? = some a ∧ (∀ x, x ∈ a → x < j) ∧ (∀ x, x ∈ y.anc → x < j ∧ (x ∈ a ∨ ∃ (k : Nat) (z : DOper), k ∈ a ∧ l[k]? = some z ∧ x ∈ z.anc)) ∧ (y.eff = true ∨ y.op.op.quiet = true) := by
    intro j y hj
    obtain ⟨a, h1, h2, _⟩ := H j y hj
    simp only [dOne, Bool.and_eq_true, List.all_eq_true, Bool.or_eq_true, memN_iff, List.any_eq_true] at h2
    refine ⟨a, h1, fun x hx => Nat.blt_eq.mp (h2.1.1 x hx), fun x hx => ?_, h2.2⟩
    obtain ⟨q1, q2⟩ := h2.1.2 x hx
    refine ⟨Nat.blt_eq.mp q1, q2.imp id ?_⟩
    rintro ⟨k, hk, q3⟩
    split at q3
    · rename_i z hz; exact ⟨k, z, hk, hz, memN_iff.1 q3⟩
    · cases q3
  have pair : ∀ (i j : Nat) (x y : DOper), i < j → l[i]? = some x → l[j]? = some y →
      (i ∈ y.anc ∨ (¬ (x.eff = true ∧ y.eff = true) ∧ (∀ d, y.op.dst = some d → d ∈ x.hide) ∧ (∀ d, x.op.dst = some d → d ∈ y.hide))) ∧ (∀ d, x.op.dst = some d → y.op.dst ≠ some d) := by
    intro i j x y hij hi hj
    obtain ⟨a, _, _, h3⟩ := H j y hj
    have h4 := h3 i x hij hi
    simp only [dPair, Bool.and_eq_true] at h4
    refine ⟨?_, fun d hd hd' => ?_⟩
    · have h5 := h4.1
      split at h5
      · rename_i hm; exact .inl (memN_iff.1 hm)
      · refine .inr ?_
        simp only [Bool.and_eq_true, Bool.not_eq_true', Bool.and_eq_false_iff] at h5
        refine ⟨fun hc => ?_, fun d hd => ?_, fun d hd => ?_⟩
        · rcases h5.1.1 with q | q
          · rw [hc.1] at q; cases q
          · rw [hc.2] at q; cases q
        · have := h5.1.2; rw [hd] at this; exact memN_iff.1 this
        · have := h5.2; rw [hd] at this; exact memN_iff.1 this
    · have h5 := h4.2
      rw [hd, hd'] at h5
      simp at h5
  refine ⟨one, fun i j x y hij hi hj hx hy => ?_, fun i j x y d hi hj hne h1 h2 hd => ?_, fun i j x y d hi hj hne hd hd' => ?_⟩
  · rcases (pair i j x y hij hi hj).1 with h | h
    · exact h
    · exact absurd ⟨hx, hy⟩ h.1
  · rcases Nat.lt_or_gt_of_ne hne with hlt | hlt
    · rcases (pair i j x y hlt hi hj).1 with h | h
      · exact absurd h h1
      · exact h.2.2 d hd
    · rcases (pair j i y x hlt hj hi).1 with h | h
      · exact absurd h h2
      · exact h.2.1 d hd
  · rcases Nat.lt_or_gt_of_ne hne with hlt | hlt
    · exact (pair i j x y hlt hi hj).2 d hd hd'
    · exact (pair j i y x hlt hj hi).2 d hd' hd

theorem drawnOK_spec {l : List DOper} {st : List Stp} (h : drawnOK l st = true) {i e : Nat} {d de : DOper} {s se : Stp} (hl : l[i]? = some d) (hs : st[i]? = some s) (hle : l[e]? = some de) (hse : st[e]? = some se)
    (hd : d.eff = false) (hde : de.eff = true) (h1 : i ∉ de.anc) (h2 : e ∉ d.anc) : againOK d s se.aw0 = true ∧ againOK d s se.aw1 = true := by
  simp only [drawnOK, List.all_eq_true, List.mem_range] at h
  have := h i (lt_of_get hl)
  simp only [hl, hs, hd, Bool.false_or, List.all_eq_true, List.mem_range] at this
  have := this e (lt_of_get hle)
  simp only [hle, hse, hde, Bool.not_true, Bool.false_or, Bool.or_eq_true, Bool.and_eq_true] at this
  rcases this with (q | q) | q
  · exact absurd (memN_iff.1 q) h1
  · exact absurd (memN_iff.1 q) h2
  · exact q

/-- how many are not listed. -/
def unl : List Bool → Nat
  | [] => 0
  | true :: l => unl l
  | false :: l => unl l + 1
theorem unl_set : ∀ {l : List Bool} {i : Nat}, l[i]? = some false → unl (l.set i true) + 1 = unl l
  | [], i, h => by simp at h
  | b :: l, 0, h => by simp at h; subst h; rfl
  | b :: l, i + 1, h => by
    have := unl_set (l := l) (i := i) (by simpa using h)
    cases b <;> simp only [List.set_cons_succ, unl] <;> omega
theorem unl_zero : ∀ {l : List Bool} {i : Nat}, unl l = 0 → l[i]? ≠ some false
  | [], i, h => by simp
  | true :: l, 0, h => by simp
  | false :: l, i, h => by simp [unl] at h
  | true :: l, i + 1, h => by simpa using unl_zero (l := l) (i := i) h
theorem unl_replicate : ∀ (n : Nat), unl (List.replicate n false) = n
  | 0 => rfl
  | n + 1 => by simp [List.replicate_succ, unl, unl_replicate n]

theorem least {p : Nat → Prop} (h : ∃ n, p n) : ∃ n, p n ∧ ∀ k, k < n → ¬ p k := by
  obtain ⟨n, hn⟩ := h
  induction n using Nat.strongRecOn with
  | ind n ih =>
    by_cases hc : ∃ k, k < n ∧ p k
    · obtain ⟨k, h1, h2⟩ := hc; exact ih k h1 h2
    · exact ⟨n, hn, fun k hk hp => hc ⟨k, hk, hp⟩⟩

section
variable {P : Program} {tab : Tab}

/-- what is listed. -/
def LD (D : Array Bool) (i : Nat) : Prop := D.getD i false = true
theorem LD_set {D : Array Bool} {i j : Nat} (hi : i < D.size) : LD (D.setIfInBounds i true) j ↔ LD D j ∨ j = i := by
  unfold LD
  by_cases hij : j = i
  · subst hij; simp [hi]
  · simp [Array.getElem?_setIfInBounds_ne (Ne.symm hij), hij]
def Slot (l : List DOper) (st : List Stp) (fr : Fr) (D : Array Bool) (y : Nat) (v : V) : Prop :=
  (∃ (k : Nat) (dk : DOper) (sk : Stp), LD D k ∧ l[k]? = some dk ∧ st[k]? = some sk ∧ dk.op.dst = some y ∧ sk.v = v) ∨ ((∀ (k : Nat) (dk : DOper), LD D k → l[k]? = some dk → dk.op.dst ≠ some y) ∧ fr.get y = some v)
def Ep (l : List DOper) (st : List Stp) (aw : AW) (D : Array Bool) (x : AW) : Prop :=
  ((∀ (e : Nat) (de : DOper), LD D e → l[e]? = some de → de.eff = false) ∧ x = aw) ∨
  ∃ (e : Nat) (de : DOper) (se : Stp), LD D e ∧ l[e]? = some de ∧ de.eff = true ∧ st[e]? = some se ∧ x = se.aw1 ∧ ∀ (e' : Nat) (de' : DOper), LD D e' → l[e']? = some de' → de'.eff = true → e' ≤ e
structure St (l : List DOper) (st : List Stp) (fr : Fr) (aw : AW) (N : Nat) (a0 : Act) (w0 : World) (m0 : Map) (base : Nat) (D : Array Bool) (a : Act) (w : World) (m : Map) (x : AW) : Prop where
  R : R x w m base
  goes : Goes aw x w0 w m0 m
  defers : a.defers = a0.defers
  size : a.tmps.size = N
  slot : ∀ (y : Nat) (v : V), Slot l st fr D y v → ∃ v', a.tmps[y]? = some v' ∧ VR m v v'
  ep : Ep l st aw D x
def Closed (l : List DOper) (D : Array Bool) : Prop := ∀ (i : Nat) (d : DOper) (x : Nat), LD D i → l[i]? = some d → x ∈ d.anc → LD D x

theorem step_ok {l : List DOper} {st : List Stp} {fr fr' : Fr} {aw aw' : AW} {ops : Array Oper} {N : Nat} (hG : PassG P l fr aw st fr' aw') (hF : DFacts l (aftersOf ops)) (hA : drawnOK l st = true)
    (hlen : l.length = ops.size) (hop : ∀ (i : Nat) (d : DOper), l[i]? = some d → ∃ o', ops[i]? = some o' ∧ cOper P N ops o' = some d.op)
    {a0 : Act} {w0 : World} {m0 : Map} {base : Nat} (hR0 : R aw w0 m0 base) {D : Array Bool} (hD : D.size = ops.size) (hcl : Closed l D) {i : Nat} (hi : i ∈ Region.ready .any ops D)
    {a : Act} {w : World} {m : Map} {x : AW} (hS : St l st fr aw N a0 w0 m0 base D a w m x) (Q : Exit → Act → World → Prop) (K : Act → World → Prop)
    (hK : Closed l (D.setIfInBounds i true) → ∀ a' w' m' x', St l st fr aw N a0 w0 m0 base (D.setIfInBounds i true) a' w' m' x' → K a' w') : wpOp P ops Q i K a w := by
  obtain ⟨hun, o', ho', haf⟩ := mem_ready.1 hi
  have hilt : i < ops.size := (Array.getElem?_eq_some_iff.1 ho').1
  have hnot : ¬ LD D i := fun hl => by
    unfold LD at hl
    have hiD : i < D.size := by omega
    simp [hiD] at hun hl
    rw [hun] at hl; cases hl
  obtain ⟨d, hd⟩ : ∃ d, l[i]? = some d := ⟨l[i]'(by omega), List.getElem?_eq_getElem (by omega)⟩
  obtain ⟨s, hs⟩ : ∃ s, st[i]? = some s := ⟨st[i]'(by rw [hG.len]; omega), List.getElem?_eq_getElem (by rw [hG.len]; omega)⟩
  obtain ⟨o2, ho2, hco⟩ := hop i d hd
  rw [ho'] at ho2; cases ho2
  obtain ⟨af, haf1, haf2, hanc, hquiet⟩ := hF.after i d hd
  have hafin : ∀ k, k ∈ af → LD D k := by
    intro k hk
    simp only [aftersOf, List.getElem?_map, Array.getElem?_toList, ho', Option.map_some, Option.some.injEq] at haf1
    subst haf1
    simp only [List.mem_map, List.mem_filter] at hk
    obtain ⟨e, ⟨he, hb⟩, rfl⟩ := hk
    exact haf e (by simpa using he) hb
  have hancD : ∀ k, k ∈ d.anc → LD D k := by
    intro k hk
    rcases (hanc k hk).2 with h | ⟨j, z, h1, h2, h3⟩
    · exact hafin k h
    · exact hcl j z k (hafin j h1) h2 h3
  have hdesc : ∀ k dk, LD D k → l[k]? = some dk → i ∉ dk.anc := fun k dk hk hl hm => hnot (hcl k dk i hk hl hm)
  have hiD : i < D.size := by omega
  have hcl' : Closed l (D.setIfInBounds i true) := by
    intro j dj y hj hl hy
    rw [LD_set hiD] at hj ⊢
    rcases hj with hj | rfl
    · exact .inl (hcl j dj y hj hl hy)
    · rw [hd] at hl; cases hl
      exact .inl (hancD y hy)
  have hslot : ∀ y v, s.fe.get y = some v → Slot l st fr D y v := by
    intro y v hy
    obtain ⟨h1, h2⟩ := hG.fe i d s y v hd hs hy
    rcases h2 with ⟨k, dk, sk, hk, h3, h4, h5, h6⟩ | ⟨h3, h4⟩
    · refine .inl ⟨k, dk, sk, ?_, h3, h4, h5, h6⟩
      by_cases hm : k ∈ d.anc
      · exact hancD k hm
      · refine absurd (hF.hide k i dk d y h3 hd (by omega) hm (fun hx => ?_) h5) h1
        obtain ⟨_, _, _, q, _⟩ := hF.after k dk h3
        have := (q i hx).1
        omega
    · refine .inr ⟨fun k dk hk hl hdst => ?_, h4⟩
      have hki : k ≠ i := fun h => hnot (h ▸ hk)
      rcases Nat.lt_or_gt_of_ne hki with hlt | hgt
      · exact h3 k dk hlt hl hdst
      · refine absurd (hF.hide k i dk d y hl hd hki (fun hx => ?_) (hdesc k dk hk hl) hdst) h1
        have := (hanc k hx).1
        omega
  have hfr : FR m N s.fe a.tmps := ⟨hS.size, fun y v hy => hS.slot y v (hslot y v hy)⟩
  -- what the operation leaves
  have after : ∀ (x' : AW), (d.eff = true → x' = s.aw1 ∧ x = s.aw0) → (d.eff = false → x' = x) → ∀ (w' : World) (m' : Map) (v' : Value), VR m' s.v v' → R x' w' m' base → Goes x x' w w' m m' → K (a.put d.op.dst v') w' := by
    intro x' he hne w' m' v' hv hR' hg
    refine hK hcl' _ w' m' x' ⟨hR', Goes.trans hR0 hS.goes hg, put_defers.trans hS.defers, ?_, ?_, ?_⟩
    · cases d.op.dst <;> simp [Act.put, hS.size]
    · intro y v hsl
      have old : ∀ v, Slot l st fr D y v → d.op.dst ≠ some y → ∃ v2, (a.put d.op.dst v').tmps[y]? = some v2 ∧ VR m' v v2 := by
        intro v hsl hne
        obtain ⟨v2, q1, q2⟩ := hS.slot y v hsl
        refine ⟨v2, ?_, q2.mono hg.le⟩
        cases hdst : d.op.dst with
        | none => exact q1
        | some t =>
          have : t ≠ y := fun h => hne (by rw [hdst, h])
          simp [Act.put, Array.getElem?_setIfInBounds_ne this, q1]
      rcases hsl with ⟨k, dk, sk, hk, h3, h4, h5, h6⟩ | ⟨h3, h4⟩
      · rw [LD_set hiD] at hk
        by_cases hki : k = i
        · subst hki
          rw [hd] at h3; cases h3
          rw [hs] at h4; cases h4
          refine ⟨v', ?_, h6 ▸ hv⟩
          have hlt : y < N := by
            obtain ⟨_, _, q3, q4⟩ := cOper_inv hco
            rw [← q3, h5] at q4
            exact Nat.blt_eq.mp q4
          rw [h5]
          simp [Act.put, hS.size, hlt]
        · refine old v (.inl ⟨k, dk, sk, hk.resolve_right hki, h3, h4, h5, h6⟩) (hF.dst k i dk d y h3 hd hki h5)
      · refine old v (.inr ⟨fun k dk hk hl => h3 k dk ((LD_set hiD).2 (.inl hk)) hl, h4⟩) (h3 i d ((LD_set hiD).2 (.inr rfl)) hd)
    · cases heff : d.eff with
      | false =>
        rw [hne heff]
        rcases hS.ep with ⟨h1, h2⟩ | ⟨e, de, se, h1, h2, h3, h4, h5, h6⟩
        · refine .inl ⟨fun e de hle hl => ?_, h2⟩
          rcases (LD_set hiD).1 hle with h | rfl
          · exact h1 e de h hl
          · rw [hd] at hl; cases hl; exact heff
        · refine .inr ⟨e, de, se, (LD_set hiD).2 (.inl h1), h2, h3, h4, h5, fun e' de' hle hl hef => ?_⟩
          rcases (LD_set hiD).1 hle with h | rfl
          · exact h6 e' de' h hl hef
          · rw [hd] at hl; cases hl; rw [heff] at hef; cases hef
      | true =>
        refine .inr ⟨i, d, s, (LD_set hiD).2 (.inr rfl), hd, heff, hs, (he heff).1, fun e' de' hle hl hef => ?_⟩
        rcases (LD_set hiD).1 hle with h | rfl
        · rcases Nat.lt_or_ge i e' with hlt | hge
          · exact absurd (hF.eff i e' d de' hlt hd hl heff hef) (hdesc e' de' h hl)
          · exact hge
        · exact Nat.le_refl _
  -- which moment it is
  have epi := hG.ep i d s hd hs
  have noLater : ∀ e de, LD D e → l[e]? = some de → de.eff = true → d.eff = true → e < i := by
    intro e de he hl hef hdf
    rcases Nat.lt_or_ge e i with h | h
    · exact h
    · have hne : i ≠ e := fun h' => hnot (h' ▸ he)
      exact absurd (hF.eff i e d de (by omega) hd hl hdf hef) (hdesc e de he hl)
  cases heff : d.eff with
  | true =>
    have hx : x = s.aw0 := by
      rcases epi with ⟨p1, p2⟩ | ⟨e, de, se, p1, p2, p3, p4, p5, p6⟩
      · rcases hS.ep with ⟨h1, h2⟩ | ⟨e, de, se, h1, h2, h3, h4, h5, h6⟩
        · rw [h2, p2]
        · have := p1 e de (noLater e de h1 h2 h3 heff) h2
          rw [h3] at this; cases this
      · have heD : LD D e := hancD e (hF.eff e i de d p1 p2 hd p3 heff)
        rcases hS.ep with ⟨h1, h2⟩ | ⟨e', de', se', h1, h2, h3, h4, h5, h6⟩
        · have := h1 e de heD p2
          rw [p3] at this; cases this
        · have hle := h6 e de heD p2 p3
          have hlt := noLater e' de' h1 h2 h3 heff
          have : e' = e := by
            rcases Nat.lt_or_ge e e' with h | h
            · have := p6 e' de' h hlt h2; rw [h3] at this; cases this
            · omega
          subst this
          rw [p4] at h4; cases h4
          rw [h5, p5]
    subst hx
    exact (hG.one i d s hd hs).1 ops N i o' ho' hco a w m base Q K hfr hS.R (after s.aw1 (fun _ => ⟨rfl, rfl⟩) (fun h => by rw [heff] at h; cases h))
  | false =>
    have hq : d.op.op.quiet = true := hquiet.resolve_left (by rw [heff]; simp)
    obtain ⟨g1, g2, g3⟩ := hG.one i d s hd hs
    have fin := after x (fun h => by rw [heff] at h; cases h) (fun _ => rfl)
    have again : againOK d s x = true → wpOp P ops Q i K a w := by
      intro hag
      unfold againOK at hag
      split at hag
      · rename_i hw
        have hu := g3 hw
        rw [hu] at fin
        exact goodOne_pass hw ops N i o' ho' hco a w m base Q K hfr hS.R fin
      · rename_i hw
        split at hag
        · rename_i v aw2 hv
          have := V.beq_eq hag
          subst this
          obtain ⟨q1, _⟩ := quiet_ok hq hv
          subst q1
          exact goodOne_val hw hv ops N i o' ho' hco a w m base Q K hfr hS.R fin
        · cases hag
      · cases hag
    have same : x = s.aw0 → wpOp P ops Q i K a w := by
      intro hx
      subst hx
      have := g2 hq
      rw [this] at g1
      exact g1 ops N i o' ho' hco a w m base Q K hfr hS.R fin
    rcases hS.ep with ⟨h1, h2⟩ | ⟨e', de', se', h1, h2, h3, h4, h5, h6⟩
    · -- no effect yet
      by_cases hno : ∀ (e : Nat) (de : DOper), e < i → l[e]? = some de → de.eff = false
      · refine same ?_
        rcases epi with ⟨p1, p2⟩ | ⟨e, de, se, p1, p2, p3, p4, p5, p6⟩
        · rw [h2, p2]
        · have := hno e de p1 p2; rw [p3] at this; cases this
      · -- the first effect
        have hex : ∃ e, e < i ∧ ∃ de, l[e]? = some de ∧ de.eff = true := by
          refine Classical.byContradiction fun hc => hno fun e de he hl => ?_
          cases hb : de.eff with
          | false => rfl
          | true => exact absurd ⟨e, he, de, hl, hb⟩ hc
        obtain ⟨e, ⟨hei, de, hle, hef⟩, hmin⟩ := least hex
        obtain ⟨se, hse⟩ : ∃ s, st[e]? = some s := ⟨st[e]'(by rw [hG.len]; omega), List.getElem?_eq_getElem (by rw [hG.len]; omega)⟩
        have h0 : se.aw0 = aw := by
          rcases hG.ep e de se hle hse with ⟨p1, p2⟩ | ⟨e2, de2, se2, p1, p2, p3, p4, p5, p6⟩
          · exact p2
          · exact absurd ⟨by omega, de2, p2, p3⟩ (hmin e2 p1)
        have hnD : ¬ LD D e := fun hl => by have := h1 e de hl hle; rw [hef] at this; cases this
        have hk := drawnOK_spec hA hd hs hle hse heff hef (fun hx => by
          obtain ⟨_, _, _, q, _⟩ := hF.after e de hle
          have := (q i hx).1
          omega) (fun hx => hnD (hancD e hx))
        rw [h0, ← h2] at hk
        exact again hk.1
    · by_cases hanc' : e' ∈ d.anc
      · have hlt := (hanc e' hanc').1
        by_cases hno : ∀ (e : Nat) (de : DOper), e' < e → e < i → l[e]? = some de → de.eff = false
        · refine same ?_
          rcases epi with ⟨p1, p2⟩ | ⟨e, de, se, p1, p2, p3, p4, p5, p6⟩
          · have := p1 e' de' hlt h2; rw [h3] at this; cases this
          · have : e = e' := by
              rcases Nat.lt_trichotomy e e' with h | h | h
              · have := p6 e' de' h hlt h2; rw [h3] at this; cases this
              · exact h
              · have := hno e de h p1 p2; rw [p3] at this; cases this
            subst this
            rw [p4] at h4; cases h4
            rw [h5, p5]
        · have hex : ∃ e, (e' < e ∧ e < i) ∧ ∃ de, l[e]? = some de ∧ de.eff = true := by
            refine Classical.byContradiction fun hc => hno fun e de he he2 hl => ?_
            cases hb : de.eff with
            | false => rfl
            | true => exact absurd ⟨e, ⟨he, he2⟩, de, hl, hb⟩ hc
          obtain ⟨e, ⟨⟨hei, hei2⟩, de, hle, hef⟩, hmin⟩ := least hex
          obtain ⟨se, hse⟩ : ∃ s, st[e]? = some s := ⟨st[e]'(by rw [hG.len]; omega), List.getElem?_eq_getElem (by rw [hG.len]; omega)⟩
          have h0 : se.aw0 = x := by
            rcases hG.ep e de se hle hse with ⟨p1, p2⟩ | ⟨e2, de2, se2, p1, p2, p3, p4, p5, p6⟩
            · have := p1 e' de' hei h2; rw [h3] at this; cases this
            · have : e2 = e' := by
                rcases Nat.lt_trichotomy e2 e' with h | h | h
                · have := p6 e' de' h hei h2; rw [h3] at this; cases this
                · exact h
                · exact absurd ⟨⟨h, by omega⟩, de2, p2, p3⟩ (hmin e2 p1)
              subst this
              rw [p4] at h4; cases h4
              rw [h5, p5]
          have hnD : ¬ LD D e := fun hl => by have := h6 e de hl hle hef; omega
          have hk := drawnOK_spec hA hd hs hle hse heff hef (fun hx => by
            obtain ⟨_, _, _, q, _⟩ := hF.after e de hle
            have := (q i hx).1
            omega) (fun hx => hnD (hancD e hx))
          rw [h0] at hk
          exact again hk.1
      · have hk := drawnOK_spec hA hd hs h2 h4 heff h3 (hdesc e' de' h1 h2) hanc'
        rw [← h5] at hk
        exact again hk.2

/-- every order. -/
theorem any_ok {l : List DOper} {st : List Stp} {fr fr' : Fr} {aw aw' : AW} {ops : Array Oper} {N : Nat} (hG : PassG P l fr aw st fr' aw') (hF : DFacts l (aftersOf ops)) (hA : drawnOK l st = true)
    (hlen : l.length = ops.size) (hop : ∀ (i : Nat) (d : DOper), l[i]? = some d → ∃ o', ops[i]? = some o' ∧ cOper P N ops o' = some d.op)
    {a0 : Act} {w0 : World} {m0 : Map} {base : Nat} (hR0 : R aw w0 m0 base) (Q : Exit → Act → World → Prop) (hQ : Post N a0 aw w0 m0 base fr' aw' (Q .normal)) :
    ∀ (fuel : Nat) (D : Array Bool) (a : Act) (w : World) (m : Map) (x : AW), D.size = ops.size → Closed l D → unl D.toList = fuel → St l st fr aw N a0 w0 m0 base D a w m x → wpAny P .any ops Q fuel D a w := by
  have done : ∀ (D : Array Bool) (a : Act) (w : World) (m : Map) (x : AW), D.size = ops.size → Closed l D → St l st fr aw N a0 w0 m0 base D a w m x → Region.ready .any ops D = [] → Q .normal a w := by
    intro D a w m x hD hcl hS hr
    have all : ∀ i, i < ops.size → LD D i := by
      intro i
      induction i using Nat.strongRecOn with
      | ind i ih =>
        intro hi
        refine Classical.byContradiction fun hn => ?_
        have : i ∈ Region.ready .any ops D := by
          rw [mem_ready]
          have hiD : i < D.size := by omega
          refine ⟨?_, ops[i], by simp [hi], fun e he hb => ?_⟩
          · unfold LD at hn
            simp [hiD] at hn ⊢
            exact hn
          · obtain ⟨d, hd⟩ : ∃ d, l[i]? = some d := ⟨l[i]'(by omega), List.getElem?_eq_getElem (by omega)⟩
            obtain ⟨af, haf1, haf2, _⟩ := hF.after i d hd
            have hm : e.on ∈ af := by
              simp only [aftersOf, List.getElem?_map, Array.getElem?_toList] at haf1
              have hoi : ops[i]? = some ops[i] := by simp [hi]
              rw [hoi] at haf1
              simp only [Option.map_some, Option.some.injEq] at haf1
              subst haf1
              simp only [List.mem_map, List.mem_filter]
              exact ⟨e, ⟨by simpa using he, hb⟩, rfl⟩
            have := haf2 _ hm
            exact ih e.on this (by omega)
        rw [hr] at this; cases this
    have hx : x = aw' := by
      rcases hS.ep with ⟨h1, h2⟩ | ⟨e, de, se, h1, h2, h3, h4, h5, h6⟩
      · rcases hG.epFin with ⟨p1, p2⟩ | ⟨e, de, se, p1, p2, p3, p4, p5, p6⟩
        · rw [h2, p2]
        · have := h1 e de (all e (by omega)) p2; rw [p3] at this; cases this
      · rcases hG.epFin with ⟨p1, p2⟩ | ⟨e2, de2, se2, p1, p2, p3, p4, p5, p6⟩
        · have := p1 e de (lt_of_get h2) h2; rw [h3] at this; cases this
        · have hle := h6 e2 de2 (all e2 (by omega)) p2 p3
          have : e = e2 := by
            rcases Nat.lt_or_ge e2 e with h | h
            · have := p6 e de h (lt_of_get h2) h2; rw [h3] at this; cases this
            · omega
          subst this
          rw [p4] at h4; cases h4
          rw [h5, p5]
    subst hx
    refine hQ a w m ⟨hS.size, fun y v hy => hS.slot y v ?_⟩ hS.defers hS.R hS.goes
    rcases hG.fin y v hy with ⟨k, dk, sk, hk, h3, h4, h5, h6⟩ | ⟨h3, h4⟩
    · exact .inl ⟨k, dk, sk, all k (by omega), h3, h4, h5, h6⟩
    · exact .inr ⟨fun k dk hk hl => h3 k dk (lt_of_get hl) hl, h4⟩
  intro fuel
  induction fuel with
  | zero =>
    intro D a w m x hD hcl hu hS
    have hr : Region.ready .any ops D = [] := by
      rw [List.eq_nil_iff_forall_not_mem]
      intro i hi
      obtain ⟨hun, o', ho', _⟩ := mem_ready.1 hi
      have hiD : i < D.size := by rw [hD]; exact (Array.getElem?_eq_some_iff.1 ho').1
      refine unl_zero hu (i := i) ?_
      simp [hiD] at hun ⊢
      exact hun
    exact ⟨hr, done D a w m x hD hcl hS hr⟩
  | succ fuel ih =>
    intro D a w m x hD hcl hu hS
    refine ⟨done D a w m x hD hcl hS, fun i hi => ?_⟩
    refine step_ok hG hF hA hlen hop hR0 hD hcl hi hS Q _ fun hcl' a' w' m' x' hS' => ?_
    refine ih _ a' w' m' x' (by simp [hD]) hcl' ?_ hS'
    obtain ⟨hun, o', ho', _⟩ := mem_ready.1 hi
    have hiD : i < D.size := by rw [hD]; exact (Array.getElem?_eq_some_iff.1 ho').1
    have := unl_set (l := D.toList) (i := i) (by simp [hiD] at hun ⊢; exact hun)
    rw [Array.toList_setIfInBounds]
    omega
end
end Go.AE

/- AE, part 26: the abstract steps are good for the model's. -/
set_option linter.unusedVariables false
set_option linter.unusedSimpArgs false
namespace Go.AE

section
variable {P : Program} {tab : Tab}

/-- what code compiles to so. -/
def CodeIs (P : Program) (N : Nat) (code : Code) : ACode → Prop
  | .skip => code = .skip
  | .region l => ∃ id ops, code = .region id ops false ∧ cOpers P N ops ops.toList = some l
  | .drawn l => ∃ id ops, code = .region id ops true ∧ cDrawn P N ops = some l
  | .seq x y => ∃ a b, code = .seq a b ∧ cCode P N a = some x ∧ cCode P N b = some y
  | .cond c x y => ∃ o a b, code = .cond o a b ∧ cOpd o = some c ∧ cCode P N a = some x ∧ cCode P N b = some y
  | .block id x => ∃ b, code = .block id b ∧ cCode P N b = some x
  | .loop x => ∃ b, code = .loop b ∧ cCode P N b = some x
  | .exit id => code = .exit id
  | .scope x => ∃ b, code = .scope b ∧ cCode P N b = some x
  | .ret => code = .ret
theorem cCode_inv {N : Nat} {code : Code} {c : ACode} (h : cCode P N code = some c) : CodeIs P N code c := by
  unfold cCode at h
  split at h
  · cases h; rfl
  · split at h
    · cases h; rename_i hl; exact ⟨_, _, rfl, hl⟩
    · cases h
  · split at h
    · cases h; rename_i hl; exact ⟨_, _, rfl, hl⟩
    · cases h
  · split at h
    · cases h; rename_i h1 h2; exact ⟨_, _, rfl, h1, h2⟩
    · cases h
  · split at h
    · cases h; rename_i h1 h2 h3; exact ⟨_, _, _, rfl, h1, h2, h3⟩
    · cases h
  · split at h
    · cases h; rename_i h1; exact ⟨_, rfl, h1⟩
    · cases h
  · split at h
    · cases h; rename_i h1; exact ⟨_, rfl, h1⟩
    · cases h
  · cases h; rfl
  · split at h
    · cases h; rename_i h1; exact ⟨_, rfl, h1⟩
    · cases h
  · cases h; rfl
  · cases h

theorem GoodX.mk' {c : ACode} {fr : Fr} {aw : AW} {e : AExit} {fr' : Fr} {aw' : AW} (hl : ∀ b, c ≠ .loop b)
    (h : ∀ (code : Code) (N : Nat), CodeIs P N code c → ∀ (a : Act) (w : World) (m : Map) (base : Nat) (Q : Exit → Act → World → Prop), FR m N fr a.tmps → R aw w m base → Post N a aw w m base fr' aw' (Q (toExit e)) → code.wp P Q a w) : GoodX P c fr aw e fr' aw' :=
  ⟨fun code N hc => h code N (cCode_inv hc), fun b hb => absurd hb (hl b)⟩
theorem GoodX.mkL {c : ACode} {fr : Fr} {aw : AW} {e : AExit} {fr' : Fr} {aw' : AW}
    (h : ∀ (code : Code) (N : Nat), cCode P N code = some c → ∃ n, ∀ (a : Act) (w : World) (m : Map) (base : Nat) (Q : Exit → Act → World → Prop), FR m N fr a.tmps → R aw w m base → Post N a aw w m base fr' aw' (Q (toExit e)) → Code.rounds P code Q n a w) : GoodX P (.loop c) fr aw e fr' aw' := by
  refine ⟨fun code N hc a w m base Q hfr hR hp => ?_, fun b hb code N hc => ?_⟩
  · obtain ⟨b, rfl, hb⟩ := cCode_inv hc
    obtain ⟨n, hn⟩ := h b N hb
    exact wp_loop_rounds n (hn a w m base Q hfr hR hp)
  · cases hb; exact h code N hc

theorem Post.imp {N : Nat} {a : Act} {aw : AW} {w : World} {m : Map} {base : Nat} {fr : Fr} {aw' : AW} {K K' : Act → World → Prop} (h : Post N a aw w m base fr aw' K) (hk : ∀ a w, K a w → K' a w) : Post N a aw w m base fr aw' K' :=
  fun a' w' m' h1 h2 h3 h4 => hk _ _ (h a' w' m' h1 h2 h3 h4)

theorem code_ok (T : TabOK P tab) {f : Nat} {args : List V} {aw : AW} {af : AFun} {e : AExit} {fr' : Fr} {aw' : AW} {vs : List V} (ht : tab.code f = some af) (hn : args.length ≤ af.ntmps)
    (ih : GoodX P af.body (initFr args 0) aw e fr' aw') (he : e = .normal ∨ e = .ret) (hr : resV fr' aw' af.results = some vs) : GoodC P f args aw (resOne vs) aw' := by
  obtain ⟨fn, c, h1, h2, h3⟩ := T.code f af ht
  unfold cFun at h3
  rw [h2] at h3
  simp only at h3
  split at h3
  · rename_i x r hx hres
    split at h3
    · cases h3
    · rename_i hname
      cases h3
      refine ⟨⟨fn, h1, by rw [h2]; rfl, hname⟩, fun w m base args' hR hargs => ?_⟩
      have hlen := hargs.length
      refine calls_of_wp h1 h2 (ih.1 c fn.ntmps hx _ w m base _ ?_ hR ?_)
      · refine ⟨?_, fun d v hd => ?_⟩
        · simp only [Array.size_append, Array.size_replicate]
          have : args.length = args'.size := by simpa using hlen.symm
          simp only at hn
          omega
        · obtain ⟨_, q2⟩ := initFr_ok (m := m) hd
          obtain ⟨v', k1, k2⟩ := hargs.get q2
          refine ⟨v', ?_, k2⟩
          simp only [Nat.sub_zero, Array.getElem?_toList] at k1
          have hd' : d < args'.size := by
            rcases Nat.lt_or_ge d args'.size with h | h
            · exact h
            · rw [Array.getElem?_eq_none h] at k1; cases k1
          rw [Array.getElem?_append_left hd']; exact k1
      · intro a' w' m' q1 q2 q3 q4
        obtain ⟨v', k1, k2⟩ := results_ok q3 q1 hres hr
        have : bodyPost P fn (fun e w' => ∃ v' m', e = .returned v' ∧ VR m' (resOne vs) v' ∧ R aw' w' m' base ∧ Goes aw aw' w w' m m') .ret a' w' := ⟨q2, v', k1, v', m', rfl, k2, q3, q4⟩
        rcases he with rfl | rfl <;> exact this
  · cases h3

theorem cOpers_len {N : Nat} {ops : Array Oper} : ∀ {l : List Oper} {r : List AOper}, cOpers P N ops l = some r → r.length = l.length ∧ ∀ (i : Nat) (x : AOper), r[i]? = some x → ∃ o, l[i]? = some o ∧ cOper P N ops o = some x
  | [], r, h => by cases h; exact ⟨rfl, fun i x h => by simp at h⟩
  | o :: l, r, h => by
    simp only [cOpers] at h
    split at h
    · rename_i a ha
      split at h
      · rename_i q hq
        cases h
        obtain ⟨h1, h2⟩ := cOpers_len hq
        refine ⟨by simp [h1], fun i x hx => ?_⟩
        cases i with
        | zero => simp at hx; subst hx; exact ⟨o, rfl, ha⟩
        | succ i => obtain ⟨o', q1, q2⟩ := h2 i x (by simpa using hx); exact ⟨o', by simpa using q1, q2⟩
      · cases h
    · cases h
theorem cDrawn_inv {N : Nat} {ops : Array Oper} {l : List DOper} (h : cDrawn P N ops = some l) : l.length = ops.size ∧ dOK l (aftersOf ops) = true ∧ ∀ (i : Nat) (d : DOper), l[i]? = some d → ∃ o', ops[i]? = some o' ∧ cOper P N ops o' = some d.op := by
  unfold cDrawn at h
  split at h
  · rename_i lo hlo
    simp only [] at h
    split at h
    · rename_i hb
      simp only [Bool.and_eq_true] at hb
      cases h
      refine ⟨Nat.eq_of_beq_eq_true hb.1, hb.2, fun i d hd => ?_⟩
      obtain ⟨_, h2⟩ := cOpers_len hlo
      simp only [List.getElem?_map, List.getElem?_zipIdx, Option.map_map, Option.map_eq_some_iff, Function.comp] at hd
      obtain ⟨⟨o, anc⟩, hz, rfl⟩ := hd
      rw [List.getElem?_zip_eq_some] at hz
      obtain ⟨o', q1, q2⟩ := h2 i o hz.1
      exact ⟨o', by simpa using q1, q2⟩
    · cases h
  · cases h
theorem drawn_ok {N : Nat} {ops : Array Oper} {id : Nat} {l : List DOper} {st : List Stp} {fr fr' : Fr} {aw aw' : AW} (hm : P.follows .mixedOrders = true) (hc : cDrawn P N ops = some l) (hG : PassG P l fr aw st fr' aw') (hA : drawnOK l st = true)
    {a : Act} {w : World} {m : Map} {base : Nat} {Q : Exit → Act → World → Prop} (hfr : FR m N fr a.tmps) (hR : R aw w m base) (hp : Post N a aw w m base fr' aw' (Q .normal)) : (Code.region id ops true).wp P Q a w := by
  obtain ⟨h1, h2, h3⟩ := cDrawn_inv hc
  have hR' : R aw w.drew m base := hR.drew
  refine wp_region_any hm (any_ok hG (dFacts h2) hA h1 h3 hR' Q (hp.trans hR rfl (Goes.drew aw w m)) ops.size _ a _ m aw (by simp) ?_ (by simp [unl_replicate]) ?_)
  · intro i d x hi
    unfold LD at hi
    exfalso
    rw [Array.getD_eq_getD_getElem?, Array.getElem?_replicate] at hi
    split at hi <;> simp at hi
  · have hno : ∀ i, ¬ LD (Array.replicate ops.size false) i := by
      intro i hi
      unfold LD at hi
      rw [Array.getD_eq_getD_getElem?, Array.getElem?_replicate] at hi
      split at hi <;> simp at hi
    refine ⟨hR', .refl _ _ _, rfl, hfr.1, fun y v hs => ?_, .inl ⟨fun e de he => absurd he (hno e), rfl⟩⟩
    rcases hs with ⟨k, _, _, hk, _⟩ | ⟨_, h⟩
    · exact absurd hk (hno k)
    · exact hfr.2 y v h

theorem exec_ok (T : TabOK P tab) {c : ACode} {fr : Fr} {aw : AW} {e : AExit} {fr' : Fr} {aw' : AW} (h : Exec tab c fr aw e fr' aw') : GoodX P c fr aw e fr' aw' := by
  refine Exec.rec (tab := tab) (motive_1 := fun c fr aw e fr' aw' _ => GoodX P c fr aw e fr' aw') (motive_2 := fun l fr aw fr' aw' _ => GoodO P l fr aw fr' aw')
    (motive_3 := fun l fr aw st fr' aw' _ => (∀ d ∈ l, d.eff = true ∨ d.op.op.quiet = true) → PassG P l fr aw st fr' aw')
    (motive_4 := fun o fr aw v aw1 _ => OneG P o fr aw v aw1) (motive_5 := fun f args aw v aw' _ => GoodC P f args aw v aw') ?skip ?region ?drawn ?seq ?seqE ?seqR ?condT ?condF ?block ?blockX ?blockE ?blockR ?loop ?loopE ?loopR ?exit ?scope ?ret ?nil ?cons ?pnil ?pcons ?opass ?oval ?oskip ?ocall ?oext ?code ?prim h
  case skip =>
    intro fr aw
    refine GoodX.mk' (by intro b hb; cases hb) fun code N hc a w m base Q hfr hR hp => ?_
    cases hc
    exact wp_skip (hp.now hR hfr)
  case region =>
    intro l fr aw fr' aw' _ ih
    refine GoodX.mk' (by intro b hb; cases hb) fun code N hc a w m base Q hfr hR hp => ?_
    obtain ⟨id, ops, rfl, hl⟩ := hc
    refine wp_region (ih ops N _ ?_ a w m base Q hfr hR hp)
    have := cOpers_at (k := 0) hl (fun j => by simp)
    rwa [Array.length_toList, ← List.range_eq_range'] at this
  case drawn =>
    intro l fr aw st fr' aw' _ hA ih
    refine GoodX.mk' (by intro b hb; cases hb) fun code N hc a w m base Q hfr hR hp => ?_
    obtain ⟨id, ops, rfl, hl⟩ := hc
    obtain ⟨h1, h2, h3⟩ := cDrawn_inv hl
    refine drawn_ok T.mixed hl (ih fun d hd => ?_) hA hfr hR hp
    obtain ⟨i, hi⟩ := List.mem_iff_getElem?.1 hd
    obtain ⟨_, _, _, _, hq⟩ := (dFacts h2).after i d hi
    exact hq
  case seq =>
    intro x y fr aw fr1 aw1 e fr2 aw2 _ _ i1 i2
    refine GoodX.mk' (by intro b hb; cases hb) fun code N hc a w m base Q hfr hR hp => ?_
    obtain ⟨ca, cb, rfl, h1, h2⟩ := hc
    refine wp_seq (i1.1 ca N h1 a w m base _ hfr hR fun a' w' m' q1 q2 q3 q4 => ?_)
    exact i2.1 cb N h2 a' w' m' base _ q1 q3 (hp.trans hR q2 q4)
  case seqE =>
    intro x y fr aw id fr1 aw1 _ i1
    refine GoodX.mk' (by intro b hb; cases hb) fun code N hc a w m base Q hfr hR hp => ?_
    obtain ⟨ca, cb, rfl, h1, h2⟩ := hc
    exact wp_seq (i1.1 ca N h1 a w m base _ hfr hR hp)
  case seqR =>
    intro x y fr aw fr1 aw1 _ i1
    refine GoodX.mk' (by intro b hb; cases hb) fun code N hc a w m base Q hfr hR hp => ?_
    obtain ⟨ca, cb, rfl, h1, h2⟩ := hc
    exact wp_seq (i1.1 ca N h1 a w m base _ hfr hR hp)
  case condT =>
    intro c x y fr aw e fr1 aw1 hv _ i1
    refine GoodX.mk' (by intro b hb; cases hb) fun code N hc a w m base Q hfr hR hp => ?_
    obtain ⟨o, ca, cb, rfl, h0, h1, h2⟩ := hc
    exact wp_cond_true (cOpd_ok hfr h0 hv) (i1.1 ca N h1 a w m base _ hfr hR hp)
  case condF =>
    intro c x y fr aw e fr1 aw1 hv _ i1
    refine GoodX.mk' (by intro b hb; cases hb) fun code N hc a w m base Q hfr hR hp => ?_
    obtain ⟨o, ca, cb, rfl, h0, h1, h2⟩ := hc
    exact wp_cond_false (cOpd_ok hfr h0 hv) (i1.1 cb N h2 a w m base _ hfr hR hp)
  case block =>
    intro id x fr aw fr1 aw1 _ i1
    refine GoodX.mk' (by intro b hb; cases hb) fun code N hc a w m base Q hfr hR hp => ?_
    obtain ⟨ca, rfl, h1⟩ := hc
    exact wp_block (i1.1 ca N h1 a w m base _ hfr hR hp)
  case blockX =>
    intro id x fr aw fr1 aw1 _ i1
    refine GoodX.mk' (by intro b hb; cases hb) fun code N hc a w m base Q hfr hR hp => ?_
    obtain ⟨ca, rfl, h1⟩ := hc
    refine wp_block (i1.1 ca N h1 a w m base _ hfr hR (hp.imp fun a w hq => ?_))
    simp only [toExit, Exit.inBlock, if_true]
    exact hq
  case blockE =>
    intro id id' x fr aw fr1 aw1 _ hne i1
    refine GoodX.mk' (by intro b hb; cases hb) fun code N hc a w m base Q hfr hR hp => ?_
    obtain ⟨ca, rfl, h1⟩ := hc
    refine wp_block (i1.1 ca N h1 a w m base _ hfr hR (hp.imp fun a w hq => ?_))
    simp only [toExit, Exit.inBlock, if_neg hne]
    exact hq
  case blockR =>
    intro id x fr aw fr1 aw1 _ i1
    refine GoodX.mk' (by intro b hb; cases hb) fun code N hc a w m base Q hfr hR hp => ?_
    obtain ⟨ca, rfl, h1⟩ := hc
    exact wp_block (i1.1 ca N h1 a w m base _ hfr hR hp)
  case loop =>
    intro x fr aw fr1 aw1 e fr2 aw2 _ _ i1 i2
    refine GoodX.mkL fun code N hc => ?_
    obtain ⟨n, hn⟩ := i2.2 x rfl code N hc
    refine ⟨n + 1, fun a w m base Q hfr hR hp => ?_⟩
    rw [rounds_succ]
    refine i1.1 code N hc a w m base _ hfr hR fun a' w' m' q1 q2 q3 q4 => ?_
    exact hn a' w' m' base Q q1 q3 (hp.trans hR q2 q4)
  case loopE =>
    intro x fr aw id fr1 aw1 _ i1
    refine GoodX.mkL fun code N hc => ⟨1, fun a w m base Q hfr hR hp => ?_⟩
    rw [rounds_succ]
    exact i1.1 code N hc a w m base _ hfr hR hp
  case loopR =>
    intro x fr aw fr1 aw1 _ i1
    refine GoodX.mkL fun code N hc => ⟨1, fun a w m base Q hfr hR hp => ?_⟩
    rw [rounds_succ]
    exact i1.1 code N hc a w m base _ hfr hR hp
  case exit =>
    intro id fr aw
    refine GoodX.mk' (by intro b hb; cases hb) fun code N hc a w m base Q hfr hR hp => ?_
    cases hc
    exact wp_exit (hp.now hR hfr)
  case scope =>
    intro x fr aw e fr1 aw1 _ i1
    refine GoodX.mk' (by intro b hb; cases hb) fun code N hc a w m base Q hfr hR hp => ?_
    obtain ⟨ca, rfl, h1⟩ := hc
    refine wp_scope_straight (i1.1 ca N h1 a w m base _ hfr hR (hp.imp fun a w hq => ?_))
    cases e <;> exact hq
  case ret =>
    intro fr aw
    refine GoodX.mk' (by intro b hb; cases hb) fun code N hc a w m base Q hfr hR hp => ?_
    cases hc
    exact wp_ret (hp.now hR hfr)
  case nil =>
    intro fr aw ops N is hat a w m base Q hfr hR hp
    cases hat
    exact hp.now hR hfr
  case cons =>
    intro o l fr aw v aw1 fr' aw' _ _ h1 ih ops N is hat a w m base Q hfr hR hp
    obtain ⟨i, r, o', rfl, ho, hc, hat⟩ := hat
    rw [wpOps_cons]
    refine h1.1 ops N i o' ho hc a w m base Q _ hfr hR fun w' m' v' q1 q2 q3 => ?_
    obtain ⟨_, _, g3, g4⟩ := cOper_inv hc
    exact ih ops N r hat _ w' m' base Q ((hfr.mono q3.le).put (by rw [g3]; exact g4) q1) q2 (hp.trans hR put_defers q3)
  case pnil =>
    intro fr aw _
    exact .nil
  case pcons =>
    intro d l fr aw v aw1 st fr' aw' _ _ h1 ih hq
    exact .cons (hq d (by simp)) h1 (ih fun d' hd' => hq d' (by simp [hd']))
  case opass =>
    intro o fr aw hw
    exact ⟨goodOne_pass hw, fun _ => rfl, fun _ => rfl⟩
  case oval =>
    intro o fr aw v aw1 hw ha
    exact ⟨goodOne_val hw ha, fun hq => (quiet_ok hq ha).1, fun h => by rw [hw] at h; cases h⟩
  case oskip =>
    intro o fr aw aw1 hw ha
    exact ⟨goodOne_skip hw ha, fun hq => (quiet_ok hq ha).1, fun _ => rfl⟩
  case ocall =>
    intro o fr aw f args aw0 v aw1 hw ha _ hg
    refine ⟨goodOne_call hw ha hg, fun hq => ?_, fun h => by rw [hw] at h; cases h⟩
    obtain ⟨_, v, h⟩ := quiet_ok hq ha
    cases h
  case oext =>
    intro o fr aw f args aw0 v hw ha hx
    refine ⟨goodOne_ext T hw ha hx, fun hq => (quiet_ok hq ha).1, fun h => by rw [hw] at h; cases h⟩
  case code =>
    intro f args aw af e fr' aw' vs ht hn _ he hr ih
    exact code_ok T ht hn ih he hr
  case prim =>
    intro f args aw v aw' hp
    exact T.prim f args aw v aw' hp

/-- a call that the abstract steps come through. -/
theorem callR_ok (T : TabOK P tab) {f : Nat} {args : List V} {aw : AW} {v : V} {aw' : AW} (h : CallR tab f args aw v aw') : GoodC P f args aw v aw' := by
  cases h with
  | prim hp => exact T.prim f args aw v aw' hp
  | code ht hn hx he hr =>
    exact code_ok T ht hn (exec_ok T hx) he hr
end
end Go.AE

/- AE, part 27: the abstract steps, carried out. -/
set_option linter.unusedVariables false
set_option linter.unusedSimpArgs false
namespace Go.AE

structure XTab where
  code : Nat → Option AFun
  prim : Nat → List V → AW → Option (V × AW)
  ext : Nat → List V → AW → Option V
def XTab.tab (x : XTab) : Tab := ⟨x.code, fun f args aw v aw' => x.prim f args aw = some (v, aw'), fun f args aw v => x.ext f args aw = some v⟩

abbrev X := ACode → Fr → AW → Option (AExit × Fr × AW)
def xCall (x : XTab) (rec : X) (f : Nat) (args : List V) (aw : AW) : Option (V × AW) :=
  match x.prim f args aw with
  | some r => some r
  | none => match x.code f with
    | some af => match Nat.ble args.length af.ntmps with
      | true => match rec af.body (initFr args 0) aw with
        | some (.exit _, _, _) => none
        | some (_, fr', aw') => match resV fr' aw' af.results with
          | some vs => some (resOne vs, aw')
          | none => none
        | none => none
      | false => none
    | none => none
def xOne (x : XTab) (rec : X) (o : AOper) (fr : Fr) (aw : AW) : Option (V × AW) :=
  match wanted fr o.guard with
  | some true => match aop o.op fr aw with
    | some (.val v, aw1) => some (v, aw1)
    | some (.skip, aw1) => some (.undef, aw1)
    | some (.call f args, aw0) => match x.ext f args aw0 with
      | some v => some (v, aw0)
      | none => xCall x rec f args aw0
    | none => none
  | some false => some (.undef, aw)
  | none => none
def xOps (x : XTab) (rec : X) : List AOper → Fr → AW → Option (Fr × AW)
  | [], fr, aw => some (fr, aw)
  | o :: l, fr, aw => match xOne x rec o fr aw with
    | some (v, aw1) => xOps x rec l (putO fr o.dst v) aw1
    | none => none
def xPass (x : XTab) (rec : X) : List DOper → Fr → AW → Option (List Stp × Fr × AW)
  | [], fr, aw => some ([], fr, aw)
  | d :: l, fr, aw => match xOne x rec d.op (hideL fr d.hide) aw with
    | some (v, aw1) => match xPass x rec l (putO fr d.op.dst v) aw1 with
      | some (st, fr', aw') => some (⟨hideL fr d.hide, v, aw, aw1⟩ :: st, fr', aw')
      | none => none
    | none => none
def xStep (x : XTab) (rec : X) : X := fun c fr aw => match c with
  | .skip => some (.normal, fr, aw)
  | .region l => match xOps x rec l fr aw with
    | some (fr', aw') => some (.normal, fr', aw')
    | none => none
  | .drawn l => match xPass x rec l fr aw with
    | some (st, fr', aw') => match drawnOK l st with
      | true => some (.normal, fr', aw')
      | false => none
    | none => none
  | .seq a b => match rec a fr aw with
    | some (.normal, fr1, aw1) => rec b fr1 aw1
    | r => r
  | .cond c a b => match c.ev fr with
    | some (.bool true) => rec a fr aw
    | some (.bool false) => rec b fr aw
    | _ => none
  | .block id b => match rec b fr aw with
    | some (.exit id', fr1, aw1) => match Nat.beq id' id with
      | true => some (.normal, fr1, aw1)
      | false => some (.exit id', fr1, aw1)
    | r => r
  | .loop b => match rec b fr aw with
    | some (.normal, fr1, aw1) => rec (.loop b) fr1 aw1
    | r => r
  | .exit id => some (.exit id, fr, aw)
  | .scope b => rec b fr aw
  | .ret => some (.ret, fr, aw)
def xRun (x : XTab) (n : Nat) : X := Nat.rec (fun _ _ _ => none) (fun _ ih => xStep x ih) n

section
variable {x : XTab}
def RecOK (x : XTab) (rec : X) : Prop := ∀ (c : ACode) (fr : Fr) (aw : AW) (e : AExit) (fr' : Fr) (aw' : AW), rec c fr aw = some (e, fr', aw') → Exec x.tab c fr aw e fr' aw'
theorem xCall_ok {rec : X} (hr : RecOK x rec) {f : Nat} {args : List V} {aw : AW} {v : V} {aw' : AW} (h : xCall x rec f args aw = some (v, aw')) : CallR x.tab f args aw v aw' := by
  unfold xCall at h
  split at h
  · rename_i hp; cases h; exact .prim hp
  · split at h
    · rename_i af haf
      split at h
      · rename_i hn
        split at h
        · cases h
        · rename_i e fr1 aw1 hne hrec
          split at h
          · rename_i vs hvs
            cases h
            refine .code haf (Nat.le_of_ble_eq_true hn) (hr _ _ _ _ _ _ hrec) ?_ hvs
            cases e with
            | normal => exact .inl rfl
            | ret => exact .inr rfl
            | exit id => exact (hne id rfl).elim
          · cases h
        · cases h
      · cases h
    · cases h
theorem xOne_ok {rec : X} (hr : RecOK x rec) {o : AOper} {fr : Fr} {aw : AW} {v : V} {aw' : AW} (h : xOne x rec o fr aw = some (v, aw')) : One x.tab o fr aw v aw' := by
  unfold xOne at h
  split at h
  · rename_i hw
    split at h
    · rename_i ha; cases h; exact .val hw ha
    · rename_i ha; cases h; exact .skip hw ha
    · rename_i ha
      split at h
      · rename_i hx; cases h; exact .ext hw ha hx
      · exact .call hw ha (xCall_ok hr h)
    · cases h
  · rename_i hw; cases h; exact .pass hw
  · cases h
theorem xOps_ok {rec : X} (hr : RecOK x rec) : ∀ {l : List AOper} {fr : Fr} {aw : AW} {fr' : Fr} {aw' : AW}, xOps x rec l fr aw = some (fr', aw') → Ops x.tab l fr aw fr' aw'
  | [], fr, aw, fr', aw', h => by cases h; exact .nil
  | o :: l, fr, aw, fr', aw', h => by
    simp only [xOps] at h
    split at h
    · rename_i v aw1 h1
      exact .cons (xOne_ok hr h1) (xOps_ok hr h)
    · cases h
theorem xPass_ok {rec : X} (hr : RecOK x rec) : ∀ {l : List DOper} {fr : Fr} {aw : AW} {st : List Stp} {fr' : Fr} {aw' : AW}, xPass x rec l fr aw = some (st, fr', aw') → Pass x.tab l fr aw st fr' aw'
  | [], fr, aw, st, fr', aw', h => by cases h; exact .nil
  | d :: l, fr, aw, st, fr', aw', h => by
    simp only [xPass] at h
    split at h
    · rename_i v aw1 h1
      split at h
      · rename_i h2
        cases h
        exact .cons (xOne_ok hr h1) (xPass_ok hr h2)
      · cases h
    · cases h
theorem xStep_ok {rec : X} (hr : RecOK x rec) : RecOK x (xStep x rec) := by
  intro c fr aw e fr' aw' h
  unfold xStep at h
  cases c with
  | skip => cases h; exact .skip
  | region l =>
    simp only at h
    split at h
    · rename_i h1; cases h; exact .region (xOps_ok hr h1)
    · cases h
  | drawn l =>
    simp only at h
    split at h
    · rename_i h1
      split at h
      · rename_i h2; cases h; exact .drawn (xPass_ok hr h1) h2
      · cases h
    · cases h
  | seq a b =>
    simp only at h
    split at h
    · rename_i h1; exact .seq (hr _ _ _ _ _ _ h1) (hr _ _ _ _ _ _ h)
    · rename_i hne
      cases e with
      | normal => exact absurd h (hne _ _)
      | exit id => exact .seqE (hr _ _ _ _ _ _ h)
      | ret => exact .seqR (hr _ _ _ _ _ _ h)
  | cond c a b =>
    simp only at h
    split at h
    · rename_i h1; exact .condT h1 (hr _ _ _ _ _ _ h)
    · rename_i h1; exact .condF h1 (hr _ _ _ _ _ _ h)
    · cases h
  | block id b =>
    simp only at h
    split at h
    · rename_i id' fr1 aw1 h1
      split at h
      · rename_i hb; cases h
        have := Nat.eq_of_beq_eq_true hb
        subst this
        exact .blockX (hr _ _ _ _ _ _ h1)
      · rename_i hb; cases h
        exact .blockE (hr _ _ _ _ _ _ h1) (fun hh => by subst hh; rw [Nat.beq_refl] at hb; cases hb)
    · rename_i hne
      cases e with
      | normal => exact .block (hr _ _ _ _ _ _ h)
      | exit id => exact absurd h (hne _ _ _)
      | ret => exact .blockR (hr _ _ _ _ _ _ h)
  | loop b =>
    simp only at h
    split at h
    · rename_i h1; exact .loop (hr _ _ _ _ _ _ h1) (hr _ _ _ _ _ _ h)
    · rename_i hne
      cases e with
      | normal => exact absurd h (hne _ _)
      | exit id => exact .loopE (hr _ _ _ _ _ _ h)
      | ret => exact .loopR (hr _ _ _ _ _ _ h)
  | exit id => cases h; exact .exit
  | scope b => exact .scope (hr _ _ _ _ _ _ h)
  | ret => cases h; exact .ret
theorem xRun_ok : ∀ (n : Nat), RecOK x (xRun x n)
  | 0 => fun c fr aw e fr' aw' h => by cases h
  | n + 1 => xStep_ok (xRun_ok n)
theorem run_ok {n f : Nat} {args : List V} {aw : AW} {v : V} {aw' : AW} (h : xCall x (xRun x n) f args aw = some (v, aw')) : CallR x.tab f args aw v aw' := xCall_ok (xRun_ok n) h
end
end Go.AE

/- AE, part 28: what a closed run of the abstract steps says of the model. -/
set_option linter.unusedVariables false
set_option linter.unusedSimpArgs false
open Go.RowKit
namespace Go.AE

def isTrue : Option (V × AW) → Bool
  | some (.bool true, _) => true
  | _ => false
theorem R.empty (w : World) : R AW.empty w (fun _ => none) w.heap.size where
  famlt b e l f h := by cases h
  size := Nat.le_refl _
  lt b e h := by cases h
  base b e h := by cases h
  blk b e x h := by cases h
  apart b e x b' e' x' h := by cases h
  fam f F h := by simp [AW.empty, T.get] at h
/-- a world with new blocks alone. -/
theorem Goes.below {aw aw' : AW} {w w' : World} {m m' : Map} (h : Goes aw aw' w w' m m') (hm : ∀ b, m b = Option.none) : Below w.heap.size w w' :=
  ⟨h.os, h.tape, h.output, h.size, fun k hk => h.frame k hk fun b e x hb => by rw [hm] at hb; cases hb⟩
theorem closed_ok {P : Program} {x : XTab} (T : TabOK P x.tab) {n f : Nat} (h : isTrue (xCall x (xRun x n) f [] AW.empty) = true) (w : World) :
    Calls P f #[] w fun e w' => e = .returned (.bool true) ∧ Below w.heap.size w w' := by
  unfold isTrue at h
  split at h
  · rename_i aw' hr
    refine ((callR_ok T (run_ok hr)).2 w _ _ #[] (R.empty w) rfl).mono ?_
    rintro e w' ⟨v', m', rfl, rfl, _, hg⟩
    exact ⟨rfl, hg.below fun _ => rfl⟩
  · cases h
/-- the program's own functions. -/
def XTab.of (P : Program) : XTab where
  code f := match P.funcs[f]? with
    | some fn => cFun P fn
    | none => none
  prim _ _ _ := none
  ext _ _ _ := none
theorem XTab.of_ok {P : Program} (hm : P.follows .mixedOrders = true) : TabOK P (XTab.of P).tab where
  mixed := hm
  code f af h := by
    simp only [XTab.tab, XTab.of] at h
    split at h
    · rename_i fn hfn
      have h0 := h
      unfold cFun at h
      split at h
      · rename_i c hc; exact ⟨fn, c, hfn, hc, h0⟩
      · cases h
    · cases h
  prim f args aw v aw' h := by cases h
  ext f args aw v h := by cases h
end Go.AE

/- AE, part 29: a slice's block that is written over and grown, where it lay or anew: nothing of its family is to be read any more. -/
set_option linter.unusedVariables false
set_option linter.unusedSimpArgs false
namespace Go.AE

def AW.reborn (aw : AW) (f : Nat) (l2 : List V) : AW :=
  { heap := aw.heap.put aw.next (.cells l2 .lax), next := aw.next + 1, fams := aw.fams.put f ⟨aw.next, aw.next + 1, aw.next⟩ }
theorem reborn_alive {aw : AW} {f : Nat} {l2 : List V} {b' : Nat} {sh : Share} (hlt : b' < aw.next) (h : (aw.reborn f l2).alive b' sh = true) : aw.alive b' sh = true ∧ sh ≠ .fam f := by
  cases sh with
  | own => exact ⟨rfl, by simp⟩
  | lax => exact ⟨rfl, by simp⟩
  | ro => exact ⟨rfl, by simp⟩
  | fam g =>
    simp only [AW.alive, AW.reborn] at h
    split at h
    · rename_i G hG
      rcases T.get_put hG with ⟨rfl, rfl⟩ | ⟨h1, h2⟩
      · simp only [Bool.or_eq_true] at h
        rcases h with h | h
        · have := Nat.eq_of_beq_eq_true h; omega
        · have := Nat.le_of_ble_eq_true h; omega
      · refine ⟨?_, by simpa using h1⟩
        simp only [AW.alive, h2]; exact h
    · cases h
theorem R.reborn {aw : AW} {w w' : World} {m : Map} {base : Nat} (hR : R aw w m base) {b f : Nat} {e en : Emb} {l l2 : List V} (hm : m b = some e)
    (hx : aw.heap.get b = some (.cells l (.fam f))) (hal : aw.alive b (.fam f) = true)
    (hsz : w.heap.size ≤ w'.heap.size) (hen : en.c < w'.heap.size)
    (hos : w'.os = w.os) (htape : w'.tape = w.tape) (hout : w'.output = w.output)
    (hcase : en.c = e.c ∨ w.heap.size ≤ en.c)
    (hoth : ∀ c, c < w.heap.size → c ≠ e.c → w'.heap[c]? = w.heap[c]?)
    (hnew : BR (aw.reborn f l2) (m.set aw.next en) w' aw.next en (.cells l2 .lax)) :
    R (aw.reborn f l2) w' (m.set aw.next en) base ∧ Goes aw (aw.reborn f l2) w w' m (m.set aw.next en) := by
  have hnone : m aw.next = none := by
    cases h : m aw.next with
    | none => rfl
    | some e => exact absurd (hR.lt _ _ h).1 (by omega)
  have hle : m.le (m.set aw.next en) := Map.le_set hnone
  have hbl := hR.lt b e hm
  have old : ∀ {b' : Nat} {e' : Emb} {z : Blk}, m b' = some e' → (aw.reborn f l2).heap.get b' = some z → aw.heap.get b' = some z := by
    intro b' e' z h hz
    have := (hR.lt b' e' h).1
    simp only [AW.reborn] at hz; rw [T.get_put_ne (by omega)] at hz; exact hz
  have live : ∀ {b' : Nat} {e' : Emb} {z : Blk}, m b' = some e' → (aw.reborn f l2).live b' z = true → aw.live b' z = true ∧ z.share ≠ some (.fam f) := by
    intro b' e' z h hl
    cases z with
    | cells l' sh' =>
      obtain ⟨h1, h2⟩ := reborn_alive (hR.lt b' e' h).1 hl
      exact ⟨h1, by simpa [Blk.share] using h2⟩
    | map es ck => exact ⟨rfl, fun h => by simp [Blk.share] at h⟩
    | mapIter r1 r2 r3 r4 => exact ⟨rfl, fun h => by simp [Blk.share] at h⟩
  -- whatever is still to be read lies elsewhere
  have away : ∀ {b' : Nat} {e' : Emb} {z : Blk}, m b' = some e' → aw.heap.get b' = some z → (aw.reborn f l2).live b' z = true → e'.c ≠ e.c := by
    intro b' e' z h hz hl hec
    obtain ⟨h1, h2⟩ := live h hl
    by_cases hbb : b' = b
    · subst hbb
      rw [hx] at hz; cases hz
      exact h2 rfl
    · have hmt := hR.apart b' e' z b e _ h hz hm hx h1 hal hbb hec
      cases z with
      | cells l' sh' =>
        cases sh' with
        | own => simp [Blk.mates] at hmt
        | lax => simp [Blk.mates] at hmt
        | ro => simp [Blk.mates] at hmt
        | fam g =>
          simp only [Blk.mates, beq_iff_eq] at hmt
          subst hmt
          exact h2 rfl
      | map es ck => simp [Blk.mates] at hmt
      | mapIter r1 r2 r3 r4 => simp [Blk.mates] at hmt
  have hself : ∀ {z : Blk}, (aw.reborn f l2).heap.get aw.next = some z → z = .cells l2 .lax := by
    intro z hz
    rcases T.get_put hz with ⟨_, h3⟩ | ⟨h3, _⟩
    · exact h3
    · exact absurd rfl h3
  constructor
  · constructor
    · intro b' e' l' g h hy
      rcases Map.set_cases h with ⟨rfl, rfl⟩ | ⟨h1, h2⟩
      · have := hself hy; cases this
      · have := hR.famlt b' e' l' g h2 (old h2 hy); simp only [AW.reborn]; omega
    · have := hR.size; omega
    · intro b' e' h
      rcases Map.set_cases h with ⟨rfl, rfl⟩ | ⟨h1, h2⟩
      · exact ⟨by simp [AW.reborn], hen⟩
      · have := hR.lt b' e' h2; exact ⟨by simp only [AW.reborn]; omega, by omega⟩
    · intro b' e' h
      rcases Map.set_cases h with ⟨rfl, rfl⟩ | ⟨h1, h2⟩
      · rcases hcase with h1 | h1
        · rcases hR.base b e hm with h3 | ⟨l', h3⟩
          · exact .inl (by omega)
          · rw [hx] at h3; cases h3
        · exact .inl (Nat.le_trans hR.size h1)
      · rcases hR.base b' e' h2 with h3 | ⟨l', h3⟩
        · exact .inl h3
        · exact .inr ⟨l', by simp only [AW.reborn]; rw [T.get_put_ne h1]; exact h3⟩
    · intro b' e' z h hz
      rcases Map.set_cases h with ⟨rfl, rfl⟩ | ⟨h1, h2⟩
      · have := hself hz; subst this; exact hnew
      · have hz' := old h2 hz
        have hold := hR.blk b' e' z h2 hz'
        have hlt' := hR.lt b' e' h2
        cases z with
        | cells l' sh' =>
          intro hl
          have hec := away h2 hz' (z := .cells l' sh') hl
          obtain ⟨cur, t, lo, hi, p1, p2, p3, p4, p5⟩ := hold (live (z := .cells l' sh') h2 hl).1
          exact ⟨cur, t, lo, hi, by rw [hoth _ hlt'.2 hec]; exact p1, p2, p3, p4, p5.mono hle⟩
        | map es ck => exact BR.mono hle (fun sh l hz2 hl => by cases hz2) (hoth e'.c hlt'.2 (away h2 hz' rfl)) hold
        | mapIter r1 r2 r3 r4 => exact BR.mono hle (fun sh l hz2 hl => by cases hz2) (hoth e'.c hlt'.2 (away h2 hz' rfl)) hold
    · intro b1 e1 z1 b2 e2 z2 h1 hz1 h2 hz2 hl1 hl2 hne hec
      rcases Map.set_cases h1 with ⟨rfl, rfl⟩ | ⟨k1, k2⟩
      · rcases Map.set_cases h2 with ⟨rfl, rfl⟩ | ⟨k3, k4⟩
        · exact absurd rfl hne
        · rcases hcase with q1 | q1
          · exact absurd (by omega) (away k4 (old k4 hz2) hl2)
          · have := (hR.lt b2 e2 k4).2; omega
      · rcases Map.set_cases h2 with ⟨rfl, rfl⟩ | ⟨k3, k4⟩
        · rcases hcase with q1 | q1
          · exact absurd (by omega) (away k2 (old k2 hz1) hl1)
          · have := (hR.lt b1 e1 k2).2; omega
        · exact hR.apart b1 e1 z1 b2 e2 z2 k2 (old k2 hz1) k4 (old k4 hz2) (live k2 hl1).1 (live k4 hl2).1 hne hec
    · intro g G hG
      simp only [AW.reborn] at hG
      rcases T.get_put hG with ⟨rfl, rfl⟩ | ⟨h1, h2⟩
      · refine ⟨by simp [AW.reborn], ?_⟩
        intro b1 e1 l1 e2 l2' g1 hz1 ha1 g2 hz2 hec
        have h0 := hself hz2
        cases h0
      · obtain ⟨k1, k2⟩ := hR.fam g G h2
        refine ⟨by simp only [AW.reborn]; omega, ?_⟩
        intro b1 e1 l1 e2 l2' g1 hz1 ha1 g2 hz2 hec
        rcases Map.set_cases g1 with ⟨rfl, rfl⟩ | ⟨k3, k4⟩
        · have := hself hz1; cases this
        · rcases Map.set_cases g2 with ⟨h5, rfl⟩ | ⟨k5, k6⟩
          · rw [h5] at hz2
            have := hself hz2; cases this
          · exact k2 b1 e1 l1 e2 l2' k4 (old k4 hz1) (live (z := .cells l1 (.fam g)) k4 ha1).1 k6 (old k6 hz2) hec
  · constructor
    · exact hle
    · intro b' e' h
      rcases Map.set_cases h with ⟨rfl, rfl⟩ | ⟨h1, h2⟩
      · rcases hcase with q1 | q1
        · exact .inr ⟨Nat.le_refl _, .inr ⟨b, e, _, hm, q1.symm, hx, fun l' hl' => by cases hl'⟩⟩
        · exact .inr ⟨Nat.le_refl _, .inl q1⟩
      · exact .inl h2
    · simp [AW.reborn]
    · exact hsz
    · exact hos
    · exact htape
    · exact hout
    · intro b' l' h hlt; simp only [AW.reborn]; rw [T.get_put_ne (by omega)]; exact h
    · intro b' l' h hlt; simp only [AW.reborn] at h; rw [T.get_put_ne (by omega)] at h; exact ⟨l', h⟩
    · intro c hc hno
      refine hoth c hc (fun hce => ?_)
      exact hno b e _ hm hx (fun l' hl' => by cases hl') hce.symm
    · intro b' hlt h; simp only [AW.reborn]; rw [T.get_put_ne (by omega)]; exact h
end Go.AE

/- AE, part 30: an element pushed into a slice's midst (slices.Insert, elements of one cell), out of what the library's text does: in place, or in a new row. -/
set_option linter.unusedVariables false
set_option linter.unusedSimpArgs false
namespace Go.AE

theorem setCells_obj (c : Nat) (t : TypeId) (fz : Nat × Nat) : ∀ (vs : List Value) (o : Nat) (cur : Array Value) (w : World), w.heap[c]? = some (.cells cur t fz) → o + vs.length ≤ cur.size →
    ∃ cur' : Array Value, w.setCells c o vs = setObjW w c (.cells cur' t fz) ∧ cur'.size = cur.size ∧ ∀ j, cur'[j]? = if o ≤ j ∧ j < o + vs.length then vs[j - o]? else cur[j]?
  | [], o, cur, w, hg, _ => by
    refine ⟨cur, ?_, rfl, fun j => ?_⟩
    · rw [setObj_self hg]; rfl
    · rw [if_neg (by simp)]
  | v :: vs, o, cur, w, hg, hl => by
    simp only [List.length_cons] at hl
    have hc : c < w.heap.size := (Array.getElem?_eq_some_iff.1 hg).1
    have hone : w.setCell ⟨c, o, none⟩ v = setObjW w c (.cells (cur.setIfInBounds o v) t fz) := setCell_obj hg
    obtain ⟨cur', k1, k2, k3⟩ := setCells_obj c t fz vs (o + 1) (cur.setIfInBounds o v) (setObjW w c (.cells (cur.setIfInBounds o v) t fz)) (setObjW_same hc) (by simp; omega)
    refine ⟨cur', ?_, by simpa using k2, fun j => ?_⟩
    · simp only [World.setCells, hone, k1, setObj_twice]
    · rw [k3 j]
      simp only [List.length_cons]
      by_cases c1 : o + 1 ≤ j ∧ j < o + 1 + vs.length
      · rw [if_pos c1, if_pos (by omega)]
        have : j - o = (j - (o + 1)) + 1 := by omega
        rw [this, List.getElem?_cons_succ]
      · rw [if_neg c1]
        by_cases c2 : j = o
        · subst c2
          rw [if_pos (by omega)]
          simp [show j < cur.size by omega]
        · rw [if_neg (by omega), Array.getElem?_setIfInBounds_ne (by omega)]

def InsShift (P : Program) (f : Nat) : Prop := ∀ (b off n c i vb voff m vc : Nat) (cs vs : List Value) (w : World), i < n → 0 < m → n + m ≤ c → n + m ≤ 9223372036854775807 → vb ≠ b →
  cs.length = n → vs.length = m → (∀ j v, cs[j]? = some v → w.cell? ⟨b, off + j, none⟩ = some v) → (∀ j, j < n + m → (w.cell? ⟨b, off + j, none⟩).isSome = true) → (∀ j, j < n + m → w.frozen? ⟨b, off + j, none⟩ = false) →
  (∀ j v, vs[j]? = some v → w.cell? ⟨vb, voff + j, none⟩ = some v) → (∀ v ∈ cs, v.oneCell' = true) → (∀ v ∈ vs, v.oneCell' = true) →
  ∀ (tA tB : TypeId) (kA kB : Nat), w.shape? vb = some (tA, kA) → w.shape? b = some (tB, kB) → kB ≠ 0 → w.frozen? ⟨vb, voff, none⟩ = false → w.frozen? ⟨vb, kA, none⟩ = false →
  Calls P f #[.slice (some ⟨b, off, none⟩) n c, .int .i64 i, .slice (some ⟨vb, voff, none⟩) m vc] w fun e w' =>
    e = .returned (.slice (some ⟨b, off, none⟩) (n + m) c) ∧ w' = (w.drew.setCells b (off + (i + m)) (cs.drop i)).setCells b (off + i) vs
def InsGrow (P : Program) (f : Nat) (te : TypeId) (zero : Value) (bytes : Nat) : Prop := ∀ (b off n c i vb voff m vc : Nat) (cs vs : List Value) (w : World), i < n → 0 < m → n ≤ c → c < n + m → (n + m) * bytes ≤ 140737488355328 →
  cs.length = n → vs.length = m → (∀ j v, cs[j]? = some v → w.cell? ⟨b, off + j, none⟩ = some v) →
  (∀ j v, vs[j]? = some v → w.cell? ⟨vb, voff + j, none⟩ = some v) → (∀ v ∈ cs, v.oneCell' = true) → (∀ v ∈ vs, v.oneCell' = true) →
  Calls P f #[.slice (some ⟨b, off, none⟩) n c, .int .i64 i, .slice (some ⟨vb, voff, none⟩) m vc] w fun e w' =>
    e = .returned (.slice (some ⟨w.heap.size, 0, none⟩) (n + m) (grownCap w (n + m) c te)) ∧
    w' = (((w.alloc (.cells ((cs.take i).toArray ++ Builtin.zeroCells zero.cells (n + m - i) ++ Builtin.zeroCells zero.cells (grownCap w (n + m) c te - (n + m))) te)).drew.setCells w.heap.size i vs).drew).setCells w.heap.size (i + m) (cs.drop i)

/-- the slice behind it, of a block that is one of a family's. -/
def AW.insFam (aw : AW) (b : Nat) (n k : Nat) (l2 : List V) : Option (V × AW) :=
  match aw.heap.get b with
  | some (.cells _ (.fam f)) => some (.slice aw.next 0 (n + k) (.upTo 1), aw.reborn f l2)
  | _ => none
def insPrim (bytes : Nat) (args : List V) (aw : AW) : Option (V × AW) :=
  match args with
  | [.slice b off n (.upTo 1), .int .i64 (.ofNat i), .slice bv ov k (.known _)] =>
    match Nat.blt i n, Nat.blt 0 k, Nat.ble ((n + k) * bytes) 70368744177664, Nat.ble (n + k) 70368744177664, Nat.beq bv b with
    | true, true, true, true, false => match aw.heap.get bv, aw.load bv ov k, aw.load b off n with
      | some (.cells _ .own), some vs, some cs => match allOne vs, allOne cs with
        | true, true => match aw.heap.get b with
          | some (.cells _ (.fam _)) => aw.insFam b n k (cs.take i ++ vs ++ cs.drop i)
          | some (.cells l .own) => match (aw.found b l).alive b (.fam aw.next) with
            | true => (aw.found b l).insFam b n k (cs.take i ++ vs ++ cs.drop i)
            | false => none
          | some (.cells l .lax) => match (aw.found b l).alive b (.fam aw.next) with
            | true => (aw.found b l).insFam b n k (cs.take i ++ vs ++ cs.drop i)
            | false => none
          | _ => none
        | _, _ => none
      | _, _, _ => none
    | _, _, _, _, _ => none
  | _ => none

theorem size_setObjW (w : World) (c : Nat) (o : Obj) : (setObjW w c o).heap.size = w.heap.size := by simp [setObjW]
theorem cell_of {w : World} {c o : Nat} {cur : Array Value} {t : TypeId} {fz : Nat × Nat} (h : w.heap[c]? = some (.cells cur t fz)) : w.cell? ⟨c, o, none⟩ = cur[o]? := by
  simp [World.cell?, h]
theorem frozen_of {w : World} {c o : Nat} {cur : Array Value} {t : TypeId} {lo hi : Nat} (h : w.heap[c]? = some (.cells cur t (lo, hi))) (hf : lo = hi ∨ o < lo) : w.frozen? ⟨c, o, none⟩ = false := by
  simp only [World.frozen?, h, Bool.and_eq_false_iff, decide_eq_false_iff_not]
  omega
section
variable {P : Program} {f : Nat} {te : TypeId} {zero : Value} {bytes : Nat} {aw : AW} {w : World} {m : Map} {base : Nat}
theorem mid_get {ys zs : List Value} {i j : Nat} (hi : i ≤ ys.length) : (ys.take i ++ zs ++ ys.drop i)[j]? = if j < i then ys[j]? else if j < i + zs.length then zs[j - i]? else ys[j - zs.length]? := by
  have ht : (ys.take i).length = i := by rw [List.length_take]; omega
  by_cases h1 : j < i
  · rw [if_pos h1, List.append_assoc, List.getElem?_append_left (by omega), List.getElem?_take, if_pos h1]
  · rw [if_neg h1]
    by_cases h2 : j < i + zs.length
    · rw [if_pos h2, List.append_assoc, List.getElem?_append_right (by omega), ht, List.getElem?_append_left (by omega)]
    · rw [if_neg h2, List.getElem?_append_right (by simp; omega), List.getElem?_drop]
      congr 1
      simp
      omega
theorem ins_core (hs : InsShift P f) (hg : InsGrow P f te zero bytes) (hz : zero.cells.size = 1) (hR : R aw w m base) {b bv off n i ov k cp vc g : Nat} {e ev : Emb} {l lv vs cs : List V}
    (hin : i < n) (hk : 0 < k) (hb1 : (n + k) * bytes ≤ 70368744177664) (hb2 : n + k ≤ 70368744177664) (hne : bv ≠ b)
    (hm : m b = some e) (hx : aw.heap.get b = some (.cells l (.fam g))) (hal : aw.alive b (.fam g) = true) (hmv : m bv = some ev) (hxv : aw.heap.get bv = some (.cells lv .own))
    (hv : aw.load bv ov k = some vs) (hc : aw.load b off n = some cs) (h1 : allOne vs = true) (h2 : allOne cs = true) (hcp : n ≤ cp) (htot : e.s + off + cp = e.tot) :
    Calls P f #[.slice (some ⟨e.c, e.s + off, none⟩) n cp, .int .i64 i, .slice (some ⟨ev.c, ev.s + ov, none⟩) k vc] w fun r w' =>
      ∃ v' m', r = .returned v' ∧ VR m' (.slice aw.next 0 (n + k) (.upTo 1)) v' ∧ R (aw.reborn g (cs.take i ++ vs ++ cs.drop i)) w' m' base ∧ Goes aw (aw.reborn g (cs.take i ++ vs ++ cs.drop i)) w w' m m' := by
  obtain ⟨ys, y1, y2, y3⟩ := load_cells hR hm hc
  obtain ⟨zs, z1, z2, z3⟩ := load_cells hR hmv hv
  obtain ⟨cur, t, lo, hi, p1, p2, p3, p4, p5⟩ := hR.blk b e _ hm hx hal
  obtain ⟨curv, tv, lov, hiv, q1, q2, q3, q4, q5⟩ := hR.blk bv ev _ hmv hxv rfl
  have hlv : lov = hiv := (q4.resolve_left (by simp)).elim id (fun h => absurd rfl h.1)
  have hlt := hR.lt b e hm
  have hnone := next_none hR
  have hec : ev.c ≠ e.c := fun hec => by
    have := hR.apart bv ev _ b e _ hmv hxv hm hx rfl hal hne hec
    simp [Blk.mates] at this
  have ycur : ∀ j v, ys[j]? = some v → cur[e.s + off + j]? = some v := fun j v hj => by
    have := y3 j v hj
    rwa [Addr.add_lit, cell_of p1] at this
  have hcl : cs.length = n := by have := y2.length; omega
  have hvl : vs.length = k := by have := z2.length; omega
  have hl2 : (cs.take i ++ vs ++ cs.drop i).length = n + k := by simp; omega
  have hVR : VRs m (cs.take i ++ vs ++ cs.drop i) (ys.take i ++ zs ++ ys.drop i) := (y2.take.append z2).append y2.drop
  have o1 := allOne_ok y2 h2
  have o2 := allOne_ok z2 h1
  by_cases hroom : n + k ≤ cp
  · refine (hs e.c (e.s + off) n cp i ev.c (ev.s + ov) k vc ys zs w hin hk hroom (by omega) hec y1 z1 (fun j v hj => by rw [cell_of p1]; exact ycur j v hj) (fun j hj => by rw [cell_of p1, Array.getElem?_eq_getElem (by omega)]; rfl)
      (fun j hj => frozen_of p1 ((p4.resolve_left (by simp)).imp id (fun h => by omega))) (fun j v hj => by have := z3 j v hj; rwa [Addr.add_lit] at this) o1 o2 tv t curv.size cur.size (by simp [World.shape?, q1]) (by simp [World.shape?, p1]) (by omega)
      (frozen_of q1 (.inl hlv)) (frozen_of q1 (.inl hlv))).mono ?_
    rintro r w' ⟨rfl, rfl⟩
    have hdl : (ys.drop i).length = n - i := by rw [List.length_drop, y1]
    obtain ⟨cur1, a1, a2, a3⟩ := setCells_obj e.c t (lo, hi) (ys.drop i) (e.s + off + (i + k)) cur w.drew p1 (by omega)
    obtain ⟨cur2, b1, b2, b3⟩ := setCells_obj e.c t (lo, hi) zs (e.s + off + i) cur1 (setObjW w.drew e.c (.cells cur1 t (lo, hi))) (setObjW_same hlt.2) (by omega)
    rw [a1, b1, setObj_twice]
    have hre := hR.reborn (w' := setObjW w.drew e.c (.cells cur2 t (lo, hi))) (en := ⟨e.c, e.s + off, e.tot⟩) (l2 := cs.take i ++ vs ++ cs.drop i) hm hx hal (by rw [size_setObjW]; exact Nat.le_refl _) (by rw [size_setObjW]; exact hlt.2) rfl rfl rfl (.inl rfl)
      (fun c hc hne => by rw [setObjW_ne hne]; rfl) (by
        intro _
        refine ⟨cur2, t, lo, hi, setObjW_same hlt.2, by show cur2.size = e.tot; omega, by rw [hl2]; show e.s + off + (n + k) ≤ e.tot; omega, .inr ((p4.resolve_left (by simp)).imp id (fun h => ⟨by simp, by omega⟩)), fun j x hj => ?_⟩
        obtain ⟨y, k1, k2⟩ := hVR.get hj
        refine ⟨y, ?_, k2.mono (Map.le_set hnone)⟩
        rw [mid_get (by omega)] at k1
        show cur2[e.s + off + j]? = some y
        rw [b3, a3]
        by_cases c1 : j < i
        · rw [if_pos c1] at k1
          rw [if_neg (by omega), if_neg (by omega)]
          exact ycur j y k1
        · rw [if_neg c1] at k1
          by_cases c2 : j < i + zs.length
          · rw [if_pos c2] at k1
            rw [if_pos (by omega), show e.s + off + j - (e.s + off + i) = j - i from by omega]
            exact k1
          · rw [if_neg c2] at k1
            have hjl : j < n + k := by have := (List.getElem?_eq_some_iff.1 hj).1; omega
            rw [if_neg (by omega), if_pos (by omega), List.getElem?_drop, show i + (e.s + off + j - (e.s + off + (i + k))) = j - zs.length from by omega]
            exact k1)
    exact ⟨_, _, rfl, ⟨_, Map.set_same _ _ _, _, _, rfl, hroom, .inl ⟨rfl, by show e.s + off + 0 + cp * 1 = e.tot; omega⟩⟩, hre.1, hre.2⟩
  · refine (hg e.c (e.s + off) n cp i ev.c (ev.s + ov) k vc ys zs w hin hk hcp (by omega) (by omega) y1 z1 (fun j v hj => by rw [cell_of p1]; exact ycur j v hj) (fun j v hj => by have := z3 j v hj; rwa [Addr.add_lit] at this) o1 o2).mono ?_
    rintro r w' ⟨rfl, rfl⟩
    have hdl : (ys.drop i).length = n - i := by rw [List.length_drop, y1]
    have hge := grownCap_ge w (n + k) cp te
    generalize grownCap w (n + k) cp te = G at hge ⊢
    have hrow : ((ys.take i).toArray ++ Builtin.zeroCells zero.cells (n + k - i) ++ Builtin.zeroCells zero.cells (G - (n + k))).size = G := by
      simp only [Array.size_append, size_zero, hz, List.size_toArray, List.length_take]
      omega
    have hfront : ∀ j, j < i → ((ys.take i).toArray ++ Builtin.zeroCells zero.cells (n + k - i) ++ Builtin.zeroCells zero.cells (G - (n + k)))[j]? = ys[j]? := fun j hj => by
      have ht : (ys.take i).length = i := by rw [List.length_take]; omega
      rw [Array.append_assoc, Array.getElem?_append_left (by simp; omega), List.getElem?_toArray, List.getElem?_take, if_pos hj]
    generalize ((ys.take i).toArray ++ Builtin.zeroCells zero.cells (n + k - i) ++ Builtin.zeroCells zero.cells (G - (n + k))) = row at hrow hfront ⊢
    have hW : (w.alloc (.cells row te)).heap[w.heap.size]? = some (.cells row te (0, 0)) := heap_new w _
    obtain ⟨cur1, a1, a2, a3⟩ := setCells_obj w.heap.size te (0, 0) zs i row (w.alloc (.cells row te)).drew hW (by omega)
    have hH : w.heap.size < (w.alloc (.cells row te)).heap.size := by show w.heap.size < (w.heap.push _).size; simp
    obtain ⟨cur2, b1, b2, b3⟩ := setCells_obj w.heap.size te (0, 0) (ys.drop i) (i + k) cur1 (setObjW (w.alloc (.cells row te)).drew w.heap.size (.cells cur1 te (0, 0))).drew (setObjW_same hH) (by omega)
    rw [a1, b1]
    have hre := hR.reborn (w' := setObjW (setObjW (w.alloc (.cells row te)).drew w.heap.size (.cells cur1 te (0, 0))).drew w.heap.size (.cells cur2 te (0, 0))) (en := ⟨w.heap.size, 0, G⟩) (l2 := cs.take i ++ vs ++ cs.drop i) hm hx hal
      (by rw [size_setObjW]; show _ ≤ (setObjW (w.alloc (.cells row te)).drew w.heap.size (.cells cur1 te (0, 0))).heap.size; rw [size_setObjW]; exact Nat.le_of_lt hH) (by rw [size_setObjW]; show _ < (setObjW (w.alloc (.cells row te)).drew w.heap.size (.cells cur1 te (0, 0))).heap.size; rw [size_setObjW]; exact hH) rfl rfl rfl (.inr (Nat.le_refl _))
      (fun c hc hne => by
        rw [setObjW_ne (by omega)]
        show (setObjW (w.alloc (.cells row te)).drew w.heap.size (.cells cur1 te (0, 0))).heap[c]? = _
        rw [setObjW_ne (by omega)]
        exact heap_old w _ hc) (by
        intro _
        refine ⟨cur2, te, 0, 0, setObjW_same (by show _ < (setObjW (w.alloc (.cells row te)).drew w.heap.size (.cells cur1 te (0, 0))).heap.size; rw [size_setObjW]; exact hH), by show cur2.size = G; omega, by rw [hl2]; show 0 + (n + k) ≤ G; omega, .inr (.inl rfl), fun j x hj => ?_⟩
        obtain ⟨y, k1, k2⟩ := hVR.get hj
        refine ⟨y, ?_, k2.mono (Map.le_set hnone)⟩
        rw [mid_get (by omega)] at k1
        show cur2[0 + j]? = some y
        rw [Nat.zero_add, b3, a3]
        by_cases c1 : j < i
        · rw [if_pos c1] at k1
          rw [if_neg (by omega), if_neg (by omega), hfront j c1]
          exact k1
        · rw [if_neg c1] at k1
          by_cases c2 : j < i + zs.length
          · rw [if_pos c2] at k1
            rw [if_neg (by omega), if_pos (by omega)]
            exact k1
          · rw [if_neg c2] at k1
            have hjl : j < n + k := by have := (List.getElem?_eq_some_iff.1 hj).1; omega
            rw [if_pos (by omega), List.getElem?_drop, show i + (j - (i + k)) = j - zs.length from by omega]
            exact k1)
    exact ⟨_, _, rfl, ⟨_, Map.set_same _ _ _, _, _, rfl, hge, .inl ⟨rfl, by show 0 + 0 + G * 1 = G; omega⟩⟩, hre.1, hre.2⟩
theorem insFam_ok (hs : InsShift P f) (hg : InsGrow P f te zero bytes) (hz : zero.cells.size = 1) (hR : R aw w m base) {b bv off n i ov k vc : Nat} {lv vs cs : List V}
    (hin : i < n) (hk : 0 < k) (hb1 : (n + k) * bytes ≤ 70368744177664) (hb2 : n + k ≤ 70368744177664) (hne : bv ≠ b) (hxv : aw.heap.get bv = some (.cells lv .own))
    (hv : aw.load bv ov k = some vs) (hc : aw.load b off n = some cs) (h1 : allOne vs = true) (h2 : allOne cs = true) {x y : Value} (hx' : VR m (.slice b off n (.upTo 1)) x) (hy' : VR m (.slice bv ov k (.known vc)) y)
    {v : V} {aw' : AW} (h : aw.insFam b n k (cs.take i ++ vs ++ cs.drop i) = some (v, aw')) :
    Calls P f #[x, .int .i64 i, y] w fun r w' => ∃ v' m', r = .returned v' ∧ VR m' v v' ∧ R aw' w' m' base ∧ Goes aw aw' w w' m m' := by
  unfold AW.insFam at h
  split at h
  · rename_i l g hx
    cases h
    obtain ⟨e, hm, ad, cp, rfl, hcp, hcase⟩ := hx'
    obtain ⟨ev, hmv, rfl⟩ := hy'
    have hal : aw.alive b (.fam g) = true := by
      unfold AW.load at hc
      rw [hx] at hc
      simp only [] at hc
      split at hc
      · assumption
      · cases hc
    rcases hcase with ⟨rfl, htot⟩ | h0
    · exact ins_core hs hg hz hR hin hk hb1 hb2 hne hm hx hal hmv hxv hv hc h1 h2 hcp (by omega)
    · omega
  · cases h
theorem insPrim_ok (hs : InsShift P f) (hg : InsGrow P f te zero bytes) (hz : zero.cells.size = 1) {args : List V} {v : V} {aw' : AW} (h : insPrim bytes args aw = some (v, aw')) (w : World) (m : Map) (base : Nat) (args' : Array Value) (hR : R aw w m base) (hargs : VRs m args args'.toList) :
    Calls P f args' w fun r w' => ∃ v' m', r = .returned v' ∧ VR m' v v' ∧ R aw' w' m' base ∧ Goes aw aw' w w' m m' := by
  unfold insPrim at h
  split at h
  · rename_i b off n i bv ov k vc
    obtain ⟨x, r1, e1, hx', y1, r2, rfl, e2, y, r3, rfl, hy', rfl⟩ := hargs
    obtain rfl : y1 = .int .i64 (.ofNat i) := e2
    obtain rfl : args' = #[x, .int .i64 (.ofNat i), y] := by cases args'; simp_all
    split at h
    · rename_i c1 c2 c3 c4 c5
      have d1 : i < n := Nat.blt_eq.mp c1
      have d2 : 0 < k := Nat.blt_eq.mp c2
      have d3 := Nat.le_of_ble_eq_true c3
      have d4 := Nat.le_of_ble_eq_true c4
      have d5 : bv ≠ b := fun hh => by rw [hh, Nat.beq_refl] at c5; cases c5
      split at h
      · rename_i lv vs cs hxv hv hc
        split at h
        · rename_i a1 a2
          have lax : ∀ l, aw.heap.get b = some (.cells l .own) ∨ aw.heap.get b = some (.cells l .lax) → (aw.found b l).alive b (.fam aw.next) = true → (aw.found b l).insFam b n k (cs.take i ++ vs ++ cs.drop i) = some (v, aw') →
              Calls P f #[x, .int .i64 (.ofNat i), y] w fun r w' => ∃ v' m', r = .returned v' ∧ VR m' v v' ∧ R aw' w' m' base ∧ Goes aw aw' w w' m m' := by
            intro l hl halive h
            obtain ⟨e, hm, _⟩ := id hx'
            obtain ⟨f1, f2⟩ : R (aw.found b l) w m base ∧ Goes aw (aw.found b l) w w m m := by
              rcases hl with hl | hl
              · exact hR.found hm hl
              · exact hR.foundLax hm hl
            have hlt := (hR.lt b e hm).1
            have hxv' : (aw.found b l).heap.get bv = some (.cells lv .own) := by simp only [AW.found]; rw [T.get_put_ne d5]; exact hxv
            have hb' : (aw.found b l).heap.get b = some (.cells l (.fam aw.next)) := by
              unfold AW.insFam at h
              split at h
              · rename_i l' g hg'
                rcases T.get_put hg' with ⟨_, hh⟩ | ⟨hh, _⟩
                · rw [hg']; cases hh; rfl
                · exact absurd rfl hh
              · cases h
            have hcap : aw.heap.get b = some (.cells l .own) ∨ aw.heap.get b = some (.cells l .lax) := hl
            have hv' : (aw.found b l).load bv ov k = some vs := by
              unfold AW.load at hv ⊢
              rw [hxv] at hv; rw [hxv']
              exact hv
            have hc' : (aw.found b l).load b off n = some cs := by
              unfold AW.load at hc ⊢
              rw [hb']
              simp only [halive]
              rcases hl with hl | hl <;> (rw [hl] at hc; exact hc)
            refine (insFam_ok hs hg hz f1 d1 d2 d3 d4 d5 hxv' hv' hc' a1 a2 hx' hy' h).mono ?_
            rintro r w' ⟨v', m', e1, e2, e3, e4⟩
            exact ⟨v', m', e1, e2, e3, Goes.trans hR f2 e4⟩
          split at h
          · exact insFam_ok hs hg hz hR d1 d2 d3 d4 d5 hxv hv hc a1 a2 hx' hy' h
          · rename_i l hl
            split at h
            · rename_i ha; exact lax l (.inl hl) ha h
            · cases h
          · rename_i l hl
            split at h
            · rename_i ha; exact lax l (.inr hl) ha h
            · cases h
          · cases h
        · cases h
      · cases h
    · cases h
  · cases h
end
end Go.AE
