/- AE, part 26: the abstract steps are good for the model's. -/
import Derived.Test.YtjidefnbancmfaaAe25
set_option linter.unusedVariables false
set_option linter.unusedSimpArgs false
namespace Go.AE

section
variable {P : Program} {tab : Tab}

/-- what code compiles to so. -/
def CodeIs (P : Program) (N : Nat) (code : Code) : ACode → Prop
  | .skip => code = .skip
  | .region l => ∃ id ops, code = .region id ops false ∧ cOpers P N ops ops.toList = some l
  | .drawn l => ∃ id ops, code = .region id ops true ∧ cDrawn P N ops = some l
  | .seq x y => ∃ a b, code = .seq a b ∧ cCode P N a = some x ∧ cCode P N b = some y
  | .cond c x y => ∃ o a b, code = .cond o a b ∧ cOpd o = some c ∧ cCode P N a = some x ∧ cCode P N b = some y
  | .block id x => ∃ b, code = .block id b ∧ cCode P N b = some x
  | .loop x => ∃ b, code = .loop b ∧ cCode P N b = some x
  | .exit id => code = .exit id
  | .scope x => ∃ b, code = .scope b ∧ cCode P N b = some x
  | .ret => code = .ret
theorem cCode_inv {N : Nat} {code : Code} {c : ACode} (h : cCode P N code = some c) : CodeIs P N code c := by
  unfold cCode at h
  split at h
  · cases h; rfl
  · split at h
    · cases h; rename_i hl; exact ⟨_, _, rfl, hl⟩
    · cases h
  · split at h
    · cases h; rename_i hl; exact ⟨_, _, rfl, hl⟩
    · cases h
  · split at h
    · cases h; rename_i h1 h2; exact ⟨_, _, rfl, h1, h2⟩
    · cases h
  · split at h
    · cases h; rename_i h1 h2 h3; exact ⟨_, _, _, rfl, h1, h2, h3⟩
    · cases h
  · split at h
    · cases h; rename_i h1; exact ⟨_, rfl, h1⟩
    · cases h
  · split at h
    · cases h; rename_i h1; exact ⟨_, rfl, h1⟩
    · cases h
  · cases h; rfl
  · split at h
    · cases h; rename_i h1; exact ⟨_, rfl, h1⟩
    · cases h
  · cases h; rfl
  · cases h

theorem GoodX.mk' {c : ACode} {fr : Fr} {aw : AW} {e : AExit} {fr' : Fr} {aw' : AW} (hl : ∀ b, c ≠ .loop b)
    (h : ∀ (code : Code) (N : Nat), CodeIs P N code c → ∀ (a : Act) (w : World) (m : Map) (base : Nat) (Q : Exit → Act → World → Prop), FR m N fr a.tmps → R aw w m base → Post N a aw w m base fr' aw' (Q (toExit e)) → code.wp P Q a w) : GoodX P c fr aw e fr' aw' :=
  ⟨fun code N hc => h code N (cCode_inv hc), fun b hb => absurd hb (hl b)⟩
theorem GoodX.mkL {c : ACode} {fr : Fr} {aw : AW} {e : AExit} {fr' : Fr} {aw' : AW}
    (h : ∀ (code : Code) (N : Nat), cCode P N code = some c → ∃ n, ∀ (a : Act) (w : World) (m : Map) (base : Nat) (Q : Exit → Act → World → Prop), FR m N fr a.tmps → R aw w m base → Post N a aw w m base fr' aw' (Q (toExit e)) → Code.rounds P code Q n a w) : GoodX P (.loop c) fr aw e fr' aw' := by
  refine ⟨fun code N hc a w m base Q hfr hR hp => ?_, fun b hb code N hc => ?_⟩
  · obtain ⟨b, rfl, hb⟩ := cCode_inv hc
    obtain ⟨n, hn⟩ := h b N hb
    exact wp_loop_rounds n (hn a w m base Q hfr hR hp)
  · cases hb; exact h code N hc

theorem Post.imp {N : Nat} {a : Act} {aw : AW} {w : World} {m : Map} {base : Nat} {fr : Fr} {aw' : AW} {K K' : Act → World → Prop} (h : Post N a aw w m base fr aw' K) (hk : ∀ a w, K a w → K' a w) : Post N a aw w m base fr aw' K' :=
  fun a' w' m' h1 h2 h3 h4 => hk _ _ (h a' w' m' h1 h2 h3 h4)

theorem code_ok (T : TabOK P tab) {f : Nat} {args : List V} {aw : AW} {af : AFun} {e : AExit} {fr' : Fr} {aw' : AW} {vs : List V} (ht : tab.code f = some af) (hn : args.length ≤ af.ntmps)
    (ih : GoodX P af.body (initFr args 0) aw e fr' aw') (he : e = .normal ∨ e = .ret) (hr : resV fr' aw' af.results = some vs) : GoodC P f args aw (resOne vs) aw' := by
  obtain ⟨fn, c, h1, h2, h3⟩ := T.code f af ht
  unfold cFun at h3
  rw [h2] at h3
  simp only at h3
  split at h3
  · rename_i x r hx hres
    split at h3
    · cases h3
    · rename_i hname
      cases h3
      refine ⟨⟨fn, h1, by rw [h2]; rfl, hname⟩, fun w m base args' hR hargs => ?_⟩
      have hlen := hargs.length
      refine calls_of_wp h1 h2 (ih.1 c fn.ntmps hx _ w m base _ ?_ hR ?_)
      · refine ⟨?_, fun d v hd => ?_⟩
        · simp only [Array.size_append, Array.size_replicate]
          have : args.length = args'.size := by simpa using hlen.symm
          simp only at hn
          omega
        · obtain ⟨_, q2⟩ := initFr_ok (m := m) hd
          obtain ⟨v', k1, k2⟩ := hargs.get q2
          refine ⟨v', ?_, k2⟩
          simp only [Nat.sub_zero, Array.getElem?_toList] at k1
          have hd' : d < args'.size := by
            rcases Nat.lt_or_ge d args'.size with h | h
            · exact h
            · rw [Array.getElem?_eq_none h] at k1; cases k1
          rw [Array.getElem?_append_left hd']; exact k1
      · intro a' w' m' q1 q2 q3 q4
        obtain ⟨v', k1, k2⟩ := results_ok q3 q1 hres hr
        have : bodyPost P fn (fun e w' => ∃ v' m', e = .returned v' ∧ VR m' (resOne vs) v' ∧ R aw' w' m' base ∧ Goes aw aw' w w' m m') .ret a' w' := ⟨q2, v', k1, v', m', rfl, k2, q3, q4⟩
        rcases he with rfl | rfl <;> exact this
  · cases h3

theorem cOpers_len {N : Nat} {ops : Array Oper} : ∀ {l : List Oper} {r : List AOper}, cOpers P N ops l = some r → r.length = l.length ∧ ∀ (i : Nat) (x : AOper), r[i]? = some x → ∃ o, l[i]? = some o ∧ cOper P N ops o = some x
  | [], r, h => by cases h; exact ⟨rfl, fun i x h => by simp at h⟩
  | o :: l, r, h => by
    simp only [cOpers] at h
    split at h
    · rename_i a ha
      split at h
      · rename_i q hq
        cases h
        obtain ⟨h1, h2⟩ := cOpers_len hq
        refine ⟨by simp [h1], fun i x hx => ?_⟩
        cases i with
        | zero => simp at hx; subst hx; exact ⟨o, rfl, ha⟩
        | succ i => obtain ⟨o', q1, q2⟩ := h2 i x (by simpa using hx); exact ⟨o', by simpa using q1, q2⟩
      · cases h
    · cases h
theorem cDrawn_inv {N : Nat} {ops : Array Oper} {l : List DOper} (h : cDrawn P N ops = some l) : l.length = ops.size ∧ dOK l (aftersOf ops) = true ∧ ∀ (i : Nat) (d : DOper), l[i]? = some d → ∃ o', ops[i]? = some o' ∧ cOper P N ops o' = some d.op := by
  unfold cDrawn at h
  split at h
  · rename_i lo hlo
    simp only [] at h
    split at h
    · rename_i hb
      simp only [Bool.and_eq_true] at hb
      cases h
      refine ⟨Nat.eq_of_beq_eq_true hb.1, hb.2, fun i d hd => ?_⟩
      obtain ⟨_, h2⟩ := cOpers_len hlo
      simp only [List.getElem?_map, List.getElem?_zipIdx, Option.map_map, Option.map_eq_some_iff, Function.comp] at hd
      obtain ⟨⟨o, anc⟩, hz, rfl⟩ := hd
      rw [List.getElem?_zip_eq_some] at hz
      obtain ⟨o', q1, q2⟩ := h2 i o hz.1
      exact ⟨o', by simpa using q1, q2⟩
    · cases h
  · cases h
theorem drawn_ok {N : Nat} {ops : Array Oper} {id : Nat} {l : List DOper} {st : List Stp} {fr fr' : Fr} {aw aw' : AW} (hm : P.follows .mixedOrders = true) (hc : cDrawn P N ops = some l) (hG : PassG P l fr aw st fr' aw') (hA : drawnOK l st = true)
    {a : Act} {w : World} {m : Map} {base : Nat} {Q : Exit → Act → World → Prop} (hfr : FR m N fr a.tmps) (hR : R aw w m base) (hp : Post N a aw w m base fr' aw' (Q .normal)) : (Code.region id ops true).wp P Q a w := by
  obtain ⟨h1, h2, h3⟩ := cDrawn_inv hc
  have hR' : R aw w.drew m base := hR.drew
  refine wp_region_any hm (any_ok hG (dFacts h2) hA h1 h3 hR' Q (hp.trans hR rfl (Goes.drew aw w m)) ops.size _ a _ m aw (by simp) ?_ (by simp [unl_replicate]) ?_)
  · intro i d x hi
    unfold LD at hi
    exfalso
    rw [Array.getD_eq_getD_getElem?, Array.getElem?_replicate] at hi
    split at hi <;> simp at hi
  · have hno : ∀ i, ¬ LD (Array.replicate ops.size false) i := by
      intro i hi
      unfold LD at hi
      rw [Array.getD_eq_getD_getElem?, Array.getElem?_replicate] at hi
      split at hi <;> simp at hi
    refine ⟨hR', .refl _ _ _, rfl, hfr.1, fun y v hs => ?_, .inl ⟨fun e de he => absurd he (hno e), rfl⟩⟩
    rcases hs with ⟨k, _, _, hk, _⟩ | ⟨_, h⟩
    · exact absurd hk (hno k)
    · exact hfr.2 y v h

theorem exec_ok (T : TabOK P tab) {c : ACode} {fr : Fr} {aw : AW} {e : AExit} {fr' : Fr} {aw' : AW} (h : Exec tab c fr aw e fr' aw') : GoodX P c fr aw e fr' aw' := by
  refine Exec.rec (tab := tab) (motive_1 := fun c fr aw e fr' aw' _ => GoodX P c fr aw e fr' aw') (motive_2 := fun l fr aw fr' aw' _ => GoodO P l fr aw fr' aw')
    (motive_3 := fun l fr aw st fr' aw' _ => (∀ d ∈ l, d.eff = true ∨ d.op.op.quiet = true) → PassG P l fr aw st fr' aw')
    (motive_4 := fun o fr aw v aw1 _ => OneG P o fr aw v aw1) (motive_5 := fun f args aw v aw' _ => GoodC P f args aw v aw') ?skip ?region ?drawn ?seq ?seqE ?seqR ?condT ?condF ?block ?blockX ?blockE ?blockR ?loop ?loopE ?loopR ?exit ?scope ?ret ?nil ?cons ?pnil ?pcons ?opass ?oval ?oskip ?ocall ?oext ?code ?prim h
  case skip =>
    intro fr aw
    refine GoodX.mk' (by intro b hb; cases hb) fun code N hc a w m base Q hfr hR hp => ?_
    cases hc
    exact wp_skip (hp.now hR hfr)
  case region =>
    intro l fr aw fr' aw' _ ih
    refine GoodX.mk' (by intro b hb; cases hb) fun code N hc a w m base Q hfr hR hp => ?_
    obtain ⟨id, ops, rfl, hl⟩ := hc
    refine wp_region (ih ops N _ ?_ a w m base Q hfr hR hp)
    have := cOpers_at (k := 0) hl (fun j => by simp)
    rwa [Array.length_toList, ← List.range_eq_range'] at this
  case drawn =>
    intro l fr aw st fr' aw' _ hA ih
    refine GoodX.mk' (by intro b hb; cases hb) fun code N hc a w m base Q hfr hR hp => ?_
    obtain ⟨id, ops, rfl, hl⟩ := hc
    obtain ⟨h1, h2, h3⟩ := cDrawn_inv hl
    refine drawn_ok T.mixed hl (ih fun d hd => ?_) hA hfr hR hp
    obtain ⟨i, hi⟩ := List.mem_iff_getElem?.1 hd
    obtain ⟨_, _, _, _, hq⟩ := (dFacts h2).after i d hi
    exact hq
  case seq =>
    intro x y fr aw fr1 aw1 e fr2 aw2 _ _ i1 i2
    refine GoodX.mk' (by intro b hb; cases hb) fun code N hc a w m base Q hfr hR hp => ?_
    obtain ⟨ca, cb, rfl, h1, h2⟩ := hc
    refine wp_seq (i1.1 ca N h1 a w m base _ hfr hR fun a' w' m' q1 q2 q3 q4 => ?_)
    exact i2.1 cb N h2 a' w' m' base _ q1 q3 (hp.trans hR q2 q4)
  case seqE =>
    intro x y fr aw id fr1 aw1 _ i1
    refine GoodX.mk' (by intro b hb; cases hb) fun code N hc a w m base Q hfr hR hp => ?_
    obtain ⟨ca, cb, rfl, h1, h2⟩ := hc
    exact wp_seq (i1.1 ca N h1 a w m base _ hfr hR hp)
  case seqR =>
    intro x y fr aw fr1 aw1 _ i1
    refine GoodX.mk' (by intro b hb; cases hb) fun code N hc a w m base Q hfr hR hp => ?_
    obtain ⟨ca, cb, rfl, h1, h2⟩ := hc
    exact wp_seq (i1.1 ca N h1 a w m base _ hfr hR hp)
  case condT =>
    intro c x y fr aw e fr1 aw1 hv _ i1
    refine GoodX.mk' (by intro b hb; cases hb) fun code N hc a w m base Q hfr hR hp => ?_
    obtain ⟨o, ca, cb, rfl, h0, h1, h2⟩ := hc
    exact wp_cond_true (cOpd_ok hfr h0 hv) (i1.1 ca N h1 a w m base _ hfr hR hp)
  case condF =>
    intro c x y fr aw e fr1 aw1 hv _ i1
    refine GoodX.mk' (by intro b hb; cases hb) fun code N hc a w m base Q hfr hR hp => ?_
    obtain ⟨o, ca, cb, rfl, h0, h1, h2⟩ := hc
    exact wp_cond_false (cOpd_ok hfr h0 hv) (i1.1 cb N h2 a w m base _ hfr hR hp)
  case block =>
    intro id x fr aw fr1 aw1 _ i1
    refine GoodX.mk' (by intro b hb; cases hb) fun code N hc a w m base Q hfr hR hp => ?_
    obtain ⟨ca, rfl, h1⟩ := hc
    exact wp_block (i1.1 ca N h1 a w m base _ hfr hR hp)
  case blockX =>
    intro id x fr aw fr1 aw1 _ i1
    refine GoodX.mk' (by intro b hb; cases hb) fun code N hc a w m base Q hfr hR hp => ?_
    obtain ⟨ca, rfl, h1⟩ := hc
    refine wp_block (i1.1 ca N h1 a w m base _ hfr hR (hp.imp fun a w hq => ?_))
    simp only [toExit, Exit.inBlock, if_true]
    exact hq
  case blockE =>
    intro id id' x fr aw fr1 aw1 _ hne i1
    refine GoodX.mk' (by intro b hb; cases hb) fun code N hc a w m base Q hfr hR hp => ?_
    obtain ⟨ca, rfl, h1⟩ := hc
    refine wp_block (i1.1 ca N h1 a w m base _ hfr hR (hp.imp fun a w hq => ?_))
    simp only [toExit, Exit.inBlock, if_neg hne]
    exact hq
  case blockR =>
    intro id x fr aw fr1 aw1 _ i1
    refine GoodX.mk' (by intro b hb; cases hb) fun code N hc a w m base Q hfr hR hp => ?_
    obtain ⟨ca, rfl, h1⟩ := hc
    exact wp_block (i1.1 ca N h1 a w m base _ hfr hR hp)
  case loop =>
    intro x fr aw fr1 aw1 e fr2 aw2 _ _ i1 i2
    refine GoodX.mkL fun code N hc => ?_
    obtain ⟨n, hn⟩ := i2.2 x rfl code N hc
    refine ⟨n + 1, fun a w m base Q hfr hR hp => ?_⟩
    rw [rounds_succ]
    refine i1.1 code N hc a w m base _ hfr hR fun a' w' m' q1 q2 q3 q4 => ?_
    exact hn a' w' m' base Q q1 q3 (hp.trans hR q2 q4)
  case loopE =>
    intro x fr aw id fr1 aw1 _ i1
    refine GoodX.mkL fun code N hc => ⟨1, fun a w m base Q hfr hR hp => ?_⟩
    rw [rounds_succ]
    exact i1.1 code N hc a w m base _ hfr hR hp
  case loopR =>
    intro x fr aw fr1 aw1 _ i1
    refine GoodX.mkL fun code N hc => ⟨1, fun a w m base Q hfr hR hp => ?_⟩
    rw [rounds_succ]
    exact i1.1 code N hc a w m base _ hfr hR hp
  case exit =>
    intro id fr aw
    refine GoodX.mk' (by intro b hb; cases hb) fun code N hc a w m base Q hfr hR hp => ?_
    cases hc
    exact wp_exit (hp.now hR hfr)
  case scope =>
    intro x fr aw e fr1 aw1 _ i1
    refine GoodX.mk' (by intro b hb; cases hb) fun code N hc a w m base Q hfr hR hp => ?_
    obtain ⟨ca, rfl, h1⟩ := hc
    refine wp_scope_straight (i1.1 ca N h1 a w m base _ hfr hR (hp.imp fun a w hq => ?_))
    cases e <;> exact hq
  case ret =>
    intro fr aw
    refine GoodX.mk' (by intro b hb; cases hb) fun code N hc a w m base Q hfr hR hp => ?_
    cases hc
    exact wp_ret (hp.now hR hfr)
  case nil =>
    intro fr aw ops N is hat a w m base Q hfr hR hp
    cases hat
    exact hp.now hR hfr
  case cons =>
    intro o l fr aw v aw1 fr' aw' _ _ h1 ih ops N is hat a w m base Q hfr hR hp
    obtain ⟨i, r, o', rfl, ho, hc, hat⟩ := hat
    rw [wpOps_cons]
    refine h1.1 ops N i o' ho hc a w m base Q _ hfr hR fun w' m' v' q1 q2 q3 => ?_
    obtain ⟨_, _, g3, g4⟩ := cOper_inv hc
    exact ih ops N r hat _ w' m' base Q ((hfr.mono q3.le).put (by rw [g3]; exact g4) q1) q2 (hp.trans hR put_defers q3)
  case pnil =>
    intro fr aw _
    exact .nil
  case pcons =>
    intro d l fr aw v aw1 st fr' aw' _ _ h1 ih hq
    exact .cons (hq d (by simp)) h1 (ih fun d' hd' => hq d' (by simp [hd']))
  case opass =>
    intro o fr aw hw
    exact ⟨goodOne_pass hw, fun _ => rfl, fun _ => rfl⟩
  case oval =>
    intro o fr aw v aw1 hw ha
    exact ⟨goodOne_val hw ha, fun hq => (quiet_ok hq ha).1, fun h => by rw [hw] at h; cases h⟩
  case oskip =>
    intro o fr aw aw1 hw ha
    exact ⟨goodOne_skip hw ha, fun hq => (quiet_ok hq ha).1, fun _ => rfl⟩
  case ocall =>
    intro o fr aw f args aw0 v aw1 hw ha _ hg
    refine ⟨goodOne_call hw ha hg, fun hq => ?_, fun h => by rw [hw] at h; cases h⟩
    obtain ⟨_, v, h⟩ := quiet_ok hq ha
    cases h
  case oext =>
    intro o fr aw f args aw0 v hw ha hx
    refine ⟨goodOne_ext T hw ha hx, fun hq => (quiet_ok hq ha).1, fun h => by rw [hw] at h; cases h⟩
  case code =>
    intro f args aw af e fr' aw' vs ht hn _ he hr ih
    exact code_ok T ht hn ih he hr
  case prim =>
    intro f args aw v aw' hp
    exact T.prim f args aw v aw' hp

/-- a call that the abstract steps come through. -/
theorem callR_ok (T : TabOK P tab) {f : Nat} {args : List V} {aw : AW} {v : V} {aw' : AW} (h : CallR tab f args aw v aw') : GoodC P f args aw v aw' := by
  cases h with
  | prim hp => exact T.prim f args aw v aw' hp
  | code ht hn hx he hr =>
    exact code_ok T ht hn (exec_ok T hx) he hr
end
end Go.AE
