/- AE, part 20: every operation. -/
import Derived.Test.YtjidefnbancmfaaAe19
set_option linter.unusedVariables false
set_option linter.unusedSimpArgs false
namespace Go.AE

section
variable {P : Program} {o : Oper} {act : Act} {aw aw' : AW} {w : World} {m : Map} {base N : Nat} {fr : Fr}

theorem valOf_inv {q : Option V} {aw aw' : AW} {r : Res} (h : valOf q aw = some (r, aw')) : ∃ v, q = some v ∧ r = .val v ∧ aw' = aw := by
  unfold valOf at h
  split at h
  · cases h; exact ⟨_, rfl, rfl, rfl⟩
  · cases h
theorem call_ok (hfr : FR m N fr act.tmps) {c : Call} {f : Operand} {a : Opd} {as : List Opd} (ho : o.op = .call c) (hcal : c.callee = .value f) (hf : cOpd f = some a) (has : cOpds c.args.toList = some as)
    {g : Nat} {first args cap : List V} (h1 : a.ev fr = some (.func (.func g) first cap)) (h2 : evs fr as = some args) : OpOK P o act aw aw w m base (.call g (first ++ args ++ cap)) := by
  obtain ⟨f', c', e1, e2, e3⟩ := cOpd_ok hfr hf h1
  have e4 := cOpds_ok hfr has h2
  refine ⟨rfl, f' ++ c.args.map act.eval ++ c', ?_, ?_⟩
  · simp only [execOp, ho, resolve, hcal, e1, Deferred.ofValue, Sem.run_bind, Sem.run_pure, Result.andThen_ok, invoke]
  · simpa using (e2.append e4).append e3
theorem cBin_ok (hR : R aw w m base) (hfr : FR m N fr act.tmps) {op : BinOp} {t yt : TypeId} {x y : Operand} {ao : AOp} {r : Res} (ho : o.op = .binOp op t x y yt) (hc : cBin P op t x y = some ao) (h : aop ao fr aw = some (r, aw')) :
    OpOK P o act aw aw' w m base r := by
  unfold cBin at hc
  split at hc
  case h_2 => cases hc
  case h_1 =>
    rename_i a b ha hb
    have plain : ∀ {r aw'}, aop (.bin op a b) fr aw = some (r, aw') → OpOK P o act aw aw' w m base r := by
      intro r aw' h
      simp only [aop] at h
      split at h
      · rename_i va vb h1 h2
        obtain ⟨v, h3, rfl, rfl⟩ := valOf_inv h
        exact bin_ok hR hfr ho ha hb h1 h2 h3
      · cases h
    have eqs : ∀ {neg : Bool} {ty : EqTy} {r aw'}, op = (if neg then .neq else .eql) → eqTyOf P t ty → (ty = .iface → isNilIface x = true ∨ isNilIface y = true) → aop (.eqv neg ty a b) fr aw = some (r, aw') → OpOK P o act aw aw' w m base r := by
      intro neg ty r aw' hop ht hn h
      simp only [aop] at h
      split at h
      · rename_i va vb h1 h2
        split at h
        · rename_i q hq
          cases h
          exact eqv_ok hR hfr (by rw [ho, hop]) ha hb ht hn h1 h2 hq
        · cases h
      · cases h
    split at hc
    · cases hc; exact plain h
    · cases hc; exact plain h
    · rename_i d hd1 hd2 hu
      split at hc
      · cases hc
      · rename_i neg hneg
        have hop : op = (if neg then .neq else .eql) := by
          cases op <;> simp at hneg <;> subst hneg <;> rfl
        split at hc
        · cases hc; exact eqs (ty := .bool) hop hu (by simp) h
        · rename_i e
          split at hc
          · rename_i n hn
            cases hc; exact eqs (ty := .ptr) hop ⟨e, n, hu, hn⟩ (by simp) h
          · cases hc
        · rename_i e; cases hc; exact eqs (ty := .slice) hop ⟨e, hu⟩ (by simp) h
        · rename_i k e; cases hc; exact eqs (ty := .map) hop ⟨k, e, hu⟩ (by simp) h
        · rename_i p q e; cases hc; exact eqs (ty := .func) hop ⟨p, q, e, hu⟩ (by simp) h
        · rename_i ms
          split at hc
          · rename_i hn
            cases hc; exact eqs (ty := .iface) hop ⟨ms, hu⟩ (fun _ => by simpa using hn) h
          · cases hc
        · rename_i fs
          split at hc
          · rename_i l hst hg hf
            cases hc
            simp only [aop] at h
            split at h
            · rename_i va vb h1 h2
              split at h
              · rename_i q hq
                cases h
                exact eqAgg_ok hR hfr (by rw [ho, hop]) ha hb hu hst hg hf h1 h2 hq
              · cases h
            · cases h
          · cases hc
        · cases hc
    · cases hc
theorem minL_run : ∀ {v : V} {rest : List V} {r : V} {x : Value} {xs : List Value}, minL v rest = some r → VR m v x → VRs m rest xs → ∃ y, (xs.foldlM Builtin.min2 x).run P w = .ok y w ∧ VR m r y
  | v, [], r, x, xs, h, hv, hr => by
    have : r = v := by unfold minL at h; cases h; rfl
    subst this
    cases hr
    exact ⟨x, rfl, hv⟩
  | v, u :: rest, r, x, xs, h, hv, hr => by
    unfold minL at h
    split at h
    · rename_i heq; cases heq
    · rename_i k a k' b rest' heq
      cases heq
      obtain ⟨y, ys, rfl, h1, h2⟩ := hr
      cases hv; cases h1
      obtain ⟨y, q1, q2⟩ := minL_run h (x := .int k (if b < a then b else a)) rfl h2
      refine ⟨y, ?_, q2⟩
      simp only [List.foldlM_cons, Builtin.min2, Sem.run_bind, Sem.run_pure, Result.andThen_ok]
      exact q1
    · cases h
theorem maxL_run : ∀ {v : V} {rest : List V} {r : V} {x : Value} {xs : List Value}, maxL v rest = some r → VR m v x → VRs m rest xs → ∃ y, (xs.foldlM Builtin.max2 x).run P w = .ok y w ∧ VR m r y
  | v, [], r, x, xs, h, hv, hr => by
    have : r = v := by unfold maxL at h; cases h; rfl
    subst this
    cases hr
    exact ⟨x, rfl, hv⟩
  | v, u :: rest, r, x, xs, h, hv, hr => by
    unfold maxL at h
    split at h
    · rename_i heq; cases heq
    · rename_i k a k' b rest' heq
      cases heq
      obtain ⟨y, ys, rfl, h1, h2⟩ := hr
      cases hv; cases h1
      obtain ⟨y, q1, q2⟩ := maxL_run h (x := .int k (if a < b then b else a)) rfl h2
      refine ⟨y, ?_, q2⟩
      simp only [List.foldlM_cons, Builtin.max2, Sem.run_bind, Sem.run_pure, Result.andThen_ok]
      exact q1
    · cases h
theorem cBuiltin_ok (hR : R aw w m base) (hfr : FR m N fr act.tmps) {bi : Builtin} {args : Array Operand} {ts : Array TypeId} {ao : AOp} {r : Res} (ho : o.op = .call { callee := .builtin bi, args := args, argTypes := ts })
    (hc : cBuiltin P bi ts.toList args.toList = some ao) (h : aop ao fr aw = some (r, aw')) : OpOK P o act aw aw' w m base r := by
  unfold cBuiltin at hc
  split at hc
  · -- len
    rename_i t x hts hargs
    split at hc
    · rename_i a ha
      split at hc
      · rename_i hu
        cases hc
        simp only [aop] at h
        split at h
        · rename_i l h1; cases h; exact len_ok hR hfr ho hts hargs ha hu (.inl rfl) h1 (.inl ⟨⟨l, rfl, rfl⟩, rfl⟩)
        · cases h
      · rename_i e hu
        cases hc
        simp only [aop] at h
        split at h
        · rename_i b off n cap h1
          cases h; exact len_ok hR hfr ho hts hargs ha hu (.inr ⟨e, rfl⟩) h1 (.inr ⟨.inl ⟨b, off, cap, rfl⟩, e, rfl⟩)
        · rename_i h1
          cases h; exact len_ok hR hfr ho hts hargs ha hu (.inr ⟨e, rfl⟩) h1 (.inr ⟨.inr ⟨rfl, rfl⟩, e, rfl⟩)
        · cases h
      · rename_i hu
        cases hc
        simp only [aop] at h
        split at h
        · rename_i mv h1
          split at h
          · rename_i ob es ck h2
            cases h; exact lenMap_ok hR hfr ho hts hargs ha hu h1 h2
          · cases h
        · cases h
      · rename_i n e hu
        cases hc
        simp only [aop] at h
        cases h
        exact lenArr_ok hR ho hts hargs hu
      · cases hc
    · cases hc
  · -- cap
    rename_i t x hts hargs
    split at hc
    · rename_i a ha
      split at hc
      · rename_i e hu
        cases hc
        simp only [aop] at h
        split at h
        · rename_i b off n c h1
          cases h; exact cap_ok hR hfr ho hts hargs ha hu h1 (.inl ⟨b, off, n, rfl⟩)
        · rename_i h1
          cases h; exact cap_ok hR hfr ho hts hargs ha hu h1 (.inr ⟨rfl, rfl⟩)
        · cases h
      · cases hc
    · cases hc
  · -- append
    rename_i t u s x hts hargs
    split at hc
    · rename_i a b ha hb
      split at hc
      · rename_i e d hu1 hu2
        split at hc
        · cases hc
        · rename_i hd
          split at hc
          · rename_i i hi
            split at hc
            · rename_i z hz
              split at hc
              · rename_i hzs
                cases hc
                simp only [aop] at h
                split at h
                · rename_i sv xv h1 h2
                  split at h
                  · rename_i k news h3
                    split at h
                    · rename_i v aw1 h4
                      cases h
                      exact append_ok hR hfr ho hts hargs ha hb hu1 hu2 (fun k hk => hd k hk) hi hz hzs h1 h2 h3 h4
                    · cases h
                  · cases h
                · cases h
              · cases hc
            · cases hc
          · cases hc
      · cases hc
    · cases hc
  · -- copy
    rename_i t tr d s hts hargs
    split at hc
    · rename_i a b ha hb
      split at hc
      · rename_i e hu
        split at hc
        · rename_i n hn
          cases hc
          simp only [aop] at h
          split at h
          · rename_i bk off len cap sv h1 h2
            split at h
            · rename_i k l h3
              split at h
              · rename_i cs h4
                split at h
                · cases h
                  exact copy_ok hR hfr ho hts hargs ha hb hu hn h1 h2 h3 h4 (.inl ⟨rfl, rfl⟩)
                · rename_i hne
                  split at h
                  · rename_i aw1 h5
                    cases h
                    exact copy_ok hR hfr ho hts hargs ha hb hu hn h1 h2 h3 h4 (.inr ⟨fun hq => hne hq, h5⟩)
                  · cases h
              · cases h
            · cases h
          · rename_i sv h1 h2
            split at h
            · rename_i k l h3
              cases h
              exact copyNil_ok hR hfr ho hts hargs ha hb hu hn h1 h2 h3
            · cases h
          · cases h
        · cases hc
      · cases hc
    · cases hc
  · -- clear
    rename_i t tr x hts hargs
    split at hc
    · rename_i a ha
      split at hc
      · rename_i e hu
        split at hc
        · rename_i z hz
          cases hc
          simp only [aop] at h
          split at h
          · rename_i h1
            cases h
            exact clear_ok hR hfr ho hts hargs ha hu hz h1 (.inl ⟨.inl rfl, rfl⟩)
          · rename_i b off len cap h1
            cases len with
            | zero => cases h; exact clear_ok hR hfr ho hts hargs ha hu hz h1 (.inl ⟨.inr ⟨b, off, cap, rfl⟩, rfl⟩)
            | succ len =>
              have h : (match aw.store b off ((List.replicate (len + 1) z.cells).flatten) with
                | some aw' => some (Res.val (.tuple []), aw')
                | none => none) = some (r, aw') := h
              split at h
              · rename_i aw1 hst
                cases h
                exact clear_ok hR hfr ho hts hargs ha hu hz h1 (.inr ⟨b, off, len, cap, rfl, hst⟩)
              · cases h
          · cases h
        · cases hc
      · rename_i kt el hu
        cases hc
        simp only [aop] at h
        split at h
        · rename_i mv h1
          split at h
          · rename_i es ck h3
            cases h
            exact clearMap_ok hR hfr ho hts hargs ha hu h1 h3
          · rename_i bk es ck h3
            cases h
            exact clearMap_ok hR hfr ho hts hargs ha hu h1 h3
          · cases h
        · cases h
      · cases hc
    · cases hc
  · -- min
    rename_i xs hts hargs
    split at hc
    · rename_i as has
      cases hc
      simp only [aop] at h
      split at h
      · rename_i v rest h1
        obtain ⟨q, h2, rfl, rfl⟩ := valOf_inv h
        have e1 := cOpds_ok hfr has h1
        obtain ⟨y, ys, hy, k1, k2⟩ := e1
        obtain ⟨u, k3, k4⟩ := minL_run (P := P) (w := w) h2 k1 k2
        refine OpOK.quiet hR ?_ k4
        refine run_builtin ho (vs := args.map act.eval) rfl (fun _ => rfl) ?_
        simp only [Builtin.min_, Array.toList_map, hy]
        exact k3
      · cases h
    · cases hc
  · -- max
    rename_i xs hts hargs
    split at hc
    · rename_i as has
      cases hc
      simp only [aop] at h
      split at h
      · rename_i v rest h1
        obtain ⟨q, h2, rfl, rfl⟩ := valOf_inv h
        have e1 := cOpds_ok hfr has h1
        obtain ⟨y, ys, hy, k1, k2⟩ := e1
        obtain ⟨u, k3, k4⟩ := maxL_run (P := P) (w := w) h2 k1 k2
        refine OpOK.quiet hR ?_ k4
        refine run_builtin ho (vs := args.map act.eval) rfl (fun _ => rfl) ?_
        simp only [Builtin.max_, Array.toList_map, hy]
        exact k3
      · cases h
    · cases hc
  · -- delete
    rename_i t tr x k hts hargs
    split at hc
    · rename_i a b ha hb
      split at hc
      · rename_i kt el hu
        split at hc
        · rename_i ty hty
          cases hc
          simp only [aop] at h
          split at h
          · rename_i mv kv h1 h2
            split at h
            · rename_i es ck h3 hok
              cases h
              exact delete_ok hR hfr ho hts hargs ha hb hu hty h1 h2 h3 hok (.inl ⟨rfl, rfl⟩)
            · rename_i bk es ck h3 hok
              split at h
              · rename_i i v n h4
                cases h
                exact delete_ok hR hfr ho hts hargs ha hb hu hty h1 h2 h3 hok (.inr ⟨bk, _, rfl, h4, rfl⟩)
              · rename_i h4
                cases h
                exact delete_ok hR hfr ho hts hargs ha hb hu hty h1 h2 h3 hok (.inr ⟨bk, _, rfl, h4, rfl⟩)
              · cases h
            · cases h
          · cases h
        · cases hc
      · cases hc
    · cases hc
  · cases hc
end
end Go.AE
