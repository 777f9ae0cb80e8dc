/- AE, part 12: cuts; aggregates built. -/
import Derived.Test.YtjidefnbancmfaaAe11
import Derived.Lib.Strings
set_option linter.unusedVariables false
set_option linter.unusedSimpArgs false
namespace Go.AE

theorem getElem?_over : ∀ {l : List V} {off : Nat} {vs l' : List V}, over l off vs = some l' → l'.length = l.length ∧ off + vs.length ≤ l.length ∧ ∀ i, l'[i]? = if off ≤ i ∧ i < off + vs.length then vs[i - off]? else l[i]?
  | l, 0, [], l', h => by
    have : l' = l := by cases l <;> simp [over] at h <;> first | exact h | exact h.symm
    subst this
    refine ⟨rfl, by simp, fun i => ?_⟩
    rw [if_neg (by simp)]
  | [], 0, v :: vs, l', h => by simp [over] at h
  | x :: l, 0, v :: vs, l', h => by
    simp only [over] at h
    split at h
    · rename_i r hr
      cases h
      obtain ⟨h1, h2, h3⟩ := getElem?_over hr
      refine ⟨by simp [h1], by simp; omega, fun i => ?_⟩
      cases i with
      | zero => simp
      | succ i =>
        simp only [List.getElem?_cons_succ, h3]
        by_cases hi : i < vs.length
        · rw [if_pos (by omega), if_pos (by simp; omega)]; simp
        · rw [if_neg (by omega), if_neg (by simp; omega)]
    · cases h
  | [], off + 1, vs, l', h => by cases vs <;> simp [over] at h
  | x :: l, off + 1, vs, l', h => by
    simp only [over] at h
    split at h
    · rename_i r hr
      cases h
      obtain ⟨h1, h2, h3⟩ := getElem?_over hr
      refine ⟨by simp [h1], by simp; omega, fun i => ?_⟩
      cases i with
      | zero => simp
      | succ i =>
        simp only [List.getElem?_cons_succ, h3]
        by_cases hi : off ≤ i ∧ i < off + vs.length
        · rw [if_pos hi, if_pos (by omega)]; congr 1; omega
        · rw [if_neg hi, if_neg (by omega)]
    · cases h
theorem VR.cells {m : Map} {v : V} {x : Value} (h : VR m v x) : VRs m v.cells x.cells.toList := by
  cases v <;> simp only [V.cells]
  case agg l => obtain ⟨a, rfl, h2⟩ := h; exact h2
  case undef => cases h; exact ⟨_, [], rfl, rfl, rfl⟩
  case bool => cases h; exact ⟨_, [], rfl, rfl, rfl⟩
  case int => cases h; exact ⟨_, [], rfl, rfl, rfl⟩
  case nilptr => cases h; exact ⟨_, [], rfl, rfl, rfl⟩
  case nilslice => cases h; exact ⟨_, [], rfl, rfl, rfl⟩
  case nilmap => cases h; exact ⟨_, [], rfl, rfl, rfl⟩
  case nilfunc => cases h; exact ⟨_, [], rfl, rfl, rfl⟩
  case niliface => cases h; exact ⟨_, [], rfl, rfl, rfl⟩
  case str => obtain ⟨s, rfl, h2⟩ := h; exact ⟨_, [], rfl, ⟨s, rfl, h2⟩, rfl⟩
  case ptr => obtain ⟨e, h1, rfl⟩ := h; exact ⟨_, [], rfl, ⟨e, h1, rfl⟩, rfl⟩
  case map => obtain ⟨e, h1, rfl⟩ := h; exact ⟨_, [], rfl, ⟨e, h1, rfl⟩, rfl⟩
  case iface => obtain ⟨y, rfl, h2⟩ := h; exact ⟨_, [], rfl, ⟨y, rfl, h2⟩, rfl⟩
  case func => obtain ⟨f', c', rfl, h2, h3⟩ := h; exact ⟨_, [], rfl, ⟨f', c', rfl, h2, h3⟩, rfl⟩
  case tuple => obtain ⟨a, rfl, h2⟩ := h; exact ⟨_, [], rfl, ⟨a, rfl, h2⟩, rfl⟩
  case slice b off len cap =>
    have h0 := h
    obtain ⟨e, h1, h2⟩ := h
    cases cap with
    | known c => simp only [] at h2; subst h2; exact ⟨_, [], rfl, h0, rfl⟩
    | upTo z => obtain ⟨ad, cp, rfl, h3⟩ := h2; exact ⟨_, [], rfl, h0, rfl⟩
theorem foldl_set_get (off : Nat) : ∀ (vs : List Value) (k : Nat) (cs : Array Value), ((vs.zipIdx k).foldl (fun cs (p : Value × Nat) => cs.setIfInBounds (off + p.2) p.1) cs).size = cs.size ∧
    ∀ i, off + k + vs.length ≤ cs.size → ((vs.zipIdx k).foldl (fun cs (p : Value × Nat) => cs.setIfInBounds (off + p.2) p.1) cs)[i]? = if off + k ≤ i ∧ i < off + k + vs.length then vs[i - (off + k)]? else cs[i]?
  | [], k, cs => by
    refine ⟨by simp, fun i _ => ?_⟩
    rw [if_neg (by simp)]
    simp
  | v :: vs, k, cs => by
    obtain ⟨h1, h2⟩ := foldl_set_get off vs (k + 1) (cs.setIfInBounds (off + k) v)
    simp only [List.zipIdx_cons, List.foldl_cons]
    refine ⟨by rw [h1]; simp, fun i hi => ?_⟩
    simp only [List.length_cons] at hi ⊢
    rw [h2 i (by simp; omega)]
    by_cases c1 : off + (k + 1) ≤ i ∧ i < off + (k + 1) + vs.length
    · rw [if_pos c1, if_pos (by omega)]
      have : i - (off + k) = (i - (off + (k + 1))) + 1 := by omega
      rw [this, List.getElem?_cons_succ]
    · rw [if_neg c1]
      by_cases c2 : i = off + k
      · subst c2
        rw [if_pos (by omega)]
        have : off + k < cs.size := by omega
        simp [this]
      · rw [if_neg (by omega), Array.getElem?_setIfInBounds_ne (by omega)]

section
variable {P : Program} {o : Oper} {act : Act} {aw : AW} {w : World} {m : Map} {base N : Nat} {fr : Fr}

theorem sliceV_ok {esz b off len : Nat} {cap : Cap} {x : Value} (hx : VR m (.slice b off len cap) x) {lo hi mx : Option Nat} {r : V} (h : sliceV esz b off len cap lo hi mx = some r) :
    ∃ a ln cp, x = .slice (some a) ln cp ∧ ln = len ∧ mx.getD cp ≤ cp ∧ (hi.getD len ≤ mx.getD cp ∨ (hi = none ∧ mx = none)) ∧ lo.getD 0 ≤ hi.getD len ∧ (mx.isSome = true → hi.isSome = true) ∧
      VR m r (.slice (some (if mx.getD cp = lo.getD 0 then a else a.add (lo.getD 0 * esz))) (hi.getD len - lo.getD 0) (mx.getD cp - lo.getD 0)) := by
  obtain ⟨e, hm, h2⟩ := hx
  cases cap with
  | known c =>
    simp only [] at h2
    subst h2
    simp only [sliceV] at h
    split at h
    · rename_i hc
      cases h
      refine ⟨_, _, _, rfl, rfl, hc.1, .inl hc.2.1, hc.2.2.1, hc.2.2.2, e, hm, ?_⟩
      simp only []
      congr 1
      split <;> simp [Addr.add_lit, Nat.add_assoc]
    · cases h
  | upTo z =>
    obtain ⟨ad, cp, rfl, hle, hcase⟩ := h2
    cases mx with
    | none =>
      simp only [sliceV] at h
      split at h
      · rename_i hc
        obtain ⟨c1, c2, rfl⟩ := hc
        cases h
        refine ⟨_, _, _, rfl, rfl, Nat.le_refl _, .inl (by simp only [Option.getD_none]; omega), c2, by simp, e, hm, _, _, rfl, ?_, ?_⟩
        · simp only [Option.getD_none]; omega
        · simp only [Option.getD_none]
          by_cases hcl : cp = lo.getD 0
          · right; omega
          · left
            rw [if_neg hcl]
            rcases hcase with ⟨rfl, htot⟩ | h0
            · refine ⟨by simp [Addr.add_lit, Nat.add_assoc], ?_⟩
              have : cp = lo.getD 0 + (cp - lo.getD 0) := by omega
              have h5 : cp * z = lo.getD 0 * z + (cp - lo.getD 0) * z := by rw [← Nat.add_mul]; congr 1
              omega
            · omega
      · cases h
    | some q =>
      simp only [sliceV] at h
      split at h
      · rename_i hc
        obtain ⟨c1, c2, c3, c4, c5⟩ := hc
        cases h
        refine ⟨_, _, _, rfl, rfl, by simp only [Option.getD_some]; omega, .inl c2, c3, fun _ => c5, e, hm, ?_⟩
        simp only [Option.getD_some]
        rw [if_neg (by omega)]
        rcases hcase with ⟨rfl, htot⟩ | h0
        · simp [Addr.add_lit, Nat.add_assoc]
        · omega
      · cases h
theorem slice_ok (hR : R aw w m base) (hfr : FR m N fr act.tmps) {t el : TypeId} {x : Operand} {lo hi mx : Option Operand} {a : Opd} {al ah am : Option Opd} {esz : Nat} (ho : o.op = .slice t x lo hi mx) (hx : cOpd x = some a)
    (hl : cOpt lo = some al) (hh : cOpt hi = some ah) (hmx : cOpt mx = some am) (hu : P.underlying t = some (.slice el)) (hs : sizeOf? P el = some esz)
    {b off len : Nat} {cap : Cap} (h1 : a.ev fr = some (.slice b off len cap)) {l h q : Option Nat} (h2 : evOpt fr al = some l) (h3 : evOpt fr ah = some h) (h4 : evOpt fr am = some q) {r : V} (h5 : sliceV esz b off len cap l h q = some r) :
    OpOK P o act aw aw w m base (.val r) := by
  obtain ⟨ad, ln, cp, e1, rfl, c1, c2, c3, c4, hv⟩ := sliceV_ok (cOpd_ok hfr hx h1) h5
  refine OpOK.quiet hR ?_ hv
  have hb := run_bounds (P := P) (w := w) (isS := true) (evOpt_ok hfr hl h2) (evOpt_ok hfr hh h3) (evOpt_ok hfr hmx h4) c1 c2 c3 c4
  simp [execOp, ho, e1, Instr.sliceAt, Instr.slice, run_underlying hu, hb, run_sizeOf hs]
  split <;> simp
theorem sliceNil_ok (hR : R aw w m base) (hfr : FR m N fr act.tmps) {t el : TypeId} {x : Operand} {lo hi mx : Option Operand} {a : Opd} {al ah am : Option Opd} {esz : Nat} (ho : o.op = .slice t x lo hi mx) (hx : cOpd x = some a)
    (hl : cOpt lo = some al) (hh : cOpt hi = some ah) (hmx : cOpt mx = some am) (hu : P.underlying t = some (.slice el)) (hs : sizeOf? P el = some esz)
    (h1 : a.ev fr = some .nilslice) {l h q : Option Nat} (h2 : evOpt fr al = some l) (h3 : evOpt fr ah = some h) (h4 : evOpt fr am = some q) (h5 : l.getD 0 = 0) (h6 : h.getD 0 = 0) (h7 : q.getD 0 = 0) (h8 : q.isSome = true → h.isSome = true) :
    OpOK P o act aw aw w m base (.val .nilslice) := by
  have e1 : act.eval x = .slice none 0 0 := cOpd_ok hfr hx h1
  refine OpOK.quiet hR (v' := .slice none 0 0) ?_ rfl
  have hb := run_bounds (P := P) (w := w) (isS := true) (len := 0) (cap := 0) (evOpt_ok hfr hl h2) (evOpt_ok hfr hh h3) (evOpt_ok hfr hmx h4) (by omega) (.inl (by omega)) (by omega) h8
  rw [h5, h6, h7] at hb
  simp [execOp, ho, e1, Instr.sliceAt, Instr.slice, run_underlying hu, hb, run_sizeOf hs]
theorem sliceArr_ok (hR : R aw w m base) (hfr : FR m N fr act.tmps) {t el : TypeId} {x : Operand} {lo hi mx : Option Operand} {a : Opd} {al ah am : Option Opd} {n esz : Nat} (ho : o.op = .slice t x lo hi mx) (hx : cOpd x = some a)
    (hl : cOpt lo = some al) (hh : cOpt hi = some ah) (hmx : cOpt mx = some am) (hu : P.underlying t = some (.array n el)) (hs : sizeOf? P el = some esz)
    {b off : Nat} (h1 : a.ev fr = some (.ptr b off)) {l h q : Option Nat} (h2 : evOpt fr al = some l) (h3 : evOpt fr ah = some h) (h4 : evOpt fr am = some q) {r : V} (h5 : sliceV esz b off n (.known n) l h q = some r) :
    OpOK P o act aw aw w m base (.val r) := by
  obtain ⟨e, hm, e1⟩ := cOpd_ok hfr hx h1
  have hx' : VR m (.slice b off n (.known n)) (.slice (some ⟨e.c, e.s + off, none⟩) n n) := ⟨e, hm, rfl⟩
  obtain ⟨ad, ln, cp, e2, rfl, c1, c2, c3, c4, hv⟩ := sliceV_ok hx' h5
  cases e2
  refine OpOK.quiet hR ?_ hv
  have hb := run_bounds (P := P) (w := w) (isS := false) (evOpt_ok hfr hl h2) (evOpt_ok hfr hh h3) (evOpt_ok hfr hmx h4) c1 c2 c3 c4
  simp [execOp, ho, e1, Instr.sliceAt, Instr.sureAddr, run_underlying hu, hb, run_sizeOf hs]
theorem sliceStr_ok (hR : R aw w m base) (hfr : FR m N fr act.tmps) {t : TypeId} {x : Operand} {lo hi : Option Operand} {a : Opd} {al ah : Option Opd} (ho : o.op = .slice t x lo hi none) (hx : cOpd x = some a)
    (hl : cOpt lo = some al) (hh : cOpt hi = some ah) (hu : P.underlying t = some .string)
    {s : List Nat} (h1 : a.ev fr = some (.str s)) {l h : Option Nat} (h2 : evOpt fr al = some l) (h3 : evOpt fr ah = some h) (h4 : h.getD s.length ≤ s.length) (h5 : l.getD 0 ≤ h.getD s.length) :
    OpOK P o act aw aw w m base (.val (.str ((s.drop (l.getD 0)).take (h.getD s.length - l.getD 0)))) := by
  obtain ⟨bs, e1, rfl⟩ := cOpd_ok hfr hx h1
  rw [strL_length] at h4 h5 ⊢
  have hb := run_bounds (P := P) (w := w) (isS := false) (len := bs.size) (cap := bs.size) (mx := none) (mx' := none) (evOpt_ok hfr hl h2) (evOpt_ok hfr hh h3) rfl (Nat.le_refl _) (.inl h4) h5 (by simp)
  refine OpOK.quiet hR (v' := .string (bs.extract (l.getD 0) (h.getD bs.size))) ?_ ⟨_, rfl, ?_⟩
  · simp only [Option.getD_none] at hb
    simp only [execOp, ho, e1, Instr.sliceAt, Instr.slice, run_underlying hu, Sem.run_bind, Result.andThen_ok, Option.map_none, Option.isSome_none, Bool.false_eq_true, if_false, Sem.run_pure, hb]
  · unfold strL
    rw [Lib.extract_data, List.map_take, List.map_drop]

theorem fill_ok {place : Nat → Option (Nat × Nat)} (hfr : FR m N fr act.tmps) : ∀ {parts : List (Nat × Operand)} {r : List (Nat × Nat × Opd)} {ps : List (Nat × Nat × V)} {l l' : List V} {cs : Array Value},
    cParts place parts = some r → evParts fr r = some ps → fillV l ps = some l' → VRs m l cs.toList → ∃ cs', Instr.fill place cs (parts.map fun p => (p.1, act.eval p.2)) = some cs' ∧ VRs m l' cs'.toList
  | [], r, ps, l, l', cs, hc, he, hf, hl => by
    cases hc; cases he; cases hf
    exact ⟨cs, rfl, hl⟩
  | (i, x) :: parts, r, ps, l, l', cs, hc, he, hf, hl => by
    simp only [cParts] at hc
    split at hc
    · rename_i off sz a hp ha
      split at hc
      · rename_i r' hr'
        cases hc
        simp only [evParts] at he
        split at he
        · rename_i v hv
          split at he
          · rename_i ps' hps'
            cases he
            simp only [fillV] at hf
            split at hf
            · rename_i hsz
              split at hf
              · rename_i l1 hl1
                have hvx := (cOpd_ok hfr ha hv).cells
                obtain ⟨g1, g2, g3⟩ := getElem?_over hl1
                have hcl : (act.eval x).cells.size = sz := by have := hvx.length; simpa [hsz] using this
                have hll := hl.length
                simp only [Array.length_toList] at hll
                have hcl' : (act.eval x).cells.toList.length = sz := by simpa using hcl
                obtain ⟨f1, f2⟩ := foldl_set_get off (act.eval x).cells.toList 0 cs
                have hnew : VRs m l1 ((((act.eval x).cells.toList.zipIdx 0).foldl (fun cs (p : Value × Nat) => cs.setIfInBounds (off + p.2) p.1) cs)).toList := by
                  refine VRs.of_get (by simp [f1, hll, g1]) (fun j u y hu hy => ?_)
                  rw [g3] at hu
                  have hy' := hy
                  simp only [Array.getElem?_toList] at hy'
                  rw [f2 j (by omega)] at hy'
                  by_cases hj : off ≤ j ∧ j < off + v.cells.length
                  · rw [if_pos hj] at hu
                    rw [if_pos (by omega)] at hy'
                    obtain ⟨z, z1, z2⟩ := hvx.get hu
                    simp only [Nat.add_zero] at hy'
                    rw [z1] at hy'; cases hy'
                    exact z2
                  · rw [if_neg hj] at hu
                    rw [if_neg (by omega)] at hy'
                    obtain ⟨z, z1, z2⟩ := hl.get hu
                    simp only [Array.getElem?_toList] at z1
                    rw [z1] at hy'; cases hy'
                    exact z2
                obtain ⟨cs', k1, k2⟩ := fill_ok hfr hr' hps' hf hnew
                refine ⟨cs', ?_, k2⟩
                simp only [List.map_cons, Instr.fill, hp]
                rw [if_neg (by simp [hcl]; omega)]
                rw [← k1]
                congr 1
                rw [← Array.foldl_toList, Array.toList_zipIdx]
              · cases hf
            · cases hf
          · cases he
        · cases he
      · cases hc
    · cases hc
theorem run_places : ∀ {fs : List Field} {ps : List (Nat × Nat)}, fieldPlaces P fs = some ps → (fs.mapM fun f => (do pure (f.offset, ← sizeOf f.type) : Sem (Nat × Nat))).run P w = .ok ps w
  | [], ps, h => by cases h; simp
  | f :: fs, ps, h => by
    simp only [fieldPlaces] at h
    split at h
    · rename_i s r hs hr
      cases h
      simp only [List.mapM_cons, Sem.run_bind, run_sizeOf hs, Result.andThen_ok, Sem.run_pure, run_places hr]
    · cases h
theorem buildS_ok (hR : R aw w m base) (hfr : FR m N fr act.tmps) {t : TypeId} {parts : Array (Nat × Operand)} {z : V} {fs : Array Field} {places : List (Nat × Nat)} {r : List (Nat × Nat × Opd)} (ho : o.op = .build t parts) (hz : zeroOf P t = some z)
    (hu : P.underlying t = some (.struct fs)) (hp : fieldPlaces P fs.toList = some places) (hc : cParts (places[·]?) parts.toList = some r) {ps : List (Nat × Nat × V)} {l : List V} (h1 : evParts fr r = some ps) (h2 : fillV z.cells ps = some l) :
    OpOK P o act aw aw w m base (.val (.agg l)) := by
  obtain ⟨z', hz1, hz2⟩ := zero_ok (P := P) (w := w) (m := m) hz
  obtain ⟨cs', k1, k2⟩ := fill_ok hfr hc h1 h2 hz2.cells
  refine OpOK.quiet hR (v' := .agg cs') ?_ ⟨_, rfl, k2⟩
  have hm := run_places (P := P) (w := w) hp
  have e : (parts.map fun p => (p.1, act.eval p.2)).toList = parts.toList.map fun p => (p.1, act.eval p.2) := by simp
  simp only [execOp, ho, Instr.build, Sem.run_bind, hz1, Result.andThen_ok, run_underlying hu, Array.mapM_eq_mapM_toList, Sem.run_map, hm, e]
  have e2 : (fun x : Nat => places.toArray[x]?) = (fun x : Nat => places[x]?) := by funext x; simp
  rw [e2, k1]
  rfl
theorem buildA_ok (hR : R aw w m base) (hfr : FR m N fr act.tmps) {t el : TypeId} {len n : Nat} {parts : Array (Nat × Operand)} {z : V} {r : List (Nat × Nat × Opd)} (ho : o.op = .build t parts) (hz : zeroOf P t = some z)
    (hu : P.underlying t = some (.array len el)) (hs : sizeOf? P el = some n) (hc : cParts (fun i => some (i * n, n)) parts.toList = some r) {ps : List (Nat × Nat × V)} {l : List V} (h1 : evParts fr r = some ps) (h2 : fillV z.cells ps = some l) :
    OpOK P o act aw aw w m base (.val (.agg l)) := by
  obtain ⟨z', hz1, hz2⟩ := zero_ok (P := P) (w := w) (m := m) hz
  obtain ⟨cs', k1, k2⟩ := fill_ok hfr hc h1 h2 hz2.cells
  refine OpOK.quiet hR (v' := .agg cs') ?_ ⟨_, rfl, k2⟩
  have e : (parts.map fun p => (p.1, act.eval p.2)).toList = parts.toList.map fun p => (p.1, act.eval p.2) := by simp
  simp only [execOp, ho, Instr.build, Sem.run_bind, hz1, Result.andThen_ok, run_underlying hu, run_sizeOf hs, e, k1]
  rfl
end
end Go.AE
