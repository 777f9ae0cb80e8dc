/- A part of the proof: W8, PChk1, PChk2, PChk3, PChk4, PChk5, PChk6, PChk7, PChk8, PChk9, PChk10, PChk11, PChk12, PChk13, PChk14. -/
import Derived.Test.YtjidefnbancmfaaKpI
import Derived.Test.YtjidefnbancmfaaKpJ
set_option linter.unusedVariables false
set_option linter.unusedSimpArgs false
set_option linter.unusedSectionVars false
namespace Go.AE
theorem cells_map {b : Nat} : (V.map b).cells = [.map b] := rfl
theorem cells_nilmap : V.nilmap.cells = [.nilmap] := rfl
theorem cells_func {f : Fn} {a c : List V} : (V.func f a c).cells = [.func f a c] := rfl
theorem cells_iface {t : Nat} {v : V} : (V.iface t v).cells = [.iface t v] := rfl
theorem cells_niliface : V.niliface.cells = [.niliface] := rfl
attribute [go_sem] cells_map cells_nilmap cells_func cells_iface cells_niliface
section
variable {α β : Type} [DecidableEq α]
/-- what stands at a key. -/
def aget : List (α × β) → α → Option β
  | [], _ => none
  | (a, b) :: l, k => if k = a then some b else aget l k
/-- a value put at a key: in its place, or behind. -/
def aput : List (α × β) → α → β → List (α × β)
  | [], k, v => [(k, v)]
  | (a, b) :: l, k, v => if k = a then (a, v) :: l else (a, b) :: aput l k v
theorem aget_put_same : ∀ (l : List (α × β)) (k : α) (v : β), aget (aput l k v) k = some v
  | [], k, v => by simp [aput, aget]
  | (a, b) :: l, k, v => by
    by_cases h : k = a
    · simp [aput, aget, h]
    · simp only [aput, if_neg h, aget]; exact aget_put_same l k v
theorem aget_put_ne : ∀ (l : List (α × β)) (k k' : α) (v : β), k' ≠ k → aget (aput l k v) k' = aget l k'
  | [], k, k', v, h => by simp [aput, aget, h]
  | (a, b) :: l, k, k', v, h => by
    by_cases hk : k = a
    · subst hk; simp [aput, aget, h]
    · simp only [aput, if_neg hk, aget, aget_put_ne l k k' v h]
/-- how keys stand as values. -/
structure KeyE (t : KeyTy) (ke : α → V) : Prop where
  eq : ∀ a b, eqKey t (ke a) (ke b) = some (decide (a = b))
  ok : ∀ a, keyOk t (ke a) = true
def MRel (ke : α → V) (ve : β → V) (p : α × β) (e : V × V × Nat) : Prop := e.1 = ke p.1 ∧ e.2.1 = ve p.2
/-- a map's block. -/
structure MB (ke : α → V) (ve : β → V) (w : AW) (b : Nat) (M : List (α × β)) : Prop where
  lt : b < w.next
  get : ∃ es ck, w.heap.get b = some (.map es ck) ∧ All2 (MRel ke ve) M es
variable {ke : α → V} {ve : β → V} {t : KeyTy}
/-- what a look comes to. -/
def mres (ve : β → V) (zero : V) : Option β → V × Bool
  | some v => (ve v, true)
  | none => (zero, false)
theorem MB.frm {S : Nat → Prop} {w w' : AW} {b : Nat} {M : List (α × β)} (h : MB ke ve w b M) (hf : Frm S w w') (hn : ¬ S b) : MB ke ve w' b M := by
  obtain ⟨es, ck, h1, h2⟩ := h.get
  exact ⟨Nat.lt_of_lt_of_le h.lt hf.next, es, ck, (hf.heap b h.lt hn).trans h1, h2⟩
theorem findE_map (hk : KeyE t ke) {k : α} : ∀ {M : List (α × β)} {es : List (V × V × Nat)} (i : Nat), All2 (MRel ke ve) M es →
    (aget M k = none → findE t (ke k) es i = some none) ∧ ∀ v, aget M k = some v → ∃ j n, findE t (ke k) es i = some (some (i + j, ve v, n)) ∧ ∀ v', All2 (MRel ke ve) (aput M k v') (setE j (ke k) (ve v') es)
  | [], _, i, .nil => ⟨fun _ => rfl, fun v h => by simp [aget] at h⟩
  | (a, b) :: M, (x, y, n) :: es, i, .cons h1 h2 => by
    obtain ⟨q1, q2⟩ := h1
    simp only at q1 q2
    subst q1; subst q2
    by_cases h : k = a
    · subst h
      refine ⟨fun hn => by simp [aget] at hn, fun v hv => ?_⟩
      simp only [aget, if_true, Option.some.injEq] at hv
      subst hv
      refine ⟨0, n, by simp only [findE, hk.eq, decide_true, Nat.add_zero], fun v' => ?_⟩
      simp only [aput, if_true, setE, List.getElem?_cons_zero, List.set_cons_zero]
      exact .cons ⟨rfl, rfl⟩ h2
    · obtain ⟨r1, r2⟩ := findE_map hk (k := k) (i + 1) h2
      refine ⟨fun hn => ?_, fun v hv => ?_⟩
      · simp only [aget, if_neg h] at hn
        simp only [findE, hk.eq, decide_eq_false h]
        exact r1 hn
      · simp only [aget, if_neg h] at hv
        obtain ⟨j, m, s1, s2⟩ := r2 v hv
        refine ⟨j + 1, m, ?_, fun v' => ?_⟩
        · simp only [findE, hk.eq, decide_eq_false h]
          rw [s1]; congr 3; omega
        · have := s2 v'
          simp only [aput, if_neg h]
          have e : setE (j + 1) (ke k) (ve v') ((ke a, ve b, n) :: es) = (ke a, ve b, n) :: setE j (ke k) (ve v') es := by
            simp only [setE, List.getElem?_cons_succ]
            split <;> simp
          rw [e]
          exact .cons ⟨rfl, rfl⟩ this
theorem MB.look (hk : KeyE t ke) {w : AW} {b : Nat} {M : List (α × β)} (h : MB ke ve w b M) (zero : V) (k : α) : w.lookV t zero (.map b) (ke k) = some (mres ve zero (aget M k)) := by
  obtain ⟨es, ck, h1, h2⟩ := h.get
  obtain ⟨r1, r2⟩ := findE_map hk (k := k) 0 h2
  simp only [AW.lookV, AW.entries, h1, hk.ok]
  cases hg : aget M k with
  | none => simp only [r1 hg, mres]
  | some v => obtain ⟨j, n, s1, _⟩ := r2 v hg; simp only [s1, mres]
theorem aput_none : ∀ {M : List (α × β)} {k : α}, aget M k = none → ∀ v, aput M k v = M ++ [(k, v)]
  | [], k, _, v => rfl
  | (a, b) :: M, k, h, v => by
    simp only [aget] at h
    split at h
    · cases h
    · rename_i hn
      simp only [aput, if_neg hn, aput_none h v, List.cons_append]
theorem mturn_frm {w : AW} {b : Nat} {es : List (V × V × Nat)} {ck : Nat} : Frm (fun x => x = b) w (w.turn b (.map es ck)) :=
  ⟨Nat.le_refl _, fun c hc hn => T.get_put_ne hn, fun c hc hn => rfl⟩
theorem MB.put (hk : KeyE t ke) {w : AW} {b : Nat} {M : List (α × β)} (h : MB ke ve w b M) (k : α) (v : β) : ∃ w', w.putV t (.map b) (ke k) (ve v) = some w' ∧ MB ke ve w' b (aput M k v) ∧ Frm (fun x => x = b) w w' ∧ w'.next = w.next := by
  obtain ⟨es, ck, h1, h2⟩ := h.get
  obtain ⟨r1, r2⟩ := findE_map hk (k := k) 0 h2
  simp only [AW.putV, AW.entries, h1, hk.ok]
  cases hg : aget M k with
  | none =>
    refine ⟨w.turn b (.map (es ++ [(ke k, ve v, ck)]) (ck + 1)), by simp only [r1 hg], ⟨h.lt, _, _, T.get_put_same, ?_⟩, mturn_frm, rfl⟩
    rw [aput_none hg]
    exact h2.snoc ⟨rfl, rfl⟩
  | some u =>
    obtain ⟨j, n, s1, s2⟩ := r2 u hg
    refine ⟨w.turn b (.map (setE j (ke k) (ve v) es) ck), ?_, ⟨h.lt, _, _, T.get_put_same, s2 v⟩, mturn_frm, rfl⟩
    simp only [s1, Nat.zero_add]
theorem MB.len {w : AW} {b : Nat} {M : List (α × β)} (h : MB ke ve w b M) : ∃ es ck, w.entries (.map b) = some (some b, es, ck) ∧ es.length = M.length := by
  obtain ⟨es, ck, h1, h2⟩ := h.get
  exact ⟨es, ck, by simp only [AW.entries, h1], h2.len.symm⟩
theorem MB.new (w : AW) : MB ke ve (w.new (.map [] 0)) w.next ([] : List (α × β)) := ⟨Nat.lt_succ_self _, [], 0, T.get_put_same, .nil⟩
end
theorem mnew_frm {S : Nat → Prop} (w : AW) : Frm S w (w.new (.map [] 0)) := Frm.new w _
theorem strKey : KeyE (.scalar .str) V.str := ⟨fun a b => by
  show some (eqL a b) = _
  congr 1
  by_cases h : a = b
  · rw [decide_eq_true h]; exact eqL_iff.2 h
  · rw [decide_eq_false h]
    cases hc : eqL a b with
    | false => rfl
    | true => exact absurd (eqL_iff.1 hc) h, fun _ => rfl⟩
theorem intKey : KeyE (.scalar .int) (V.int .i64) := ⟨fun a b => by
  show (if (IntKind.i64 : IntKind) = .i64 then some (a == b) else none) = _
  rw [if_pos rfl]
  congr 1, fun _ => rfl⟩
/-- a slice of one's own that fills its block. -/
inductive Bt (S : Nat → Prop) (w : AW) : V → Nat → Nat → List V → Prop
  | nil {esz : Nat} : Bt S w .nilslice esz 0 []
  | blk {b n esz : Nat} {cs : List V} {sh : Share} (hS : S b) (hb : b < w.next) (hx : w.heap.get b = some (.cells cs sh)) (hl : cs.length = n * esz) (he : 0 < esz) (hn : 0 < n) (hs : Shr S w b sh) : Bt S w (.slice b 0 n (.upTo esz)) esz n cs
theorem Bt.buf {S : Nat → Prop} {w : AW} {v : V} {esz n : Nat} {cs : List V} (h : Bt S w v esz n cs) : Buf S w v esz n cs := by
  cases h with
  | nil => exact .nil
  | blk hS hb hx hl he hn hs => exact .blk (r := 0) (rest := []) hS hb (by rw [List.append_nil]; exact hx) hl (by simp) he (by omega) hs
theorem Bt.mono {S S' : Nat → Prop} {w : AW} {v : V} {esz n : Nat} {cs : List V} (h : Bt S w v esz n cs) (hs : ∀ x, S x → S' x) : Bt S' w v esz n cs := by
  cases h with
  | nil => exact .nil
  | blk hS hb hx hl he hn hsh => exact .blk (hs _ hS) hb hx hl he hn (hsh.mono hs)
theorem Bt.frm {S T : Nat → Prop} {w w' : AW} {v : V} {esz n : Nat} {cs : List V} (h : Bt S w v esz n cs) (hf : Frm T w w') (hd : ∀ x, S x → ¬ T x) : Bt S w' v esz n cs := by
  cases h with
  | nil => exact .nil
  | blk hS hb hx hl he hn hsh => exact .blk hS (Nat.lt_of_lt_of_le hb hf.next) ((hf.heap _ hb (hd _ hS)).trans hx) hl he hn (hsh.frm hf hd)
theorem Bt.len {S : Nat → Prop} {w : AW} {v : V} {esz n : Nat} {cs : List V} (h : Bt S w v esz n cs) : cs.length = n * esz := h.buf.len
theorem Bt.rd {S : Nat → Prop} {w : AW} {v : V} {esz n : Nat} {cs : List V} (h : Bt S w v esz n cs) : Rd S w v esz n cs := h.buf.rd
theorem Bt.lenV {S : Nat → Prop} {w : AW} {v : V} {esz n : Nat} {cs : List V} (h : Bt S w v esz n cs) : lenV v = some n := h.buf.lenV
theorem Bt.one {S : Nat → Prop} {w : AW} {v : V} {esz n : Nat} {cs : List V} (h : Bt S w v esz n cs) : v.one = true ∧ v.cells = [v] := by cases h <;> exact ⟨rfl, rfl⟩
theorem Bt.inv {S : Nat → Prop} {w : AW} {v : V} {esz n : Nat} {cs : List V} (h : Bt S w v esz n cs) : (v = .nilslice ∧ n = 0 ∧ cs = []) ∨ ∃ b, v = .slice b 0 n (.upTo esz) ∧ S b ∧ b < w.next := h.buf.inv
/-- some more elements. -/
theorem Bt.addN {S : Nat → Prop} {w : AW} {v : V} {esz n k bytes : Nat} {cs news : List V} (h : Bt S w v esz n cs) (he : 0 < esz) (hl : news.length = k * esz) (h1 : allOne news = true) (hb : (n + k) * bytes ≤ 70368744177664) (hb' : n + k ≤ 70368744177664) :
    ∃ v' w' S', w.appendV esz bytes v k news = some (v', w') ∧ Bt S' w' v' esz (n + k) (cs ++ news) ∧ Frm S w w' ∧ Grown S S' w w' := by
  cases k with
  | zero =>
    have : news = [] := List.length_eq_zero_iff.1 (by simpa using hl)
    subst this
    refine ⟨v, w, fun x => S x ∧ x < w.next, ?_, ?_, Frm.refl _, fun b hb => ⟨hb.2, .inl hb.1⟩⟩
    · cases h <;> rfl
    · rw [List.append_nil, Nat.add_zero]
      cases h with
      | nil => exact .nil
      | blk hS hbw hx hlen he' hn hs =>
        refine .blk ⟨hS, hbw⟩ hbw hx hlen he' hn ?_
        rcases hs with rfl | rfl | ⟨f, F, rfl, q1, q2, q3⟩
        · exact .inl rfl
        · exact .inr (.inl rfl)
        · exact .inr (.inr ⟨f, F, rfl, ⟨q1, q2⟩, q2, q3⟩)
  | succ k =>
    cases h with
    | nil =>
      refine ⟨.slice w.next 0 (k + 1) (.upTo esz), w.fresh news, fun b => b = w.next, ?_, ?_, Frm.new _ _, ?_⟩
      · simp only [AW.appendV]; rw [if_pos ⟨by simpa using hb, by omega⟩]
      · rw [Nat.zero_add]; exact .blk rfl (Nat.lt_succ_self _) T.get_put_same (by simpa using hl) he (by omega) (.inl rfl)
      · rintro b rfl; exact ⟨Nat.lt_succ_self _, .inr (Nat.le_refl _)⟩
    | @blk b _ _ _ sh hS hbw hx hlen he' hn hs =>
      have happ : w.appendV esz bytes (.slice b 0 n (.upTo esz)) (k + 1) news = w.appendUp esz b 0 n (k + 1) news := if_pos ⟨rfl, hb, hb', h1, he⟩
      rw [happ]
      have hbeq : Nat.beq (0 + n * esz) cs.length = true := by rw [Nat.zero_add, hlen, Nat.beq_refl]
      have fam : ∀ (u : AW) (f : Nat) (F : Fam), w.next ≤ u.next → Frm S w u → u.heap.get b = some (.cells cs (.fam f)) → (S f ∨ w.next ≤ f) → f < u.next → b < u.next → u.fams.get f = some F → F.last = b → F.floor ≤ u.next → u.alive b (.fam f) = true →
          ∃ v' w' S', u.appendFam esz b 0 n (k + 1) news = some (v', w') ∧ Bt S' w' v' esz (n + (k + 1)) (cs ++ news) ∧ Frm S w w' ∧ Grown S S' w w' := by
        intro u f F hle hfu hx hSf hfl hbu hF hlast hflo hal
        refine ⟨.slice u.next 0 (n + (k + 1)) (.upTo esz), u.grow b f F (cs.drop 0 ++ news), fun x => x = u.next ∨ x = f, ?_, ?_, ?_, ?_⟩
        · simp only [AW.appendFam, hx, hal, hF, hbeq]
        · have hg : (u.grow b f F (cs.drop 0 ++ news)).fams.get f = some ⟨F.keep, F.floor, u.next⟩ := by
            simp only [AW.grow, T.get_putk, if_true, hlast, Nat.beq_refl]
          refine .blk (sh := .fam f) (.inl rfl) (Nat.lt_succ_self _) ?_ ?_ he (by omega) (.inr (.inr ⟨f, ⟨F.keep, F.floor, u.next⟩, rfl, .inr rfl, Nat.lt_succ_of_lt hfl, hg, rfl, Nat.le_succ_of_le hflo, ?_⟩))
          · simp only [AW.grow, T.get_putk, if_true, List.drop_zero]
          · rw [List.length_append, hlen, hl, Nat.add_mul n]
          · simp only [AW.alive, hg, Bool.or_eq_true]
            exact .inr (Nat.ble_eq_true_of_le hflo)
        · refine hfu.trans (T := fun x => x = f ∨ u.next ≤ x) ⟨Nat.le_succ _, fun c hc hn => T.get_put_ne (by omega), fun c hc hn => T.get_put_ne fun e => hn (.inl e)⟩ (fun x hx h => h) ?_
          rintro x hx (rfl | h)
          · rcases hSf with h | h
            · exact h
            · omega
          · omega
        · rintro x (rfl | rfl)
          · exact ⟨Nat.lt_succ_self _, .inr hle⟩
          · exact ⟨Nat.lt_succ_of_lt hfl, hSf⟩
      have fnd : sh = .own ∨ sh = .lax → ∃ v' w' S', (w.found b cs).appendFam esz b 0 n (k + 1) news = some (v', w') ∧ Bt S' w' v' esz (n + (k + 1)) (cs ++ news) ∧ Frm S w w' ∧ Grown S S' w w' := by
        intro _
        refine fam (w.found b cs) w.next ⟨b, w.next + 1, b⟩ (Nat.le_succ _) ⟨Nat.le_succ _, fun c hc hn => T.get_put_ne fun e => hn (e ▸ hS), fun c hc hn => T.get_put_ne (by omega)⟩ T.get_put_same (.inr (Nat.le_refl _)) (Nat.lt_succ_self _) (Nat.lt_succ_of_lt hbw) T.get_put_same rfl (Nat.le_refl _) ?_
        simp only [AW.alive, AW.found, T.get_putk, if_true, Nat.beq_refl, Bool.true_or]
      simp only [AW.appendUp, hx, hbeq]
      rcases hs with rfl | rfl | ⟨f, F, rfl, g1, g2, g3, g4, g6, g5⟩
      · exact fnd (.inl rfl)
      · exact fnd (.inr rfl)
      · exact fam w f F (Nat.le_refl _) (Frm.refl _) hx (.inl g1) g2 hbw g3 g4 g6 g5
theorem Bt.push {S : Nat → Prop} {w : AW} {v : V} {esz n bytes : Nat} {cs news : List V} (h : Bt S w v esz n cs) (hS : ∀ b, S b → b < w.next) (he : 0 < esz) (hl : news.length = esz) (h1 : allOne news = true) (hb : (n + 1) * bytes ≤ 70368744177664) (hb' : n + 1 ≤ 70368744177664) :
    ∃ v' w' S', (w.fresh news).appendV esz bytes v 1 news = some (v', w') ∧ Bt S' w' v' esz (n + 1) (cs ++ news) ∧ Frm S w w' ∧ Grown S S' w w' := by
  have hx : Frm (fun _ => False) w (w.fresh news) := Frm.new _ _
  obtain ⟨v', w', S', h2, h3, h4, h5⟩ := (h.frm hx fun _ _ h => h).addN (news := news) (k := 1) (bytes := bytes) he (by omega) h1 hb hb'
  refine ⟨v', w', S', h2, h3, hx.trans h4 (fun _ _ h => h.elim) fun _ _ h => h, fun b hb => ?_⟩
  obtain ⟨q1, q2⟩ := h5 b hb
  exact ⟨q1, q2.imp id fun h => Nat.le_trans hx.next h⟩
end Go.AE

/- check.Vars: the variables of terms, each once. -/
set_option linter.unusedVariables false
set_option maxRecDepth 10000
set_option linter.unusedSimpArgs false
namespace Delphi
/-- the variables of terms, from the left, each once. -/
def addVar (out : List (List Nat)) (t : Tm) : List (List Nat) := if t.kind = 1 ∧ t.name ∉ out then out ++ [t.name] else out
def cVars (l : List Tm) : List (List Nat) := l.foldl addVar []
theorem addVar_len (out : List (List Nat)) (t : Tm) : (addVar out t).length ≤ out.length + 1 := by
  unfold addVar; split <;> simp
theorem cVars_len (l : List Tm) : (cVars l).length ≤ l.length := by
  have : ∀ (l : List Tm) (out : List (List Nat)), (l.foldl addVar out).length ≤ out.length + l.length := by
    intro l
    induction l with
    | nil => intro out; simp
    | cons t l ih =>
      intro out
      rw [List.foldl_cons, List.length_cons]
      have := ih (addVar out t)
      have := addVar_len out t
      omega
  simpa [cVars] using this l []
end Delphi
namespace Go.Proofs.Ytjidefnbancmfaa
open Go.AE Delphi
variable {tab : Tab}
theorem tms_at {T : Nat → Prop} {w : AW} {v : V} {l : List Tm} (h : Rd T w v 3 l.length (tmsC l)) {i : Nat} {t : Tm} (hi : l[i]? = some t) : ∃ b o c, v = .slice b o l.length c ∧ T b ∧ b < w.next ∧ w.load b (o + i * 3) 3 = some (tmC t) ∧ w.load b (o + i * 3) 1 = some [.int .i64 (Int.ofNat t.kind)] ∧ w.load b (o + i * 3 + 1) 1 = some [.str t.name] := by
  have hlt : i < l.length := (List.getElem?_eq_some_iff.1 hi).1
  rcases h.inv with ⟨_, q2, _⟩ | ⟨b, o, c, rfl, hB⟩
  · omega
  · have part : ∀ j k, j + k ≤ 3 → w.load b (o + i * 3 + j) k = some (((tmC t).drop j).take k) := by
      intro j k hjk
      rw [Nat.add_assoc, hB.load (i * 3 + j) k (by omega)]
      have h2 := flat_part tmC_len (i := i) (j := j) (k := k) hi hjk
      rw [Nat.zero_add] at h2
      exact congrArg some h2
    exact ⟨b, o, c, rfl, hB.own, hB.lt, part 0 3 (by omega), part 0 1 (by omega), part 1 1 (by omega)⟩
theorem lits_at {T : Nat → Prop} {w : AW} {v : V} {l : List Lt} (h : RdL (LtC T) T w v 3 l) {i : Nat} {t : Lt} (hi : l[i]? = some t) : ∃ b o c u, v = .slice b o l.length c ∧ T b ∧ b < w.next ∧ w.load b (o + i * 3) 3 = some [.int .i64 (Int.ofNat t.kind), .str t.name, u] ∧ w.load b (o + i * 3) 1 = some [.int .i64 (Int.ofNat t.kind)] ∧ w.load b (o + i * 3 + 1) 1 = some [.str t.name] ∧ w.load b (o + i * 3 + 2) 1 = some [u] ∧ Rd T w u 3 t.args.length (tmsC t.args) := by
  have hlt : i < l.length := (List.getElem?_eq_some_iff.1 hi).1
  rcases h.inv (fun a xs hx => (LtC.one hx).1) with ⟨_, q2⟩ | ⟨b, o, c, rfl, hT, hb, _, hat⟩
  · rw [q2] at hlt; simp at hlt
  · obtain ⟨xs, ⟨u, rfl, hu⟩, hp⟩ := hat i t hi
    exact ⟨b, o, c, u, rfl, hT, hb, hp 0 3 (by omega), hp 0 1 (by omega), hp 1 1 (by omega), hp 2 1 (by omega), hu⟩
theorem rdL_lenV {α : Type} {r : AW → α → List V → Prop} {T : Nat → Prop} {w : AW} {v : V} {esz : Nat} {l : List α} (h : RdL r T w v esz l) : lenV v = some l.length := by
  obtain ⟨xss, h1, _⟩ := h; exact h1.lenV
def strsC (l : List (List Nat)) : List V := l.map V.str
theorem strsC_len (l : List (List Nat)) : (strsC l).length = l.length := by simp [strsC]
abbrev SM := MB (α := List Nat) (β := Int) V.str (V.int .i64)
/-- what is seen, how often. -/
def Seen (M : List (List Nat × Int)) (out : List (List Nat)) (i : Nat) : Prop := ∀ x, (aget M x = none ↔ x ∉ out) ∧ ∀ c, aget M x = some c → 1 ≤ c ∧ c ≤ i
def VarI (T : Nat → Prop) (aw : AW) (lv : V) (l : List Tm) (q : Nat) (f : Fr) (w : AW) : Prop :=
  ∃ i bm M out ov S, f.get 3 = some ov ∧ f.get 4 = some (.map bm) ∧ f.get 8 = some lv ∧ f.get 9 = some (.int .i64 (Int.ofNat l.length)) ∧ f.get 10 = some (.int .i64 (Int.ofNat i)) ∧ i ≤ l.length ∧ q = l.length - i ∧
    SM w bm M ∧ aw.next ≤ bm ∧ Seen M out i ∧ cVars l = (l.drop i).foldl addVar out ∧ out.length ≤ i ∧ Bt S w ov 1 out.length (strsC out) ∧ (∀ x, S x → aw.next ≤ x ∧ x < w.next ∧ x ≠ bm) ∧ Frm (fun _ => False) aw w
def VarJ (aw : AW) (l : List Tm) (f : Fr) (w : AW) : Prop := ∃ ov S, f.get 3 = some ov ∧ Bt S w ov 1 (cVars l).length (strsC (cVars l)) ∧ (∀ x, S x → aw.next ≤ x ∧ x < w.next) ∧ Frm (fun _ => False) aw w
/-- Vars. -/
theorem vars_ok (C : Codes tab) {T : Nat → Prop} {aw : AW} {lv : V} {l : List Tm} {K : V → AW → Prop} (hl : Rd T aw lv 3 l.length (tmsC l)) (hn : l.length ≤ 100000)
    (h : ∀ v w S, Bt S w v 1 (cVars l).length (strsC (cVars l)) → Frm (fun _ => False) aw w → (∀ x, S x → aw.next ≤ x ∧ x < w.next) → K v w) : WF tab n_check_Vars [lv] aw K := by
  refine WF_of C.c_check_Vars rfl ?_
  have hlv := hl.lenV
  refine WS_run 1000 (by simp only [go_sem, eRun_exit, Nat.reduceAdd, Nat.reduceLT, Nat.reduceEqDiff, reduceIte, reduceCtorEq, Nat.reduceLeDiff, k_check_Vars, k_check_Vars_p5, hlv]; rfl) ?_
  refine WS_loopJ (VarI T aw lv l) (VarJ aw l) ?_ ?_ l.length ⟨0, aw.next, [], [], .nilslice, fun _ => False, (by simp only [go_sem, eRun_exit, Nat.reduceAdd, Nat.reduceLT, Nat.reduceEqDiff, reduceIte, reduceCtorEq, Nat.reduceLeDiff] <;> rfl), (by simp only [go_sem, eRun_exit, Nat.reduceAdd, Nat.reduceLT, Nat.reduceEqDiff, reduceIte, reduceCtorEq, Nat.reduceLeDiff] <;> rfl), (by simp only [go_sem, eRun_exit, Nat.reduceAdd, Nat.reduceLT, Nat.reduceEqDiff, reduceIte, reduceCtorEq, Nat.reduceLeDiff] <;> rfl), (by simp only [go_sem, eRun_exit, Nat.reduceAdd, Nat.reduceLT, Nat.reduceEqDiff, reduceIte, reduceCtorEq, Nat.reduceLeDiff] <;> rfl), (by simp only [go_sem, eRun_exit, Nat.reduceAdd, Nat.reduceLT, Nat.reduceEqDiff, reduceIte, reduceCtorEq, Nat.reduceLeDiff] <;> rfl), by omega, by omega, MB.new aw, Nat.le_refl _, fun x => ⟨by simp [aget], fun c hc => by simp [aget] at hc⟩, rfl, by simp, .nil, fun _ h => h.elim, mnew_frm aw⟩
  · rintro q f w ⟨i, bm, M, out, ov, S, f3, f4, f8, f9, f10, hi, rfl, hM, hbm, hseen, hfold, hol, hb, hS, hf⟩ ih exit
    by_cases hlt : i < l.length
    case neg =>
      rw [List.drop_eq_nil_of_le (by omega : l.length ≤ i)] at hfold
      have hfold : cVars l = out := hfold
      refine WS_runB 1000 (by simp only [go_sem, Nat.reduceAdd, Nat.reduceLT, Nat.reduceEqDiff, reduceIte, reduceCtorEq, Nat.reduceLeDiff, k_check_Vars_p4, f9, f10, hlt]; rfl) ?_
      exact exit _ _ _ ⟨ov, S, (by simp only [go_sem, eRun_exit, Nat.reduceAdd, Nat.reduceLT, Nat.reduceEqDiff, reduceIte, reduceCtorEq, Nat.reduceLeDiff, f3] <;> rfl), by rw [hfold]; exact hb, fun x hx => ⟨(hS x hx).1, (hS x hx).2.1⟩, hf⟩ rfl
    obtain ⟨t, ht⟩ : ∃ t, l[i]? = some t := ⟨_, List.getElem?_eq_getElem hlt⟩
    obtain ⟨b, o, c, rfl, hTb, hbl, a3, a1, a2⟩ := tms_at (hl.frm hf fun _ _ h => h) ht
    have hd : l.drop i = t :: l.drop (i + 1) := by
      rw [List.drop_eq_getElem_cons hlt]; rw [List.getElem?_eq_getElem hlt] at ht; rw [Option.some.inj ht]
    rw [hd, List.foldl_cons] at hfold
    have hwr : IntKind.wrap .i64 (Int.ofNat i + 1) = Int.ofNat (i + 1) := wrap_succ (by omega)
    obtain ⟨w2, s2, c2, r2, n2⟩ := boxed w (zs := [V.int .i64 0, V.str [], V.int .i64 0]) (vs := tmC t) rfl rfl
    have k0 : w2.load w.next 0 1 = some [.int .i64 (Int.ofNat t.kind)] := by rw [c2.load]; rfl
    have k1 : w2.load w.next 1 1 = some [.str t.name] := by rw [c2.load]; rfl
    have hM2 := hM.frm r2 fun h => h
    have hb2 := hb.frm r2 fun _ _ h => h
    have hf2 := hf.tr r2
    have nw := hf.next
    by_cases hk : t.kind = 1
    case neg =>
      have he : addVar out t = out := if_neg fun h => hk h.1
      rw [he] at hfold
      refine WS_run 1000 (by simp only [go_sem, eRun_exit, Nat.reduceAdd, Nat.reduceLT, Nat.reduceEqDiff, reduceIte, reduceCtorEq, Nat.reduceLeDiff, k_check_Vars_p4, k_check_Vars_p3, f3, f4, f8, f9, f10, hlt, a3, s2, tmC_len, k0, hk, hwr]; rfl) ?_
      exact ih _ _ _ (by omega) ⟨i + 1, bm, M, out, ov, S, (by simp only [go_sem, eRun_exit, Nat.reduceAdd, Nat.reduceLT, Nat.reduceEqDiff, reduceIte, reduceCtorEq, Nat.reduceLeDiff, f3] <;> rfl), (by simp only [go_sem, eRun_exit, Nat.reduceAdd, Nat.reduceLT, Nat.reduceEqDiff, reduceIte, reduceCtorEq, Nat.reduceLeDiff, f4] <;> rfl), (by simp only [go_sem, eRun_exit, Nat.reduceAdd, Nat.reduceLT, Nat.reduceEqDiff, reduceIte, reduceCtorEq, Nat.reduceLeDiff, f8] <;> rfl), (by simp only [go_sem, eRun_exit, Nat.reduceAdd, Nat.reduceLT, Nat.reduceEqDiff, reduceIte, reduceCtorEq, Nat.reduceLeDiff, f9] <;> rfl), (by simp only [go_sem, eRun_exit, Nat.reduceAdd, Nat.reduceLT, Nat.reduceEqDiff, reduceIte, reduceCtorEq, Nat.reduceLeDiff] <;> rfl), by omega, rfl, hM2, hbm, fun x => ⟨(hseen x).1, fun c hc => by have := (hseen x).2 c hc; omega⟩, hfold, by omega, hb2, fun x hx => by have := hS x hx; exact ⟨this.1, by omega, this.2.2⟩, hf2⟩
    -- how often it was seen
    obtain ⟨n, hn0, hn1, hgn⟩ : ∃ n : Nat, n ≤ i ∧ (n = 0 ↔ t.name ∉ out) ∧ mres (V.int .i64) (V.int .i64 0) (aget M t.name) = (V.int .i64 (Int.ofNat n), decide (n ≠ 0)) := by
      cases hg : aget M t.name with
      | none => exact ⟨0, by omega, by simp [(hseen t.name).1.1 hg], rfl⟩
      | some c =>
        have hc := (hseen t.name).2 c hg
        have hin : ¬ t.name ∉ out := fun h => by have := (hseen t.name).1.2 h; rw [this] at hg; cases hg
        refine ⟨c.toNat, by omega, ⟨fun h => by omega, fun h => absurd h hin⟩, ?_⟩
        have e1 : Int.ofNat c.toNat = c := by simp; omega
        have e2 : decide (c.toNat ≠ 0) = true := decide_eq_true (by omega)
        show (V.int .i64 c, true) = _
        rw [e1, e2]
    have look := hM2.look strKey (.int .i64 0) t.name
    rw [hgn] at look
    obtain ⟨w3, p3, hM3, r3, n3⟩ := hM2.put strKey t.name (Int.ofNat (n + 1))
    have hw3 : IntKind.wrap .i64 (Int.ofNat n + 1) = Int.ofNat (n + 1) := wrap_succ (by omega)
    have k3 : w3.load w.next 1 1 = some [.str t.name] := by rw [(c2.frm r3 (by have := hM.lt; omega)).load]; rfl
    have look3 := hM3.look strKey (.int .i64 0) t.name
    rw [aget_put_same] at look3
    simp only [mres] at look3
    have hb3 := hb2.frm r3 fun x hx he => (hS x hx).2.2 he
    have hf3 : Frm (fun _ => False) aw w3 := hf2.trans r3 (fun _ _ h => h) (by rintro x hx rfl; omega)
    have seen3 : ∀ out', (∀ x, x ∈ out' ↔ x ∈ out ∨ x = t.name) → Seen (aput M t.name (Int.ofNat (n + 1))) out' (i + 1) := by
      intro out' ho x
      by_cases hx : x = t.name
      · subst hx
        rw [aget_put_same]
        refine ⟨⟨fun h => (by cases h), fun h => absurd ((ho t.name).2 (.inr rfl)) h⟩, fun c hc => ?_⟩
        cases hc
        constructor
        · show (1 : Int) ≤ ((n + 1 : Nat) : Int); omega
        · show ((n + 1 : Nat) : Int) ≤ _; omega
      · rw [aget_put_ne _ _ _ _ hx]
        refine ⟨?_, fun c hc => by have := (hseen x).2 c hc; omega⟩
        rw [(hseen x).1, ho x]
        simp [hx]
    by_cases hn : n = 0
    · have hno := hn1.1 hn
      have he : addVar out t = out ++ [t.name] := if_pos ⟨hk, hno⟩
      rw [he] at hfold
      subst hn
      have hS3 : ∀ b, S b → b < w3.next := fun b hb => by have := (hS b hb).2; omega
      obtain ⟨v', w5, S5, u1, u2, u3, u4⟩ := hb3.push (news := [V.str t.name]) (bytes := 16) hS3 (by omega) rfl rfl (by omega) (by omega)
      have b4 := elems_fresh (w := w3) (esz := 1) (n := 1) (cs := [V.str t.name]) (c := .known 1) (by omega) rfl
      have hov : over [V.str []] 0 [V.str t.name] = some [V.str t.name] := rfl
      refine WS_run 1000 (by simp only [go_sem, eRun_exit, Nat.reduceAdd, Nat.reduceLT, Nat.reduceEqDiff, reduceIte, reduceCtorEq, Nat.reduceLeDiff, k_check_Vars_p4, k_check_Vars_p3, k_check_Vars_p2, k_check_Vars_p1, k_check_Vars_p0, f3, f4, f8, f9, f10, hlt, a3, s2, tmC_len, k0, k1, k3, hk, hwr, look, hw3, p3, look3, evParts, fillV, hov, u1, b4, List.length_cons, List.length_nil]; rfl) ?_
      refine ih _ _ _ (by omega) ⟨i + 1, bm, _, out ++ [t.name], v', S5, (by simp only [go_sem, eRun_exit, Nat.reduceAdd, Nat.reduceLT, Nat.reduceEqDiff, reduceIte, reduceCtorEq, Nat.reduceLeDiff] <;> rfl), (by simp only [go_sem, eRun_exit, Nat.reduceAdd, Nat.reduceLT, Nat.reduceEqDiff, reduceIte, reduceCtorEq, Nat.reduceLeDiff, f4] <;> rfl), (by simp only [go_sem, eRun_exit, Nat.reduceAdd, Nat.reduceLT, Nat.reduceEqDiff, reduceIte, reduceCtorEq, Nat.reduceLeDiff, f8] <;> rfl), (by simp only [go_sem, eRun_exit, Nat.reduceAdd, Nat.reduceLT, Nat.reduceEqDiff, reduceIte, reduceCtorEq, Nat.reduceLeDiff, f9] <;> rfl), (by simp only [go_sem, eRun_exit, Nat.reduceAdd, Nat.reduceLT, Nat.reduceEqDiff, reduceIte, reduceCtorEq, Nat.reduceLeDiff] <;> rfl), by omega, rfl, hM3.frm u3 fun h => (hS _ h).2.2 rfl, hbm, seen3 _ (by simp), hfold, by simp; omega, ?_, fun x hx => ?_, hf3.trans u3 (fun _ _ h => h) fun x hx h => by have := (hS x h).1; omega⟩
      · rw [List.length_append, List.length_singleton]
        have : strsC (out ++ [t.name]) = strsC out ++ [V.str t.name] := by simp [strsC]
        rw [this]; exact u2
      · obtain ⟨m1, m2⟩ := u4 x hx
        have := hM.lt
        rcases m2 with m2 | m2
        · exact ⟨(hS x m2).1, m1, (hS x m2).2.2⟩
        · exact ⟨by omega, m1, by omega⟩
    · have hin : t.name ∈ out := Classical.byContradiction fun h => hn (hn1.2 h)
      have he : addVar out t = out := if_neg fun h => h.2 hin
      rw [he] at hfold
      have hne : ¬ n + 1 = 1 := by omega
      refine WS_run 1000 (by simp only [go_sem, eRun_exit, Nat.reduceAdd, Nat.reduceLT, Nat.reduceEqDiff, reduceIte, reduceCtorEq, Nat.reduceLeDiff, k_check_Vars_p4, k_check_Vars_p3, k_check_Vars_p2, k_check_Vars_p1, f3, f4, f8, f9, f10, hlt, a3, s2, tmC_len, k0, k1, k3, hk, hwr, look, hw3, p3, look3, hne]; rfl) ?_
      exact ih _ _ _ (by omega) ⟨i + 1, bm, _, out, ov, S, (by simp only [go_sem, eRun_exit, Nat.reduceAdd, Nat.reduceLT, Nat.reduceEqDiff, reduceIte, reduceCtorEq, Nat.reduceLeDiff, f3] <;> rfl), (by simp only [go_sem, eRun_exit, Nat.reduceAdd, Nat.reduceLT, Nat.reduceEqDiff, reduceIte, reduceCtorEq, Nat.reduceLeDiff, f4] <;> rfl), (by simp only [go_sem, eRun_exit, Nat.reduceAdd, Nat.reduceLT, Nat.reduceEqDiff, reduceIte, reduceCtorEq, Nat.reduceLeDiff, f8] <;> rfl), (by simp only [go_sem, eRun_exit, Nat.reduceAdd, Nat.reduceLT, Nat.reduceEqDiff, reduceIte, reduceCtorEq, Nat.reduceLeDiff, f9] <;> rfl), (by simp only [go_sem, eRun_exit, Nat.reduceAdd, Nat.reduceLT, Nat.reduceEqDiff, reduceIte, reduceCtorEq, Nat.reduceLeDiff] <;> rfl), by omega, rfl, hM3, hbm, seen3 _ (fun x => ⟨.inl, fun h => h.elim id fun h => h ▸ hin⟩), hfold, by omega, hb3, fun x hx => by have := hS x hx; exact ⟨this.1, by omega, this.2.2⟩, hf3⟩
  · rintro f w ⟨ov, S, f3, hb, hS, hf⟩
    refine WS_run 1000 (by simp only [go_sem, eRun_exit, Nat.reduceAdd, Nat.reduceLT, Nat.reduceEqDiff, reduceIte, reduceCtorEq, Nat.reduceLeDiff, f3]; rfl) ?_
    refine WS_ret ⟨_, by simp only [go_sem, eRun_exit, Nat.reduceAdd, Nat.reduceLT, Nat.reduceEqDiff, reduceIte, reduceCtorEq, Nat.reduceLeDiff, k_check_Vars]; rfl, ?_⟩
    exact h ov w S hb hf hS
end Go.Proofs.Ytjidefnbancmfaa

/- check.Safe. -/
set_option linter.unusedVariables false
set_option maxRecDepth 10000
set_option linter.unusedSimpArgs false
namespace Delphi
/-- what must be bound, what is. -/
def rNeed (r : Rl) : List (List Nat) := r.body.foldl (fun acc l => if l.kind = 1 then acc else acc ++ cVars l.args) (cVars r.head.args)
def rBound (r : Rl) : List (List Nat) := r.body.foldl (fun acc l => if l.kind = 1 then acc ++ cVars l.args else acc) []
def cSafe (r : Rl) : Bool := (rNeed r).all fun v => decide (v ∈ rBound r)
structure RBd (r : Rl) : Prop where
  head : r.head.args.length ≤ 1000
  body : r.body.length ≤ 1000
  args : ∀ l ∈ r.body, l.args.length ≤ 1000
end Delphi
namespace Go.Proofs.Ytjidefnbancmfaa
open Go.AE Delphi
variable {tab : Tab}
theorem seen_look {M : List (List Nat × Int)} {out : List (List Nat)} {i : Nat} (h : Seen M out i) (k : List Nat) : ∃ n : Nat, n ≤ i ∧ (n = 0 ↔ k ∉ out) ∧ mres (V.int .i64) (V.int .i64 0) (aget M k) = (V.int .i64 (Int.ofNat n), decide (n ≠ 0)) := by
  cases hg : aget M k with
  | none => exact ⟨0, by omega, by simp [(h k).1.1 hg], rfl⟩
  | some c =>
    have hc := (h k).2 c hg
    have hin : ¬ k ∉ out := fun hh => by have := (h k).1.2 hh; rw [this] at hg; cases hg
    refine ⟨c.toNat, by omega, ⟨fun h => by omega, fun h => absurd h hin⟩, ?_⟩
    have e1 : Int.ofNat c.toNat = c := by simp; omega
    have e2 : decide (c.toNat ≠ 0) = true := decide_eq_true (by omega)
    show (V.int .i64 c, true) = _
    rw [e1, e2]
theorem seen_put {M : List (List Nat × Int)} {out out' : List (List Nat)} {i n : Nat} {k : List Nat} (h : Seen M out i) (hn : n ≤ i) (ho : ∀ x, x ∈ out' ↔ x ∈ out ∨ x = k) : Seen (aput M k (Int.ofNat (n + 1))) out' (i + 1) := by
  intro x
  by_cases hx : x = k
  · subst hx
    rw [aget_put_same]
    refine ⟨⟨fun h => (by cases h), fun h => absurd ((ho x).2 (.inr rfl)) h⟩, fun c hc => ?_⟩
    cases hc
    constructor
    · show (1 : Int) ≤ ((n + 1 : Nat) : Int); omega
    · show ((n + 1 : Nat) : Int) ≤ _; omega
  · rw [aget_put_ne _ _ _ _ hx]
    refine ⟨?_, fun c hc => by have := (h x).2 c hc; omega⟩
    rw [(h x).1, ho x]
    simp [hx]
theorem strs_at {T : Nat → Prop} {w : AW} {v : V} {l : List (List Nat)} (h : Rd T w v 1 l.length (strsC l)) {i : Nat} {s : List Nat} (hi : l[i]? = some s) : ∃ b o c, v = .slice b o l.length c ∧ T b ∧ b < w.next ∧ w.load b (o + i * 1) 1 = some [.str s] := by
  have hlt : i < l.length := (List.getElem?_eq_some_iff.1 hi).1
  rcases h.inv with ⟨_, q2, _⟩ | ⟨b, o, c, rfl, hB⟩
  · omega
  · refine ⟨b, o, c, rfl, hB.own, hB.lt, hB.cell (by omega) ?_⟩
    simp only [strsC, List.getElem?_map, Nat.mul_one, hi, Option.map_some]
/-- names counted, one by one. -/
def CntI (a : AW) (bm : Nat) (lv : V) (vs bnd : List (List Nat)) (N : Nat) (f0 : Fr) (q : Nat) (f : Fr) (w : AW) : Prop :=
  ∃ j M bnd', f.get 3 = some (.map bm) ∧ f.get 33 = some lv ∧ f.get 34 = some (.int .i64 (Int.ofNat vs.length)) ∧ f.get 35 = some (.int .i64 (Int.ofNat j)) ∧ (∀ y, y = 1 ∨ y = 2 ∨ y = 4 ∨ y = 17 ∨ y = 18 ∨ y = 19 → f.get y = f0.get y) ∧ j ≤ vs.length ∧ q = vs.length - j ∧
    SM w bm M ∧ Seen M bnd' (N + j) ∧ (∀ x, x ∈ bnd' ↔ x ∈ bnd ∨ x ∈ vs.take j) ∧ Frm (fun b => b = bm) a w ∧ w.next = a.next
def CntJ (a : AW) (bm : Nat) (vs bnd : List (List Nat)) (N : Nat) (f0 : Fr) (f : Fr) (w : AW) : Prop :=
  ∃ M bnd', f.get 3 = some (.map bm) ∧ (∀ y, y = 1 ∨ y = 2 ∨ y = 4 ∨ y = 17 ∨ y = 18 ∨ y = 19 → f.get y = f0.get y) ∧ SM w bm M ∧ Seen M bnd' (N + vs.length) ∧ (∀ x, x ∈ bnd' ↔ x ∈ bnd ∨ x ∈ vs) ∧ Frm (fun b => b = bm) a w ∧ w.next = a.next
theorem cnt_step {T : Nat → Prop} {a w : AW} {bm : Nat} {lv : V} {vs bnd : List (List Nat)} {N : Nat} {f0 f : Fr} {q : Nat} {s : List SI} {Q : Fr → AW → Prop} (hl : Rd T a lv 1 vs.length (strsC vs)) (hT : ∀ x, T x → x ≠ bm) (hN : N + vs.length ≤ 1000000000)
    (hI : CntI a bm lv vs bnd N f0 q f w) (ih : ∀ n' f' w', n' < q → CntI a bm lv vs bnd N f0 n' f' w' → WS tab (.code (.loop k_check_Safe_p3) :: .endB 2 :: s) f' w' Q)
    (out : ∀ s' f' w', CntJ a bm vs bnd N f0 f' w' → popTo 2 s' = some s → WS tab (.code (.exit 2) :: s') f' w' Q) : WS tab (.code k_check_Safe_p3 :: .code (.loop k_check_Safe_p3) :: .endB 2 :: s) f w Q := by
  obtain ⟨j, M, bnd', f3, f33, f34, f35, hold, hj, rfl, hM, hseen, hbnd, hf, hn⟩ := hI
  by_cases hlt : j < vs.length
  case neg =>
    have : j = vs.length := by omega
    subst this
    rw [List.take_length] at hbnd
    refine WS_runB 1000 (by simp only [go_sem, Nat.reduceAdd, Nat.reduceLT, Nat.reduceEqDiff, reduceIte, reduceCtorEq, Nat.reduceLeDiff, k_check_Safe_p3, f34, f35, hlt]; rfl) ?_
    refine out _ _ _ ⟨M, bnd', (by simp only [go_sem, eRun_exit, Nat.reduceAdd, Nat.reduceLT, Nat.reduceEqDiff, reduceIte, reduceCtorEq, Nat.reduceLeDiff, f3] <;> rfl), ?_, hM, hseen, hbnd, hf, hn⟩ rfl
    rintro y hy
    rw [← hold y hy]
    rcases hy with rfl | rfl | rfl | rfl | rfl | rfl <;> exact (by simp only [go_sem, eRun_exit, Nat.reduceAdd, Nat.reduceLT, Nat.reduceEqDiff, reduceIte, reduceCtorEq, Nat.reduceLeDiff] <;> rfl)
  obtain ⟨v, hv⟩ : ∃ v, vs[j]? = some v := ⟨_, List.getElem?_eq_getElem hlt⟩
  obtain ⟨b, o, c, rfl, hTb, hbl, a1⟩ := strs_at (hl.frm hf fun x hx he => hT x hx he) hv
  obtain ⟨n, hn0, hn1, hgn⟩ := seen_look hseen v
  have look := hM.look strKey (.int .i64 0) v
  rw [hgn] at look
  obtain ⟨w3, p3, hM3, r3, n3⟩ := hM.put strKey v (Int.ofNat (n + 1))
  have hw3 : IntKind.wrap .i64 (Int.ofNat n + 1) = Int.ofNat (n + 1) := wrap_succ (by omega)
  have hwr : IntKind.wrap .i64 (Int.ofNat j + 1) = Int.ofNat (j + 1) := wrap_succ (by omega)
  refine WS_run 1000 (by simp only [go_sem, eRun_exit, Nat.reduceAdd, Nat.reduceLT, Nat.reduceEqDiff, reduceIte, reduceCtorEq, Nat.reduceLeDiff, k_check_Safe_p3, k_check_Safe_p2, k_check_Safe_p1, f3, f33, f34, f35, hlt, a1, look, hw3, p3, hwr]; rfl) ?_
  refine ih _ _ _ (by omega) ⟨j + 1, _, v :: bnd', (by simp only [go_sem, eRun_exit, Nat.reduceAdd, Nat.reduceLT, Nat.reduceEqDiff, reduceIte, reduceCtorEq, Nat.reduceLeDiff, f3] <;> rfl), (by simp only [go_sem, eRun_exit, Nat.reduceAdd, Nat.reduceLT, Nat.reduceEqDiff, reduceIte, reduceCtorEq, Nat.reduceLeDiff, f33] <;> rfl), (by simp only [go_sem, eRun_exit, Nat.reduceAdd, Nat.reduceLT, Nat.reduceEqDiff, reduceIte, reduceCtorEq, Nat.reduceLeDiff, f34] <;> rfl), (by simp only [go_sem, eRun_exit, Nat.reduceAdd, Nat.reduceLT, Nat.reduceEqDiff, reduceIte, reduceCtorEq, Nat.reduceLeDiff] <;> rfl), ?_, by omega, rfl, hM3, seen_put hseen hn0 (by intro x; simp [or_comm]), fun x => ?_, hf.tr r3, n3.trans hn⟩
  · rintro y hy
    rw [← hold y hy]
    rcases hy with rfl | rfl | rfl | rfl | rfl | rfl <;> exact (by simp only [go_sem, eRun_exit, Nat.reduceAdd, Nat.reduceLT, Nat.reduceEqDiff, reduceIte, reduceCtorEq, Nat.reduceLeDiff] <;> rfl)
  · have ht : vs.take (j + 1) = vs.take j ++ [v] := by
      rw [List.take_add_one, hv]; rfl
    rw [List.mem_cons, hbnd, ht, List.mem_append, List.mem_singleton]
    constructor
    · rintro (h | h | h)
      · exact .inr (.inr h)
      · exact .inl h
      · exact .inr (.inl h)
    · rintro (h | h | h)
      · exact .inr (.inl h)
      · exact .inr (.inr h)
      · exact .inl h
end Go.Proofs.Ytjidefnbancmfaa

/- check.Safe, whole. -/
set_option linter.unusedVariables false
set_option maxRecDepth 10000
set_option linter.unusedSimpArgs false
namespace Delphi
def needL (acc : List (List Nat)) (l : Lt) : List (List Nat) := if l.kind = 1 then acc else acc ++ cVars l.args
def bndL (acc : List (List Nat)) (l : Lt) : List (List Nat) := if l.kind = 1 then acc ++ cVars l.args else acc
theorem rNeed_eq (r : Rl) : rNeed r = r.body.foldl needL (cVars r.head.args) := rfl
theorem rBound_eq (r : Rl) : rBound r = r.body.foldl bndL [] := rfl
end Delphi
namespace Go.Proofs.Ytjidefnbancmfaa
open Go.AE Delphi
variable {tab : Tab}
structure SF (f : Fr) (n1 bm : Nat) (nv uv : V) (n i : Nat) : Prop where
  f1 : f.get 1 = some (.ptr n1 0)
  f3 : f.get 3 = some (.map bm)
  f4 : f.get 4 = some nv
  f17 : f.get 17 = some uv
  f18 : f.get 18 = some (.int .i64 (Int.ofNat n))
  f19 : f.get 19 = some (.int .i64 (Int.ofNat i))
structure SW (aw w : AW) (bm : Nat) (M : List (List Nat × Int)) (bnd bl : List (List Nat)) (N : Nat) (nv : V) (nd : List (List Nat)) (S : Nat → Prop) : Prop where
  mp : SM w bm M
  seen : Seen M bnd N
  same : ∀ x, x ∈ bnd ↔ x ∈ bl
  need : Bt S w nv 1 nd.length (strsC nd)
  frm : Frm (fun _ => False) aw w
  hbm : aw.next ≤ bm
  sep : ∀ x, S x → aw.next ≤ x ∧ x < w.next ∧ x ≠ bm
def SafI (aw : AW) (n1 bm : Nat) (uv : V) (r : Rl) (q : Nat) (f : Fr) (w : AW) : Prop :=
  ∃ i M bnd bl N nv nd S, SF f n1 bm nv uv r.body.length i ∧ SW aw w bm M bnd bl N nv nd S ∧ i ≤ r.body.length ∧ q = r.body.length - i ∧ rNeed r = (r.body.drop i).foldl needL nd ∧ rBound r = (r.body.drop i).foldl bndL bl ∧ N ≤ 1000 * i ∧ nd.length ≤ 1000 * (i + 1)
def SafJ (aw : AW) (bm : Nat) (r : Rl) (f : Fr) (w : AW) : Prop :=
  ∃ M bnd N nv S, f.get 3 = some (.map bm) ∧ f.get 4 = some nv ∧ SW aw w bm M bnd (rBound r) N nv (rNeed r) S ∧ N ≤ 1000000
theorem strsC_app (a b : List (List Nat)) : strsC (a ++ b) = strsC a ++ strsC b := by simp [strsC]
theorem strsC_one (a : List (List Nat)) : allOne (strsC a) = true := by rw [allOne_iff]; intro v hv; simp only [strsC, List.mem_map] at hv; obtain ⟨x, _, rfl⟩ := hv; rfl
theorem safe_step (C : Codes tab) {T : Nat → Prop} {aw w : AW} {n1 bm : Nat} {uv : V} {r : Rl} {q : Nat} {f : Fr} {s : List SI} {Q : Fr → AW → Prop} (hu : RdL (LtC T) T aw uv 3 r.body) (hbd : RBd r)
    (hI : SafI aw n1 bm uv r q f w) (ih : ∀ n' f' w', n' < q → SafI aw n1 bm uv r n' f' w' → WS tab (.code (.loop k_check_Safe_p6) :: .endB 0 :: s) f' w' Q)
    (out : ∀ s' f' w', SafJ aw bm r f' w' → popTo 0 s' = some s → WS tab (.code (.exit 0) :: s') f' w' Q) : WS tab (.code k_check_Safe_p6 :: .code (.loop k_check_Safe_p6) :: .endB 0 :: s) f w Q := by
  obtain ⟨i, M, bnd, bl, N, nv, nd, S, ⟨f1, f3, f4, f17, f18, f19⟩, hA, hi, rfl, hnd, hbl, hN, hndl⟩ := hI
  by_cases hlt : i < r.body.length
  case neg =>
    rw [List.drop_eq_nil_of_le (by omega : r.body.length ≤ i)] at hnd hbl
    have hnd : rNeed r = nd := hnd
    have hbl : rBound r = bl := hbl
    refine WS_runB 1000 (by simp only [go_sem, Nat.reduceAdd, Nat.reduceLT, Nat.reduceEqDiff, reduceIte, reduceCtorEq, Nat.reduceLeDiff, k_check_Safe_p6, f18, f19, hlt]; rfl) ?_
    exact out _ _ _ ⟨M, bnd, N, nv, S, (by simp only [go_sem, eRun_exit, Nat.reduceAdd, Nat.reduceLT, Nat.reduceEqDiff, reduceIte, reduceCtorEq, Nat.reduceLeDiff, f3] <;> rfl), (by simp only [go_sem, eRun_exit, Nat.reduceAdd, Nat.reduceLT, Nat.reduceEqDiff, reduceIte, reduceCtorEq, Nat.reduceLeDiff, f4] <;> rfl), by rw [hnd, hbl]; exact hA, by have := hbd.body; have : N ≤ 1000 * 1000 := Nat.le_trans hN (Nat.mul_le_mul_left _ (by omega)); omega⟩ rfl
  obtain ⟨t, ht⟩ : ∃ t, r.body[i]? = some t := ⟨_, List.getElem?_eq_getElem hlt⟩
  have hd : r.body.drop i = t :: r.body.drop (i + 1) := by
    rw [List.drop_eq_getElem_cons hlt]; rw [List.getElem?_eq_getElem hlt] at ht; rw [Option.some.inj ht]
  have hargs := hbd.args t (List.mem_of_getElem? ht)
  rw [hd, List.foldl_cons] at hnd hbl
  have hwr : IntKind.wrap .i64 (Int.ofNat i + 1) = Int.ofNat (i + 1) := wrap_succ (by have := hbd.body; omega)
  obtain ⟨b, o, c, u, rfl, hTb, hbb, a3, a0, _, _, hru⟩ := lits_at (hu.frm (fun _ _ h => h.frm hA.frm fun _ _ h => h) hA.frm fun _ _ h => h) ht
  have hone : allOne [V.int .i64 (Int.ofNat t.kind), .str t.name, u] = true := by rcases hru.inv with ⟨rfl, _⟩ | ⟨_, _, _, rfl, _⟩ <;> rfl
  obtain ⟨w2, s2, c2, r2, n2⟩ := boxed w (zs := [V.int .i64 0, V.str [], V.nilslice]) (vs := [V.int .i64 (Int.ofNat t.kind), .str t.name, u]) rfl hone
  have k0 : w2.load w.next 0 1 = some [.int .i64 (Int.ofNat t.kind)] := by rw [c2.load]; rfl
  have k2 : w2.load w.next 2 1 = some [u] := by rw [c2.load]; rfl
  have nw := hA.frm.next
  have hvl := cVars_len t.args
  by_cases hk : t.kind = 1
  case neg =>
    have e1 : needL nd t = nd ++ cVars t.args := if_neg hk
    have e2 : bndL bl t = bl := if_neg hk
    rw [e1] at hnd; rw [e2] at hbl
    refine WS_run 1000 (by simp only [go_sem, eRun_exit, Nat.reduceAdd, Nat.reduceLT, Nat.reduceEqDiff, reduceIte, reduceCtorEq, Nat.reduceLeDiff, k_check_Safe_p6, k_check_Safe_p5, k_check_Safe_p0, f4, f17, f18, f19, hlt, a3, s2, k0, k2, hk, List.length_cons, List.length_nil]; rfl) ?_
    refine WS_call (by simp only [go_sem, eRun_exit, Nat.reduceAdd, Nat.reduceLT, Nat.reduceEqDiff, reduceIte, reduceCtorEq, Nat.reduceLeDiff]) (by simp only [go_sem, eRun_exit, Nat.reduceAdd, Nat.reduceLT, Nat.reduceEqDiff, reduceIte, reduceCtorEq, Nat.reduceLeDiff]; rfl) ?_
    refine vars_ok C (hru.frm r2 fun _ _ h => h) (by omega) fun v w3 S3 q1 q2 q3 => ?_
    have r3 := r2.tr q2
    have need3 := hA.need.frm r3 fun _ _ h => h
    have hel := q1.rd.elems
    obtain ⟨v', w4, S4, u1, u2, u3, u4⟩ := need3.addN (news := strsC (cVars t.args)) (k := (cVars t.args).length) (bytes := 16) (by omega) (by rw [strsC_len]; omega) (strsC_one _) (by have := hbd.body; omega) (by have := hbd.body; omega)
    have hM3 := (hA.mp.frm r3 fun h => h).frm u3 fun h => (hA.sep _ h).2.2 rfl
    have n3 := r3.next
    refine WS_run 1000 (by simp only [go_sem, eRun_exit, Nat.reduceAdd, Nat.reduceLT, Nat.reduceEqDiff, reduceIte, reduceCtorEq, Nat.reduceLeDiff, f1, f3, f4, f17, f18, f19, hel, u1, hwr]; rfl) ?_
    refine ih _ _ _ (by omega) ⟨i + 1, M, bnd, bl, N, v', nd ++ cVars t.args, S4, ⟨(by simp only [go_sem, eRun_exit, Nat.reduceAdd, Nat.reduceLT, Nat.reduceEqDiff, reduceIte, reduceCtorEq, Nat.reduceLeDiff, f1] <;> rfl), (by simp only [go_sem, eRun_exit, Nat.reduceAdd, Nat.reduceLT, Nat.reduceEqDiff, reduceIte, reduceCtorEq, Nat.reduceLeDiff, f3] <;> rfl), (by simp only [go_sem, eRun_exit, Nat.reduceAdd, Nat.reduceLT, Nat.reduceEqDiff, reduceIte, reduceCtorEq, Nat.reduceLeDiff] <;> rfl), (by simp only [go_sem, eRun_exit, Nat.reduceAdd, Nat.reduceLT, Nat.reduceEqDiff, reduceIte, reduceCtorEq, Nat.reduceLeDiff, f17] <;> rfl), (by simp only [go_sem, eRun_exit, Nat.reduceAdd, Nat.reduceLT, Nat.reduceEqDiff, reduceIte, reduceCtorEq, Nat.reduceLeDiff, f18] <;> rfl), (by simp only [go_sem, eRun_exit, Nat.reduceAdd, Nat.reduceLT, Nat.reduceEqDiff, reduceIte, reduceCtorEq, Nat.reduceLeDiff] <;> rfl)⟩, ⟨hM3, hA.seen, hA.same, by rw [List.length_append, strsC_app]; exact u2, (hA.frm.tr r3).trans u3 (fun _ _ h => h) (fun x hx h => by have := (hA.sep x h).1; omega), hA.hbm, fun x hx => ?_⟩, by omega, rfl, hnd, hbl, by omega, by rw [List.length_append]; omega⟩
    obtain ⟨m1, m2⟩ := u4 x hx
    have := hA.mp.lt
    rcases m2 with m2 | m2
    · exact ⟨(hA.sep x m2).1, m1, (hA.sep x m2).2.2⟩
    · exact ⟨by omega, m1, by omega⟩
  · have e1 : needL nd t = nd := if_pos hk
    have e2 : bndL bl t = bl ++ cVars t.args := if_pos hk
    rw [e1] at hnd; rw [e2] at hbl
    rw [hk] at a3 s2 k0
    refine WS_run 1000 (by simp only [go_sem, eRun_exit, Nat.reduceAdd, Nat.reduceLT, Nat.reduceEqDiff, reduceIte, reduceCtorEq, Nat.reduceLeDiff, k_check_Safe_p6, k_check_Safe_p5, k_check_Safe_p4, f17, f18, f19, hlt, a3, s2, k0, k2, List.length_cons, List.length_nil]; rfl) ?_
    refine WS_call (by simp only [go_sem, eRun_exit, Nat.reduceAdd, Nat.reduceLT, Nat.reduceEqDiff, reduceIte, reduceCtorEq, Nat.reduceLeDiff]) (by simp only [go_sem, eRun_exit, Nat.reduceAdd, Nat.reduceLT, Nat.reduceEqDiff, reduceIte, reduceCtorEq, Nat.reduceLeDiff]; rfl) ?_
    refine vars_ok C (hru.frm r2 fun _ _ h => h) (by omega) fun v w3 S3 q1 q2 q3 => ?_
    have r3 := r2.tr q2
    have n3 := r3.next
    have hlv := q1.lenV
    have hM3 := hA.mp.frm r3 fun h => h
    have hbmw := hA.mp.lt
    refine WS_run 1000 (by simp only [go_sem, eRun_exit, Nat.reduceAdd, Nat.reduceLT, Nat.reduceEqDiff, reduceIte, reduceCtorEq, Nat.reduceLeDiff, hlv]; rfl) ?_
    refine WS_loopJ (CntI w3 bm v (cVars t.args) bnd N f) (CntJ w3 bm (cVars t.args) bnd N f) (fun n f w hI ih out => cnt_step q1.rd (fun x hx he => by have := (q3 x hx).1; omega) (by have := hbd.body; omega) hI ih out) ?_ (cVars t.args).length
      ⟨0, M, bnd, (by simp only [go_sem, eRun_exit, Nat.reduceAdd, Nat.reduceLT, Nat.reduceEqDiff, reduceIte, reduceCtorEq, Nat.reduceLeDiff, f3] <;> rfl), (by simp only [go_sem, eRun_exit, Nat.reduceAdd, Nat.reduceLT, Nat.reduceEqDiff, reduceIte, reduceCtorEq, Nat.reduceLeDiff] <;> rfl), (by simp only [go_sem, eRun_exit, Nat.reduceAdd, Nat.reduceLT, Nat.reduceEqDiff, reduceIte, reduceCtorEq, Nat.reduceLeDiff] <;> rfl), (by simp only [go_sem, eRun_exit, Nat.reduceAdd, Nat.reduceLT, Nat.reduceEqDiff, reduceIte, reduceCtorEq, Nat.reduceLeDiff] <;> rfl), ?_, by omega, rfl, hM3, hA.seen, by simp, Frm.refl _, rfl⟩
    · rintro f' w4 ⟨M', bnd', g3, hold, hM4, hs4, hb4, hf4, hn4⟩
      have g1 := (hold 1 (by simp)).trans f1
      have g4 := (hold 4 (by simp)).trans f4
      have g17 := (hold 17 (by simp)).trans f17
      have g18 := (hold 18 (by simp)).trans f18
      have g19 := (hold 19 (by simp)).trans f19
      refine WS_run 1000 (by simp only [go_sem, eRun_exit, Nat.reduceAdd, Nat.reduceLT, Nat.reduceEqDiff, reduceIte, reduceCtorEq, Nat.reduceLeDiff, g19, hwr]; rfl) ?_
      exact ih _ _ _ (by omega) ⟨i + 1, M', bnd', bl ++ cVars t.args, N + (cVars t.args).length, nv, nd, S, ⟨(by simp only [go_sem, eRun_exit, Nat.reduceAdd, Nat.reduceLT, Nat.reduceEqDiff, reduceIte, reduceCtorEq, Nat.reduceLeDiff, g1] <;> rfl), (by simp only [go_sem, eRun_exit, Nat.reduceAdd, Nat.reduceLT, Nat.reduceEqDiff, reduceIte, reduceCtorEq, Nat.reduceLeDiff, g3] <;> rfl), (by simp only [go_sem, eRun_exit, Nat.reduceAdd, Nat.reduceLT, Nat.reduceEqDiff, reduceIte, reduceCtorEq, Nat.reduceLeDiff, g4] <;> rfl), (by simp only [go_sem, eRun_exit, Nat.reduceAdd, Nat.reduceLT, Nat.reduceEqDiff, reduceIte, reduceCtorEq, Nat.reduceLeDiff, g17] <;> rfl), (by simp only [go_sem, eRun_exit, Nat.reduceAdd, Nat.reduceLT, Nat.reduceEqDiff, reduceIte, reduceCtorEq, Nat.reduceLeDiff, g18] <;> rfl), (by simp only [go_sem, eRun_exit, Nat.reduceAdd, Nat.reduceLT, Nat.reduceEqDiff, reduceIte, reduceCtorEq, Nat.reduceLeDiff] <;> rfl)⟩, ⟨hM4, hs4, fun x => by rw [hb4, hA.same, List.mem_append], (hA.need.frm r3 fun _ _ h => h).frm hf4 fun x hx he => (hA.sep x hx).2.2 he, (hA.frm.tr r3).trans hf4 (fun _ _ h => h) (by rintro x hx rfl; have := hA.hbm; omega), hA.hbm, fun x hx => by have := hA.sep x hx; exact ⟨this.1, by omega, this.2.2⟩⟩, by omega, rfl, hnd, hbl, by omega, by omega⟩
    · rintro y hy
      rcases hy with rfl | rfl | rfl | rfl | rfl | rfl <;> exact (by simp only [go_sem, eRun_exit, Nat.reduceAdd, Nat.reduceLT, Nat.reduceEqDiff, reduceIte, reduceCtorEq, Nat.reduceLeDiff] <;> rfl)
def NdI (aw : AW) (bm : Nat) (nv : V) (nd bl : List (List Nat)) (w0 : AW) (q : Nat) (f : Fr) (w : AW) : Prop :=
  ∃ j, f.get 3 = some (.map bm) ∧ f.get 45 = some nv ∧ f.get 46 = some (.int .i64 (Int.ofNat nd.length)) ∧ f.get 47 = some (.int .i64 (Int.ofNat j)) ∧ j ≤ nd.length ∧ q = nd.length - j ∧ (∀ x ∈ nd.take j, x ∈ bl) ∧ w = w0
/-- Safe. -/
theorem safe_ok (C : Codes tab) {T : Nat → Prop} {aw : AW} {xs : List V} {r : Rl} {K : V → AW → Prop} (hr : RlC T aw r xs) (hbd : RBd r) (h : ∀ w, Frm (fun _ => False) aw w → K (.bool (cSafe r)) w) : WF tab n_check_Safe [.agg xs] aw K := by
  refine WF_of C.c_check_Safe rfl ?_
  have hone := hr.one
  obtain ⟨v, u, rfl, hv, hu⟩ := hr
  have cb := fresh_cb aw [V.int .i64 (Int.ofNat r.head.kind), .str r.head.name, v, u]
  have ff := fresh_frm (S := fun _ => False) aw [V.int .i64 (Int.ofNat r.head.kind), .str r.head.name, v, u]
  generalize hw1 : aw.fresh [V.int .i64 (Int.ofNat r.head.kind), .str r.head.name, v, u] = w1 at cb ff
  have n1 : w1.next = aw.next + 1 := by rw [← hw1]; rfl
  have fm := mnew_frm (S := fun _ => False) w1
  have cb2 := cb.frm fm fun h => h
  have l2 : (w1.new (.map [] 0)).load aw.next 2 1 = some [v] := by rw [cb2.load]; rfl
  have f02 := ff.tr fm
  refine WS_run 1000 (by simp only [go_sem, eRun_exit, Nat.reduceAdd, Nat.reduceLT, Nat.reduceEqDiff, reduceIte, reduceCtorEq, Nat.reduceLeDiff, k_check_Safe, k_check_Safe_p12, hw1, l2]; rfl) ?_
  refine WS_call (by simp only [go_sem, eRun_exit, Nat.reduceAdd, Nat.reduceLT, Nat.reduceEqDiff, reduceIte, reduceCtorEq, Nat.reduceLeDiff]) (by simp only [go_sem, eRun_exit, Nat.reduceAdd, Nat.reduceLT, Nat.reduceEqDiff, reduceIte, reduceCtorEq, Nat.reduceLeDiff]; rfl) ?_
  refine vars_ok C (hv.frm f02 fun _ _ h => h) (by have := hbd.head; omega) fun nv w3 S3 q1 q2 q3 => ?_
  have cb3 := cb2.frm q2 fun h => h
  have l3 : w3.load aw.next 3 1 = some [u] := by rw [cb3.load]; rfl
  have f03 := f02.tr q2
  have hlv := rdL_lenV hu
  have nn : (w1.new (.map [] 0)).next = w1.next + 1 := rfl
  have hvl := cVars_len r.head.args
  have hM : SM w3 w1.next ([] : List (List Nat × Int)) := (MB.new w1).frm q2 fun h => h
  refine WS_run 1000 (by simp only [go_sem, eRun_exit, Nat.reduceAdd, Nat.reduceLT, Nat.reduceEqDiff, reduceIte, reduceCtorEq, Nat.reduceLeDiff, k_check_Safe_p11, l3, hlv]; rfl) ?_
  refine WS_loopJ (SafI aw aw.next w1.next u r) (SafJ aw w1.next r) (fun n f w hI ih out => safe_step C hu hbd hI ih out) ?_ r.body.length
    ⟨0, [], [], [], 0, nv, cVars r.head.args, S3, ⟨(by simp only [go_sem, eRun_exit, Nat.reduceAdd, Nat.reduceLT, Nat.reduceEqDiff, reduceIte, reduceCtorEq, Nat.reduceLeDiff] <;> rfl), (by simp only [go_sem, eRun_exit, Nat.reduceAdd, Nat.reduceLT, Nat.reduceEqDiff, reduceIte, reduceCtorEq, Nat.reduceLeDiff] <;> rfl), (by simp only [go_sem, eRun_exit, Nat.reduceAdd, Nat.reduceLT, Nat.reduceEqDiff, reduceIte, reduceCtorEq, Nat.reduceLeDiff] <;> rfl), (by simp only [go_sem, eRun_exit, Nat.reduceAdd, Nat.reduceLT, Nat.reduceEqDiff, reduceIte, reduceCtorEq, Nat.reduceLeDiff] <;> rfl), (by simp only [go_sem, eRun_exit, Nat.reduceAdd, Nat.reduceLT, Nat.reduceEqDiff, reduceIte, reduceCtorEq, Nat.reduceLeDiff] <;> rfl), (by simp only [go_sem, eRun_exit, Nat.reduceAdd, Nat.reduceLT, Nat.reduceEqDiff, reduceIte, reduceCtorEq, Nat.reduceLeDiff] <;> rfl)⟩, ⟨hM, fun x => ⟨by simp [aget], fun c hc => by simp [aget] at hc⟩, fun x => Iff.rfl, q1, f03, by omega, fun x hx => by have := q3 x hx; exact ⟨by omega, by omega, by omega⟩⟩, by omega, rfl, rfl, rfl, by omega, by have := hbd.head; omega⟩
  rintro f w ⟨M, bnd, N, nv', S, f3, f4, hA, hN⟩
  have hln := hA.need.lenV
  refine WS_run 1000 (by simp only [go_sem, eRun_exit, Nat.reduceAdd, Nat.reduceLT, Nat.reduceEqDiff, reduceIte, reduceCtorEq, Nat.reduceLeDiff, f4, hln]; rfl) ?_
  refine WS_loopJ (NdI aw w1.next nv' (rNeed r) (rBound r) w) (fun f' w' => w' = w ∧ ∀ x ∈ rNeed r, x ∈ rBound r) ?_ ?_ (rNeed r).length ⟨0, (by simp only [go_sem, eRun_exit, Nat.reduceAdd, Nat.reduceLT, Nat.reduceEqDiff, reduceIte, reduceCtorEq, Nat.reduceLeDiff, f3] <;> rfl), (by simp only [go_sem, eRun_exit, Nat.reduceAdd, Nat.reduceLT, Nat.reduceEqDiff, reduceIte, reduceCtorEq, Nat.reduceLeDiff] <;> rfl), (by simp only [go_sem, eRun_exit, Nat.reduceAdd, Nat.reduceLT, Nat.reduceEqDiff, reduceIte, reduceCtorEq, Nat.reduceLeDiff] <;> rfl), (by simp only [go_sem, eRun_exit, Nat.reduceAdd, Nat.reduceLT, Nat.reduceEqDiff, reduceIte, reduceCtorEq, Nat.reduceLeDiff] <;> rfl), by omega, rfl, by simp, rfl⟩
  · rintro q f w' ⟨j, f3, f45, f46, f47, hj, rfl, hall, rfl⟩ ih exit
    by_cases hlt : j < (rNeed r).length
    case neg =>
      rw [List.take_of_length_le (by omega)] at hall
      refine WS_runB 1000 (by simp only [go_sem, Nat.reduceAdd, Nat.reduceLT, Nat.reduceEqDiff, reduceIte, reduceCtorEq, Nat.reduceLeDiff, k_check_Safe_p10, f46, f47, hlt]; rfl) ?_
      exact exit _ _ _ ⟨rfl, hall⟩ rfl
    obtain ⟨x, hx⟩ : ∃ v, (rNeed r)[j]? = some v := ⟨_, List.getElem?_eq_getElem hlt⟩
    obtain ⟨b, o, c, rfl, _, hbl, a1⟩ := strs_at hA.need.rd hx
    obtain ⟨n, hn0, hn1, hgn⟩ := seen_look hA.seen x
    have look := hA.mp.look strKey (.int .i64 0) x
    rw [hgn] at look
    have hwr : IntKind.wrap .i64 (Int.ofNat j + 1) = Int.ofNat (j + 1) := by
      have : (rNeed r).length < 9223372036854775807 := by
        have := hA.need.rd
        rcases hA.need.rd.inv with ⟨h1, _⟩ | ⟨b', o', c', h1, hB⟩
        · cases h1
        · have h3 : ∀ (l : List Lt) (acc : List (List Nat)), (∀ l' ∈ l, l'.args.length ≤ 1000) → (l.foldl needL acc).length ≤ acc.length + 1000 * l.length := by
            intro l
            induction l with
            | nil => intro acc _; simp
            | cons t l ih =>
              intro acc hl
              have h4 := ih (needL acc t) fun l' hl' => hl l' (by simp [hl'])
              have h5 : (needL acc t).length ≤ acc.length + 1000 := by
                unfold needL
                split
                · omega
                · have := cVars_len t.args; have := hl t (by simp); rw [List.length_append]; omega
              rw [List.foldl_cons, List.length_cons]
              omega
          have h4 := h3 r.body (cVars r.head.args) hbd.args
          rw [← rNeed_eq] at h4
          have := hbd.head; have := hbd.body
          omega
      exact wrap_succ (by omega)
    by_cases hz : n = 0
    · have hno : x ∉ rBound r := fun h => hn1.1 hz ((hA.same x).2 h)
      have hs : cSafe r = false := by
        unfold cSafe
        rw [List.all_eq_false]
        exact ⟨x, List.mem_of_getElem? hx, by simpa using hno⟩
      subst hz
      refine WS_run 1000 (by simp only [go_sem, eRun_exit, Nat.reduceAdd, Nat.reduceLT, Nat.reduceEqDiff, reduceIte, reduceCtorEq, Nat.reduceLeDiff, k_check_Safe_p10, k_check_Safe_p9, k_check_Safe_p8, k_check_Safe_p7, f3, f45, f46, f47, hlt, a1, look]; rfl) ?_
      refine WS_ret ⟨_, by simp only [go_sem, eRun_exit, Nat.reduceAdd, Nat.reduceLT, Nat.reduceEqDiff, reduceIte, reduceCtorEq, Nat.reduceLeDiff, k_check_Safe]; rfl, ?_⟩
      have := h w' hA.frm
      rw [hs] at this; exact this
    · refine WS_run 1000 (by simp only [go_sem, eRun_exit, Nat.reduceAdd, Nat.reduceLT, Nat.reduceEqDiff, reduceIte, reduceCtorEq, Nat.reduceLeDiff, k_check_Safe_p10, k_check_Safe_p9, k_check_Safe_p8, f3, f45, f46, f47, hlt, a1, look, hz, hwr]; rfl) ?_
      refine ih _ _ _ (by omega) ⟨j + 1, (by simp only [go_sem, eRun_exit, Nat.reduceAdd, Nat.reduceLT, Nat.reduceEqDiff, reduceIte, reduceCtorEq, Nat.reduceLeDiff, f3] <;> rfl), (by simp only [go_sem, eRun_exit, Nat.reduceAdd, Nat.reduceLT, Nat.reduceEqDiff, reduceIte, reduceCtorEq, Nat.reduceLeDiff, f45] <;> rfl), (by simp only [go_sem, eRun_exit, Nat.reduceAdd, Nat.reduceLT, Nat.reduceEqDiff, reduceIte, reduceCtorEq, Nat.reduceLeDiff, f46] <;> rfl), (by simp only [go_sem, eRun_exit, Nat.reduceAdd, Nat.reduceLT, Nat.reduceEqDiff, reduceIte, reduceCtorEq, Nat.reduceLeDiff] <;> rfl), by omega, rfl, fun y hy => ?_, rfl⟩
      have ht : (rNeed r).take (j + 1) = (rNeed r).take j ++ [x] := by rw [List.take_add_one, hx]; rfl
      rw [ht, List.mem_append, List.mem_singleton] at hy
      rcases hy with hy | rfl
      · exact hall y hy
      · exact (hA.same y).1 (Classical.byContradiction fun hc => hz (hn1.2 hc))
  · rintro f w' ⟨rfl, hall⟩
    have hs : cSafe r = true := by
      unfold cSafe
      rw [List.all_eq_true]
      intro x hx
      simpa using hall x hx
    refine WS_run 1000 (by simp only [go_sem, eRun_exit, Nat.reduceAdd, Nat.reduceLT, Nat.reduceEqDiff, reduceIte, reduceCtorEq, Nat.reduceLeDiff]; rfl) ?_
    refine WS_ret ⟨_, by simp only [go_sem, eRun_exit, Nat.reduceAdd, Nat.reduceLT, Nat.reduceEqDiff, reduceIte, reduceCtorEq, Nat.reduceLeDiff, k_check_Safe]; rfl, ?_⟩
    have := h w' hA.frm
    rw [hs] at this; exact this
end Go.Proofs.Ytjidefnbancmfaa

/- The reference's Safe. -/
set_option linter.unusedVariables false
set_option maxRecDepth 10000
set_option linter.unusedSimpArgs false
namespace Delphi
theorem mem_cVars {v : List Nat} {l : List Tm} : v ∈ cVars l ↔ ∃ t ∈ l, t.kind = 1 ∧ t.name = v := by
  have : ∀ (l : List Tm) (out : List (List Nat)), v ∈ l.foldl addVar out ↔ v ∈ out ∨ ∃ t ∈ l, t.kind = 1 ∧ t.name = v := by
    intro l
    induction l with
    | nil => intro out; simp
    | cons t l ih =>
      intro out
      rw [List.foldl_cons, ih]
      have h : v ∈ addVar out t ↔ v ∈ out ∨ (t.kind = 1 ∧ t.name = v) := by
        unfold addVar
        split
        · rename_i hc
          rw [List.mem_append, List.mem_singleton]
          exact ⟨fun h => h.imp (fun h => h) fun h => ⟨hc.1, h.symm⟩, fun h => h.imp (fun h => h) fun h => h.2.symm⟩
        · rename_i hc
          refine ⟨.inl, fun h => h.elim (fun h => h) ?_⟩
          rintro ⟨h1, rfl⟩
          exact Classical.byContradiction fun hn => hc ⟨h1, hn⟩
      rw [h]
      simp only [List.mem_cons, exists_eq_or_imp, or_assoc]
  simpa [cVars] using this l []
theorem mem_bndL {v : List Nat} : ∀ (l : List Lt) (acc : List (List Nat)), v ∈ l.foldl bndL acc ↔ v ∈ acc ∨ ∃ x ∈ l, x.kind = 1 ∧ ∃ t ∈ x.args, t.kind = 1 ∧ t.name = v
  | [], acc => by simp
  | x :: l, acc => by
    rw [List.foldl_cons, mem_bndL l]
    have h : v ∈ bndL acc x ↔ v ∈ acc ∨ (x.kind = 1 ∧ ∃ t ∈ x.args, t.kind = 1 ∧ t.name = v) := by
      unfold bndL
      split
      · rename_i hc
        rw [List.mem_append, mem_cVars]
        exact ⟨fun h => h.imp (fun h => h) fun h => ⟨hc, h⟩, fun h => h.imp (fun h => h) fun h => h.2⟩
      · rename_i hc
        exact ⟨.inl, fun h => h.elim (fun h => h) fun h => absurd h.1 hc⟩
    rw [h]
    simp only [List.mem_cons, exists_eq_or_imp, or_assoc]
theorem mem_needL {v : List Nat} : ∀ (l : List Lt) (acc : List (List Nat)), v ∈ l.foldl needL acc ↔ v ∈ acc ∨ ∃ x ∈ l, x.kind ≠ 1 ∧ ∃ t ∈ x.args, t.kind = 1 ∧ t.name = v
  | [], acc => by simp
  | x :: l, acc => by
    rw [List.foldl_cons, mem_needL l]
    have h : v ∈ needL acc x ↔ v ∈ acc ∨ (x.kind ≠ 1 ∧ ∃ t ∈ x.args, t.kind = 1 ∧ t.name = v) := by
      unfold needL
      split
      · rename_i hc
        exact ⟨.inl, fun h => h.elim (fun h => h) fun h => absurd hc h.1⟩
      · rename_i hc
        rw [List.mem_append, mem_cVars]
        exact ⟨fun h => h.imp (fun h => h) fun h => ⟨hc, h⟩, fun h => h.imp (fun h => h) fun h => h.2⟩
    rw [h]
    simp only [List.mem_cons, exists_eq_or_imp, or_assoc]
theorem mem_rBound {v : List Nat} {r : Rl} : v ∈ rBound r ↔ ∃ x ∈ r.body, x.kind = 1 ∧ ∃ t ∈ x.args, t.kind = 1 ∧ t.name = v := by
  rw [rBound_eq, mem_bndL]; simp
theorem mem_rNeed {v : List Nat} {r : Rl} : v ∈ rNeed r ↔ (∃ t ∈ r.head.args, t.kind = 1 ∧ t.name = v) ∨ ∃ x ∈ r.body, x.kind ≠ 1 ∧ ∃ t ∈ x.args, t.kind = 1 ∧ t.name = v := by
  rw [rNeed_eq, mem_needL, mem_cVars]
end Delphi
namespace Go.Proofs.Ytjidefnbancmfaa
open Go.AE Delphi
variable {tab : Tab}
theorem drop_cons_of {α : Type} {l : List α} {i : Nat} {x : α} (h : l[i]? = some x) : l.drop i = x :: l.drop (i + 1) := by
  have hlt : i < l.length := (List.getElem?_eq_some_iff.1 h).1
  rw [List.drop_eq_getElem_cons hlt]; rw [List.getElem?_eq_getElem hlt] at h; rw [Option.some.inj h]
theorem take_snoc_of {α : Type} {l : List α} {i : Nat} {x : α} (h : l[i]? = some x) : l.take (i + 1) = l.take i ++ [x] := by rw [List.take_add_one, h]; rfl
def BnI (n2 : Nat) (v : List Nat) (r : Rl) (w0 : AW) (q : Nat) (f : Fr) (w : AW) : Prop :=
  ∃ i, f.get 1 = some (.str v) ∧ f.get 2 = some (.ptr n2 0) ∧ f.get 5 = some (.int .i64 (Int.ofNat i)) ∧ i ≤ r.body.length ∧ q = r.body.length - i ∧ (∀ x ∈ r.body.take i, x.kind = 1 → ∀ t ∈ x.args, ¬ (t.kind = 1 ∧ t.name = v)) ∧ w = w0
def BkI (n2 i : Nat) (v : List Nat) (r : Rl) (x : Lt) (w0 : AW) (q : Nat) (f : Fr) (w : AW) : Prop :=
  ∃ k, f.get 1 = some (.str v) ∧ f.get 2 = some (.ptr n2 0) ∧ f.get 5 = some (.int .i64 (Int.ofNat i)) ∧ f.get 6 = some (.int .i64 (Int.ofNat k)) ∧ k ≤ x.args.length ∧ q = x.args.length - k ∧ (∀ t ∈ x.args.take k, ¬ (t.kind = 1 ∧ t.name = v)) ∧ w = w0
/-- binds. -/
theorem binds_ok (C : Codes tab) {T : Nat → Prop} {aw : AW} {xs : List V} {r : Rl} {v : List Nat} {K : V → AW → Prop} (hr : RlC T aw r xs) (hbd : RBd r) (h : ∀ w, Frm (fun _ => False) aw w → K (.bool (decide (v ∈ rBound r))) w) : WF tab n_ref8_binds [.agg xs, .str v] aw K := by
  refine WF_of C.c_ref8_binds rfl ?_
  obtain ⟨hv, u, rfl, _, hu⟩ := hr
  have cb := fresh_cb aw [V.int .i64 (Int.ofNat r.head.kind), .str r.head.name, hv, u]
  have ff := fresh_frm (S := fun _ => False) aw [V.int .i64 (Int.ofNat r.head.kind), .str r.head.name, hv, u]
  have hu1 : RdL (LtC T) T (aw.fresh [V.int .i64 (Int.ofNat r.head.kind), .str r.head.name, hv, u]) u 3 r.body := hu.frm (fun _ _ h => h.frm ff fun _ _ h => h) ff fun _ _ h => h
  generalize hw1 : aw.fresh [V.int .i64 (Int.ofNat r.head.kind), .str r.head.name, hv, u] = w1 at cb ff hu1
  have l3 : w1.load aw.next 3 1 = some [u] := by rw [cb.load]; rfl
  have hlv := rdL_lenV hu
  refine WS_run 1000 (by simp only [go_sem, eRun_exit, Nat.reduceAdd, Nat.reduceLT, Nat.reduceEqDiff, reduceIte, reduceCtorEq, Nat.reduceLeDiff, k_ref8_binds, hw1]; rfl) ?_
  refine WS_loopJ (BnI aw.next v r w1) (fun f w => w = w1 ∧ v ∉ rBound r) ?_ ?_ r.body.length ⟨0, (by simp only [go_sem, eRun_exit, Nat.reduceAdd, Nat.reduceLT, Nat.reduceEqDiff, reduceIte, reduceCtorEq, Nat.reduceLeDiff] <;> rfl), (by simp only [go_sem, eRun_exit, Nat.reduceAdd, Nat.reduceLT, Nat.reduceEqDiff, reduceIte, reduceCtorEq, Nat.reduceLeDiff] <;> rfl), (by simp only [go_sem, eRun_exit, Nat.reduceAdd, Nat.reduceLT, Nat.reduceEqDiff, reduceIte, reduceCtorEq, Nat.reduceLeDiff] <;> rfl), by omega, rfl, by simp, rfl⟩
  · rintro q f w ⟨i, f1, f2, f5, hi, rfl, hno, rfl⟩ ih exit
    by_cases hlt : i < r.body.length
    case neg =>
      rw [List.take_of_length_le (by omega)] at hno
      refine WS_runB 1000 (by simp only [go_sem, Nat.reduceAdd, Nat.reduceLT, Nat.reduceEqDiff, reduceIte, reduceCtorEq, Nat.reduceLeDiff, k_ref8_binds_p3, f2, f5, l3, hlv, hlt]; rfl) ?_
      refine exit _ _ _ ⟨rfl, fun hm => ?_⟩ rfl
      obtain ⟨x, hx, h1, t, ht, h2⟩ := mem_rBound.1 hm
      exact hno x hx h1 t ht h2
    obtain ⟨x, hx⟩ : ∃ t, r.body[i]? = some t := ⟨_, List.getElem?_eq_getElem hlt⟩
    have hargs := hbd.args x (List.mem_of_getElem? hx)
    obtain ⟨b, o, c, xu, rfl, _, _, _, a0, _, a2, hru⟩ := lits_at hu1 hx
    have hwr : IntKind.wrap .i64 (Int.ofNat i + 1) = Int.ofNat (i + 1) := wrap_succ (by have := hbd.body; omega)
    have hxl := hru.lenV
    refine WS_run 1000 (by simp only [go_sem, eRun_exit, Nat.reduceAdd, Nat.reduceLT, Nat.reduceEqDiff, reduceIte, reduceCtorEq, Nat.reduceLeDiff, k_ref8_binds_p3, f2, f5, l3, hlv, hlt]; rfl) ?_
    refine WS_loopJ (BkI aw.next i v r x w) (fun f' w' => f'.get 1 = some (.str v) ∧ f'.get 2 = some (.ptr aw.next 0) ∧ f'.get 5 = some (.int .i64 (Int.ofNat i)) ∧ w' = w ∧ (x.kind = 1 → ∀ t ∈ x.args, ¬ (t.kind = 1 ∧ t.name = v))) ?_ ?_ x.args.length ⟨0, (by simp only [go_sem, eRun_exit, Nat.reduceAdd, Nat.reduceLT, Nat.reduceEqDiff, reduceIte, reduceCtorEq, Nat.reduceLeDiff, f1] <;> rfl), (by simp only [go_sem, eRun_exit, Nat.reduceAdd, Nat.reduceLT, Nat.reduceEqDiff, reduceIte, reduceCtorEq, Nat.reduceLeDiff, f2] <;> rfl), (by simp only [go_sem, eRun_exit, Nat.reduceAdd, Nat.reduceLT, Nat.reduceEqDiff, reduceIte, reduceCtorEq, Nat.reduceLeDiff, f5] <;> rfl), (by simp only [go_sem, eRun_exit, Nat.reduceAdd, Nat.reduceLT, Nat.reduceEqDiff, reduceIte, reduceCtorEq, Nat.reduceLeDiff] <;> rfl), by omega, rfl, by simp, rfl⟩
    · rintro q f w' ⟨k, f1, f2, f5, f6, hk, rfl, hnk, rfl⟩ ih2 exit2
      by_cases hk1 : x.kind = 1
      case neg =>
        refine WS_runB 1000 (by simp only [go_sem, Nat.reduceAdd, Nat.reduceLT, Nat.reduceEqDiff, reduceIte, reduceCtorEq, Nat.reduceLeDiff, k_ref8_binds_p2, f2, f5, l3, hlt, a0, hk1]; rfl) ?_
        exact exit2 _ _ _ ⟨(by simp only [go_sem, eRun_exit, Nat.reduceAdd, Nat.reduceLT, Nat.reduceEqDiff, reduceIte, reduceCtorEq, Nat.reduceLeDiff, f1] <;> rfl), (by simp only [go_sem, eRun_exit, Nat.reduceAdd, Nat.reduceLT, Nat.reduceEqDiff, reduceIte, reduceCtorEq, Nat.reduceLeDiff, f2] <;> rfl), (by simp only [go_sem, eRun_exit, Nat.reduceAdd, Nat.reduceLT, Nat.reduceEqDiff, reduceIte, reduceCtorEq, Nat.reduceLeDiff, f5] <;> rfl), rfl, fun h => absurd h hk1⟩ rfl
      rw [hk1] at a0
      by_cases hkl : k < x.args.length
      case neg =>
        rw [List.take_of_length_le (by omega)] at hnk
        refine WS_runB 1000 (by simp only [go_sem, Nat.reduceAdd, Nat.reduceLT, Nat.reduceEqDiff, reduceIte, reduceCtorEq, Nat.reduceLeDiff, k_ref8_binds_p2, f2, f5, f6, l3, hlt, a0, a2, hxl, hkl]; rfl) ?_
        exact exit2 _ _ _ ⟨(by simp only [go_sem, eRun_exit, Nat.reduceAdd, Nat.reduceLT, Nat.reduceEqDiff, reduceIte, reduceCtorEq, Nat.reduceLeDiff, f1] <;> rfl), (by simp only [go_sem, eRun_exit, Nat.reduceAdd, Nat.reduceLT, Nat.reduceEqDiff, reduceIte, reduceCtorEq, Nat.reduceLeDiff, f2] <;> rfl), (by simp only [go_sem, eRun_exit, Nat.reduceAdd, Nat.reduceLT, Nat.reduceEqDiff, reduceIte, reduceCtorEq, Nat.reduceLeDiff, f5] <;> rfl), rfl, fun _ => hnk⟩ rfl
      obtain ⟨t, ht⟩ : ∃ t, x.args[k]? = some t := ⟨_, List.getElem?_eq_getElem hkl⟩
      obtain ⟨b2, o2, c2, rfl, _, _, _, t0, t1⟩ := tms_at hru ht
      have hwk : IntKind.wrap .i64 (Int.ofNat k + 1) = Int.ofNat (k + 1) := wrap_succ (by omega)
      have next : ¬ (t.kind = 1 ∧ t.name = v) → ∀ y ∈ x.args.take (k + 1), ¬ (y.kind = 1 ∧ y.name = v) := by
        intro hn y hy
        rw [take_snoc_of ht, List.mem_append, List.mem_singleton] at hy
        rcases hy with hy | rfl
        · exact hnk y hy
        · exact hn
      by_cases ht1 : t.kind = 1
      case neg =>
        refine WS_run 1000 (by simp only [go_sem, eRun_exit, Nat.reduceAdd, Nat.reduceLT, Nat.reduceEqDiff, reduceIte, reduceCtorEq, Nat.reduceLeDiff, k_ref8_binds_p2, k_ref8_binds_p1, f1, f2, f5, f6, l3, hlt, a0, a2, hxl, hkl, t0, ht1, hwk]; rfl) ?_
        exact ih2 _ _ _ (by omega) ⟨k + 1, (by simp only [go_sem, eRun_exit, Nat.reduceAdd, Nat.reduceLT, Nat.reduceEqDiff, reduceIte, reduceCtorEq, Nat.reduceLeDiff, f1] <;> rfl), (by simp only [go_sem, eRun_exit, Nat.reduceAdd, Nat.reduceLT, Nat.reduceEqDiff, reduceIte, reduceCtorEq, Nat.reduceLeDiff, f2] <;> rfl), (by simp only [go_sem, eRun_exit, Nat.reduceAdd, Nat.reduceLT, Nat.reduceEqDiff, reduceIte, reduceCtorEq, Nat.reduceLeDiff, f5] <;> rfl), (by simp only [go_sem, eRun_exit, Nat.reduceAdd, Nat.reduceLT, Nat.reduceEqDiff, reduceIte, reduceCtorEq, Nat.reduceLeDiff] <;> rfl), by omega, rfl, next fun h => ht1 h.1, rfl⟩
      rw [ht1] at t0
      by_cases htv : t.name = v
      · have e : eqL t.name v = true := eqL_iff.2 htv
        have hm : v ∈ rBound r := mem_rBound.2 ⟨x, List.mem_of_getElem? hx, hk1, t, List.mem_of_getElem? ht, ht1, htv⟩
        refine WS_run 1000 (by simp only [go_sem, eRun_exit, Nat.reduceAdd, Nat.reduceLT, Nat.reduceEqDiff, reduceIte, reduceCtorEq, Nat.reduceLeDiff, k_ref8_binds_p2, k_ref8_binds_p1, k_ref8_binds_p0, f1, f2, f5, f6, l3, hlt, a0, a2, hxl, hkl, t0, t1, strS, e]; rfl) ?_
        refine WS_ret ⟨_, by simp only [go_sem, eRun_exit, Nat.reduceAdd, Nat.reduceLT, Nat.reduceEqDiff, reduceIte, reduceCtorEq, Nat.reduceLeDiff, k_ref8_binds]; rfl, ?_⟩
        have := h w' ff
        rw [decide_eq_true hm] at this; exact this
      · have e : eqL t.name v = false := by
          cases hc : eqL t.name v with
          | false => rfl
          | true => exact absurd (eqL_iff.1 hc) htv
        refine WS_run 1000 (by simp only [go_sem, eRun_exit, Nat.reduceAdd, Nat.reduceLT, Nat.reduceEqDiff, reduceIte, reduceCtorEq, Nat.reduceLeDiff, k_ref8_binds_p2, k_ref8_binds_p1, f1, f2, f5, f6, l3, hlt, a0, a2, hxl, hkl, t0, t1, strS, e, hwk]; rfl) ?_
        exact ih2 _ _ _ (by omega) ⟨k + 1, (by simp only [go_sem, eRun_exit, Nat.reduceAdd, Nat.reduceLT, Nat.reduceEqDiff, reduceIte, reduceCtorEq, Nat.reduceLeDiff, f1] <;> rfl), (by simp only [go_sem, eRun_exit, Nat.reduceAdd, Nat.reduceLT, Nat.reduceEqDiff, reduceIte, reduceCtorEq, Nat.reduceLeDiff, f2] <;> rfl), (by simp only [go_sem, eRun_exit, Nat.reduceAdd, Nat.reduceLT, Nat.reduceEqDiff, reduceIte, reduceCtorEq, Nat.reduceLeDiff, f5] <;> rfl), (by simp only [go_sem, eRun_exit, Nat.reduceAdd, Nat.reduceLT, Nat.reduceEqDiff, reduceIte, reduceCtorEq, Nat.reduceLeDiff] <;> rfl), by omega, rfl, next fun h => htv h.2, rfl⟩
    · rintro f w' ⟨f1, f2, f5, rfl, hnx⟩
      refine WS_run 1000 (by simp only [go_sem, eRun_exit, Nat.reduceAdd, Nat.reduceLT, Nat.reduceEqDiff, reduceIte, reduceCtorEq, Nat.reduceLeDiff, f5, hwr]; rfl) ?_
      refine ih _ _ _ (by omega) ⟨i + 1, (by simp only [go_sem, eRun_exit, Nat.reduceAdd, Nat.reduceLT, Nat.reduceEqDiff, reduceIte, reduceCtorEq, Nat.reduceLeDiff, f1] <;> rfl), (by simp only [go_sem, eRun_exit, Nat.reduceAdd, Nat.reduceLT, Nat.reduceEqDiff, reduceIte, reduceCtorEq, Nat.reduceLeDiff, f2] <;> rfl), (by simp only [go_sem, eRun_exit, Nat.reduceAdd, Nat.reduceLT, Nat.reduceEqDiff, reduceIte, reduceCtorEq, Nat.reduceLeDiff] <;> rfl), by omega, rfl, fun y hy => ?_, rfl⟩
      rw [take_snoc_of hx, List.mem_append, List.mem_singleton] at hy
      rcases hy with hy | rfl
      · exact hno y hy
      · exact hnx
  · rintro f w ⟨rfl, hno⟩
    refine WS_run 1000 (by simp only [go_sem, eRun_exit, Nat.reduceAdd, Nat.reduceLT, Nat.reduceEqDiff, reduceIte, reduceCtorEq, Nat.reduceLeDiff]; rfl) ?_
    refine WS_ret ⟨_, by simp only [go_sem, eRun_exit, Nat.reduceAdd, Nat.reduceLT, Nat.reduceEqDiff, reduceIte, reduceCtorEq, Nat.reduceLeDiff, k_ref8_binds]; rfl, ?_⟩
    have := h w ff
    rw [decide_eq_false hno] at this; exact this
end Go.Proofs.Ytjidefnbancmfaa

/- The reference's Safe, whole. -/
set_option linter.unusedVariables false
set_option maxRecDepth 10000
set_option linter.unusedSimpArgs false
namespace Go.Proofs.Ytjidefnbancmfaa
open Go.AE Delphi
variable {tab : Tab}
/-- appended to a slice that has no room. -/
theorem known_append {w : AW} {b n k esz bytes : Nat} {cs news : List V} (h : CB w b cs) (hl : cs.length = n * esz) (hn : 0 < n) (hk : news.length = k * esz) (hb : (n + k) * bytes ≤ 70368744177664) (hb' : n + k ≤ 70368744177664) :
    ∃ v' w', w.appendV esz bytes (.slice b 0 n (.known n)) k news = some (v', w') ∧ Rd (fun x => x = b ∨ (w.next ≤ x ∧ x < w'.next)) w' v' esz (n + k) (cs ++ news) ∧ Frm (fun _ => False) w w' := by
  have rd0 : Rd (fun x => x = b) w (.slice b 0 n (.known n)) esz n cs := .blk rfl h.lt h.get (.inl rfl) (by omega) (by rw [List.drop_zero, List.take_of_length_le (by omega)]) (Nat.le_refl _)
  cases k with
  | zero =>
    have : news = [] := List.length_eq_zero_iff.1 (by simpa using hk)
    subst this
    refine ⟨.slice b 0 n (.known n), w, if_pos (Nat.le_refl _), ?_, Frm.refl _⟩
    rw [List.append_nil, Nat.add_zero]
    exact rd0.mono fun x hx => .inl hx
  | succ k =>
    have hel := rd0.elems
    refine ⟨.slice w.next 0 (n + (k + 1)) (.upTo esz), w.fresh (cs ++ news), ?_, ?_, fresh_frm _ _⟩
    · show (if (n + (k + 1)) * bytes ≤ 70368744177664 ∧ n + (k + 1) ≤ 70368744177664 ∧ n ≤ n then _ else none) = _
      rw [if_pos ⟨hb, hb', Nat.le_refl _⟩, if_neg (by omega), hel]
    · have c := fresh_cb w (cs ++ news)
      have hlen : (cs ++ news).length = (n + (k + 1)) * esz := by rw [List.length_append, hl, hk, ← Nat.add_mul]
      exact .blk (.inr ⟨Nat.le_refl _, c.lt⟩) c.lt c.get (.inl rfl) (by omega) (by rw [List.drop_zero, List.take_of_length_le (by omega)]) (.inl rfl)
/-- head and body. -/
def rAll (r : Rl) : List Lt := r.head :: r.body
def BadAt (r : Rl) (i : Nat) (x : Lt) (t : Tm) : Prop := t.kind = 1 ∧ (i = 0 ∨ x.kind ≠ 1) ∧ t.name ∉ rBound r
def SaI (n1 : Nat) (lv : V) (r : Rl) (a0 : AW) (q : Nat) (f : Fr) (w : AW) : Prop :=
  ∃ i, f.get 1 = some (.ptr n1 0) ∧ f.get 3 = some lv ∧ f.get 4 = some (.int .i64 (Int.ofNat i)) ∧ i ≤ (rAll r).length ∧ q = (rAll r).length - i ∧ (∀ j x, j < i → (rAll r)[j]? = some x → ∀ t ∈ x.args, ¬ BadAt r j x t) ∧ Frm (fun _ => False) a0 w
def SkI (n1 : Nat) (lv : V) (r : Rl) (i : Nat) (x : Lt) (a0 : AW) (q : Nat) (f : Fr) (w : AW) : Prop :=
  ∃ k, f.get 1 = some (.ptr n1 0) ∧ f.get 3 = some lv ∧ f.get 4 = some (.int .i64 (Int.ofNat i)) ∧ f.get 5 = some (.int .i64 (Int.ofNat k)) ∧ k ≤ x.args.length ∧ q = x.args.length - k ∧ (∀ t ∈ x.args.take k, ¬ BadAt r i x t) ∧ Frm (fun _ => False) a0 w
theorem safe_bad {r : Rl} {i : Nat} {x : Lt} {t : Tm} (hx : (rAll r)[i]? = some x) (ht : t ∈ x.args) (hb : BadAt r i x t) : cSafe r = false := by
  unfold cSafe
  rw [List.all_eq_false]
  refine ⟨t.name, mem_rNeed.2 ?_, by simpa using hb.2.2⟩
  cases i with
  | zero => simp [rAll] at hx; subst hx; exact .inl ⟨t, ht, hb.1, rfl⟩
  | succ i =>
    have hx' : r.body[i]? = some x := by simpa [rAll] using hx
    exact .inr ⟨x, List.mem_of_getElem? hx', hb.2.1.resolve_left (by omega), t, ht, hb.1, rfl⟩
theorem safe_good {r : Rl} (h : ∀ j x, j < (rAll r).length → (rAll r)[j]? = some x → ∀ t ∈ x.args, ¬ BadAt r j x t) : cSafe r = true := by
  unfold cSafe
  rw [List.all_eq_true]
  intro v hv
  rw [decide_eq_true_iff]
  refine Classical.byContradiction fun hn => ?_
  rcases mem_rNeed.1 hv with ⟨t, ht, h1, rfl⟩ | ⟨x, hx, hk, t, ht, h1, rfl⟩
  · exact h 0 r.head (by simp [rAll]) rfl t ht ⟨h1, .inl rfl, hn⟩
  · obtain ⟨i, hi⟩ := List.mem_iff_getElem?.1 hx
    have hlt := (List.getElem?_eq_some_iff.1 hi).1
    exact h (i + 1) x (by simp [rAll]; omega) (by simpa [rAll] using hi) t ht ⟨h1, .inr hk, hn⟩
/-- Safe. -/
theorem rsafe_ok (C : Codes tab) {T : Nat → Prop} {aw : AW} {xs : List V} {r : Rl} {K : V → AW → Prop} (hr : RlC T aw r xs) (hbd : RBd r) (h : ∀ w, Frm (fun _ => False) aw w → K (.bool (cSafe r)) w) : WF tab n_ref8_Safe [.agg xs] aw K := by
  refine WF_of C.c_ref8_Safe rfl ?_
  have hr0 := hr
  obtain ⟨hv, u, rfl, hh, hu⟩ := hr
  have cb := fresh_cb aw [V.int .i64 (Int.ofNat r.head.kind), .str r.head.name, hv, u]
  have ff := fresh_frm (S := fun _ => False) aw [V.int .i64 (Int.ofNat r.head.kind), .str r.head.name, hv, u]
  generalize hw1 : aw.fresh [V.int .i64 (Int.ofNat r.head.kind), .str r.head.name, hv, u] = w1 at cb ff
  have l0 : w1.load aw.next 0 3 = some [V.int .i64 (Int.ofNat r.head.kind), .str r.head.name, hv] := by rw [cb.load]; rfl
  have hone := hr0.one
  have hov : over [V.int .i64 0, V.str [], V.nilslice] 0 [V.int .i64 (Int.ofNat r.head.kind), .str r.head.name, hv] = some [V.int .i64 (Int.ofNat r.head.kind), .str r.head.name, hv] := rfl
  have cb1 := fresh_cb w1 [V.int .i64 (Int.ofNat r.head.kind), .str r.head.name, hv]
  have ff1 := fresh_frm (S := fun _ => False) w1 [V.int .i64 (Int.ofNat r.head.kind), .str r.head.name, hv]
  have cb01 := cb.frm ff1 fun h => h
  generalize hw2 : w1.fresh [V.int .i64 (Int.ofNat r.head.kind), .str r.head.name, hv] = w2 at cb1 ff1 cb01
  have l3 : w2.load aw.next 3 1 = some [u] := by rw [cb01.load]; rfl
  have f02 := ff.tr ff1
  obtain ⟨xss, hrd, hall⟩ := hu.frm (fun _ _ h => h.frm f02 fun _ _ h => h) f02 fun _ _ h => h
  have hel := hrd.elems
  obtain ⟨lv, w3, u1, u2, u3⟩ := known_append (bytes := 48) cb1 (n := 1) (esz := 3) rfl (by omega) hrd.len (by have := hbd.body; omega) (by have := hbd.body; omega)
  have f03 := f02.tr u3
  have cb3 := cb01.frm u3 fun h => h
  have hL : RdL (LtC T) (fun x => x = w1.next ∨ (w2.next ≤ x ∧ x < w3.next)) w3 lv 3 (rAll r) := by
    refine ⟨[V.int .i64 (Int.ofNat r.head.kind), .str r.head.name, hv] :: xss, ?_, .cons ⟨hv, rfl, hh.frm f03 fun _ _ h => h⟩ (hall.imp fun _ _ h => h.frm u3 fun _ _ h => h)⟩
    have e : 1 + r.body.length = (rAll r).length := by simp [rAll]; omega
    rw [e] at u2
    exact u2
  have hlv := rdL_lenV hL
  have hRl : RlC T w3 r [V.int .i64 (Int.ofNat r.head.kind), .str r.head.name, hv, u] := hr0.frm f03 fun _ _ h => h
  have hal : (rAll r).length ≤ 1001 := by have := hbd.body; simp [rAll]; omega
  have lit : ∀ {w : AW} {i : Nat} {x : Lt}, Frm (fun _ => False) w3 w → (rAll r)[i]? = some x → ∃ b o c xu, lv = .slice b o (rAll r).length c ∧ w.load b (o + i * 3) 1 = some [.int .i64 (Int.ofNat x.kind)] ∧ w.load b (o + i * 3 + 2) 1 = some [xu] ∧ Rd T w xu 3 x.args.length (tmsC x.args) := by
    intro w i x hf hx
    have hL' : RdL (LtC T) (fun x => x = w1.next ∨ (w2.next ≤ x ∧ x < w3.next)) w lv 3 (rAll r) := hL.frm (fun _ _ h => h.frm hf fun _ _ h => h) hf fun _ _ h => h
    have hlt : i < (rAll r).length := (List.getElem?_eq_some_iff.1 hx).1
    rcases hL'.inv (fun a xs hx => (LtC.one hx).1) with ⟨_, q2⟩ | ⟨b, o, c, rfl, _, _, _, hat⟩
    · rw [q2] at hlt; simp at hlt
    · obtain ⟨xs, ⟨xu, rfl, hxu⟩, hp⟩ := hat i x hx
      exact ⟨b, o, c, xu, rfl, hp 0 1 (by omega), hp 2 1 (by omega), hxu⟩
  have argl : ∀ {i : Nat} {x : Lt}, (rAll r)[i]? = some x → x.args.length ≤ 1000 := by
    intro i x hx
    cases i with
    | zero => simp [rAll] at hx; subst hx; exact hbd.head
    | succ i => exact hbd.args x (List.mem_of_getElem? (by simpa [rAll] using hx))
  refine WS_run 1000 (by simp only [go_sem, eRun_exit, Nat.reduceAdd, Nat.reduceLT, Nat.reduceEqDiff, reduceIte, reduceCtorEq, Nat.reduceLeDiff, k_ref8_Safe, k_ref8_Safe_p4, hw1, hw2, l0, l3, evParts, fillV, hov, hel, u1, List.length_cons, List.length_nil]; rfl) ?_
  refine WS_loopJ (SaI aw.next lv r w3) (fun f w => Frm (fun _ => False) w3 w ∧ cSafe r = true) ?_ ?_ (rAll r).length ⟨0, (by simp only [go_sem, eRun_exit, Nat.reduceAdd, Nat.reduceLT, Nat.reduceEqDiff, reduceIte, reduceCtorEq, Nat.reduceLeDiff] <;> rfl), (by simp only [go_sem, eRun_exit, Nat.reduceAdd, Nat.reduceLT, Nat.reduceEqDiff, reduceIte, reduceCtorEq, Nat.reduceLeDiff] <;> rfl), (by simp only [go_sem, eRun_exit, Nat.reduceAdd, Nat.reduceLT, Nat.reduceEqDiff, reduceIte, reduceCtorEq, Nat.reduceLeDiff] <;> rfl), by omega, rfl, fun j x hj => by omega, Frm.refl _⟩
  · rintro q f w ⟨i, f1, f3, f4, hi, rfl, hno, hf⟩ ih exit
    by_cases hlt : i < (rAll r).length
    case neg =>
      have : i = (rAll r).length := by omega
      subst this
      refine WS_runB 1000 (by simp only [go_sem, Nat.reduceAdd, Nat.reduceLT, Nat.reduceEqDiff, reduceIte, reduceCtorEq, Nat.reduceLeDiff, k_ref8_Safe_p3, f3, f4, hlv, hlt]; rfl) ?_
      exact exit _ _ _ ⟨hf, safe_good hno⟩ rfl
    obtain ⟨x, hx⟩ : ∃ t, (rAll r)[i]? = some t := ⟨_, List.getElem?_eq_getElem hlt⟩
    have hargs := argl hx
    have hwr : IntKind.wrap .i64 (Int.ofNat i + 1) = Int.ofNat (i + 1) := wrap_succ (by omega)
    refine WS_run 1000 (by simp only [go_sem, eRun_exit, Nat.reduceAdd, Nat.reduceLT, Nat.reduceEqDiff, reduceIte, reduceCtorEq, Nat.reduceLeDiff, k_ref8_Safe_p3, f3, f4, hlv, hlt]; rfl) ?_
    refine WS_loopJ (SkI aw.next lv r i x w3) (fun f' w' => f'.get 1 = some (.ptr aw.next 0) ∧ f'.get 3 = some lv ∧ f'.get 4 = some (.int .i64 (Int.ofNat i)) ∧ Frm (fun _ => False) w3 w' ∧ ∀ t ∈ x.args, ¬ BadAt r i x t) ?_ ?_ x.args.length ⟨0, (by simp only [go_sem, eRun_exit, Nat.reduceAdd, Nat.reduceLT, Nat.reduceEqDiff, reduceIte, reduceCtorEq, Nat.reduceLeDiff, f1] <;> rfl), (by simp only [go_sem, eRun_exit, Nat.reduceAdd, Nat.reduceLT, Nat.reduceEqDiff, reduceIte, reduceCtorEq, Nat.reduceLeDiff, f3] <;> rfl), (by simp only [go_sem, eRun_exit, Nat.reduceAdd, Nat.reduceLT, Nat.reduceEqDiff, reduceIte, reduceCtorEq, Nat.reduceLeDiff, f4] <;> rfl), (by simp only [go_sem, eRun_exit, Nat.reduceAdd, Nat.reduceLT, Nat.reduceEqDiff, reduceIte, reduceCtorEq, Nat.reduceLeDiff] <;> rfl), by omega, rfl, by simp, hf⟩
    · rintro q f w' ⟨k, f1, f3, f4, f5, hk, rfl, hnk, hf'⟩ ih2 exit2
      obtain ⟨b, o, c, xu, rfl, a0, a2, hru⟩ := lit hf' hx
      have hxl := hru.lenV
      by_cases hkl : k < x.args.length
      case neg =>
        rw [List.take_of_length_le (by omega)] at hnk
        refine WS_runB 1000 (by simp only [go_sem, Nat.reduceAdd, Nat.reduceLT, Nat.reduceEqDiff, reduceIte, reduceCtorEq, Nat.reduceLeDiff, k_ref8_Safe_p2, f3, f4, f5, hlt, a2, hxl, hkl]; rfl) ?_
        exact exit2 _ _ _ ⟨(by simp only [go_sem, eRun_exit, Nat.reduceAdd, Nat.reduceLT, Nat.reduceEqDiff, reduceIte, reduceCtorEq, Nat.reduceLeDiff, f1] <;> rfl), (by simp only [go_sem, eRun_exit, Nat.reduceAdd, Nat.reduceLT, Nat.reduceEqDiff, reduceIte, reduceCtorEq, Nat.reduceLeDiff, f3] <;> rfl), (by simp only [go_sem, eRun_exit, Nat.reduceAdd, Nat.reduceLT, Nat.reduceEqDiff, reduceIte, reduceCtorEq, Nat.reduceLeDiff, f4] <;> rfl), hf', hnk⟩ rfl
      obtain ⟨t, ht⟩ : ∃ t, x.args[k]? = some t := ⟨_, List.getElem?_eq_getElem hkl⟩
      obtain ⟨b2, o2, c2, rfl, _, _, _, t0, t1⟩ := tms_at hru ht
      have hwk : IntKind.wrap .i64 (Int.ofNat k + 1) = Int.ofNat (k + 1) := wrap_succ (by omega)
      have next : ¬ BadAt r i x t → ∀ y ∈ x.args.take (k + 1), ¬ BadAt r i x y := by
        intro hn y hy
        rw [take_snoc_of ht, List.mem_append, List.mem_singleton] at hy
        rcases hy with hy | rfl
        · exact hnk y hy
        · exact hn
      by_cases ht1 : t.kind = 1
      case neg =>
        refine WS_run 1000 (by simp only [go_sem, eRun_exit, Nat.reduceAdd, Nat.reduceLT, Nat.reduceEqDiff, reduceIte, reduceCtorEq, Nat.reduceLeDiff, k_ref8_Safe_p2, k_ref8_Safe_p1, f1, f3, f4, f5, hlt, a2, hxl, hkl, t0, ht1, hwk]; rfl) ?_
        exact ih2 _ _ _ (by omega) ⟨k + 1, (by simp only [go_sem, eRun_exit, Nat.reduceAdd, Nat.reduceLT, Nat.reduceEqDiff, reduceIte, reduceCtorEq, Nat.reduceLeDiff, f1] <;> rfl), (by simp only [go_sem, eRun_exit, Nat.reduceAdd, Nat.reduceLT, Nat.reduceEqDiff, reduceIte, reduceCtorEq, Nat.reduceLeDiff, f3] <;> rfl), (by simp only [go_sem, eRun_exit, Nat.reduceAdd, Nat.reduceLT, Nat.reduceEqDiff, reduceIte, reduceCtorEq, Nat.reduceLeDiff, f4] <;> rfl), (by simp only [go_sem, eRun_exit, Nat.reduceAdd, Nat.reduceLT, Nat.reduceEqDiff, reduceIte, reduceCtorEq, Nat.reduceLeDiff] <;> rfl), by omega, rfl, next fun h => ht1 h.1, hf'⟩
      rw [ht1] at t0
      have la := (cb3.frm hf' fun h => h).all (n := 4) rfl
      -- the call
      have called : ∀ {w5 : AW}, Frm (fun _ => False) w' w5 → Frm (fun _ => False) w3 w5 := fun h => hf'.tr h
      by_cases hi0 : i = 0
      · subst hi0
        refine WS_run 1000 (by simp only [go_sem, eRun_exit, Nat.reduceAdd, Nat.reduceLT, Nat.reduceEqDiff, reduceIte, reduceCtorEq, Nat.reduceLeDiff, k_ref8_Safe_p2, k_ref8_Safe_p1, f1, f3, f4, f5, hlt, a2, hxl, hkl, t0, t1, la]; rfl) ?_
        refine WS_call (by simp only [go_sem, eRun_exit, Nat.reduceAdd, Nat.reduceLT, Nat.reduceEqDiff, reduceIte, reduceCtorEq, Nat.reduceLeDiff]) (by simp only [go_sem, eRun_exit, Nat.reduceAdd, Nat.reduceLT, Nat.reduceEqDiff, reduceIte, reduceCtorEq, Nat.reduceLeDiff]; rfl) ?_
        refine binds_ok C (hRl.frm hf' fun _ _ h => h) hbd fun w5 v1 => ?_
        by_cases hm : t.name ∈ rBound r
        · rw [decide_eq_true hm]
          refine WS_run 1000 (by simp only [go_sem, eRun_exit, Nat.reduceAdd, Nat.reduceLT, Nat.reduceEqDiff, reduceIte, reduceCtorEq, Nat.reduceLeDiff, f5, hwk]; rfl) ?_
          exact ih2 _ _ _ (by omega) ⟨k + 1, (by simp only [go_sem, eRun_exit, Nat.reduceAdd, Nat.reduceLT, Nat.reduceEqDiff, reduceIte, reduceCtorEq, Nat.reduceLeDiff, f1] <;> rfl), (by simp only [go_sem, eRun_exit, Nat.reduceAdd, Nat.reduceLT, Nat.reduceEqDiff, reduceIte, reduceCtorEq, Nat.reduceLeDiff, f3] <;> rfl), (by simp only [go_sem, eRun_exit, Nat.reduceAdd, Nat.reduceLT, Nat.reduceEqDiff, reduceIte, reduceCtorEq, Nat.reduceLeDiff, f4] <;> rfl), (by simp only [go_sem, eRun_exit, Nat.reduceAdd, Nat.reduceLT, Nat.reduceEqDiff, reduceIte, reduceCtorEq, Nat.reduceLeDiff] <;> rfl), by omega, rfl, next fun h => h.2.2 hm, called v1⟩
        · rw [decide_eq_false hm]
          refine WS_run 1000 (by simp only [go_sem, eRun_exit, Nat.reduceAdd, Nat.reduceLT, Nat.reduceEqDiff, reduceIte, reduceCtorEq, Nat.reduceLeDiff, k_ref8_Safe_p0]; rfl) ?_
          refine WS_ret ⟨_, by simp only [go_sem, eRun_exit, Nat.reduceAdd, Nat.reduceLT, Nat.reduceEqDiff, reduceIte, reduceCtorEq, Nat.reduceLeDiff, k_ref8_Safe]; rfl, ?_⟩
          have := h w5 (f03.tr (called v1))
          rw [safe_bad hx (List.mem_of_getElem? ht) ⟨ht1, .inl rfl, hm⟩] at this; exact this
      · by_cases hk1 : x.kind = 1
        · rw [hk1] at a0
          refine WS_run 1000 (by simp only [go_sem, eRun_exit, Nat.reduceAdd, Nat.reduceLT, Nat.reduceEqDiff, reduceIte, reduceCtorEq, Nat.reduceLeDiff, k_ref8_Safe_p2, k_ref8_Safe_p1, f1, f3, f4, f5, hlt, a0, a2, hxl, hkl, t0, hi0, hwk]; rfl) ?_
          exact ih2 _ _ _ (by omega) ⟨k + 1, (by simp only [go_sem, eRun_exit, Nat.reduceAdd, Nat.reduceLT, Nat.reduceEqDiff, reduceIte, reduceCtorEq, Nat.reduceLeDiff, f1] <;> rfl), (by simp only [go_sem, eRun_exit, Nat.reduceAdd, Nat.reduceLT, Nat.reduceEqDiff, reduceIte, reduceCtorEq, Nat.reduceLeDiff, f3] <;> rfl), (by simp only [go_sem, eRun_exit, Nat.reduceAdd, Nat.reduceLT, Nat.reduceEqDiff, reduceIte, reduceCtorEq, Nat.reduceLeDiff, f4] <;> rfl), (by simp only [go_sem, eRun_exit, Nat.reduceAdd, Nat.reduceLT, Nat.reduceEqDiff, reduceIte, reduceCtorEq, Nat.reduceLeDiff] <;> rfl), by omega, rfl, next fun h => h.2.1.elim hi0 fun h => h hk1, hf'⟩
        · refine WS_run 1000 (by simp only [go_sem, eRun_exit, Nat.reduceAdd, Nat.reduceLT, Nat.reduceEqDiff, reduceIte, reduceCtorEq, Nat.reduceLeDiff, k_ref8_Safe_p2, k_ref8_Safe_p1, f1, f3, f4, f5, hlt, a0, a2, hxl, hkl, t0, t1, hi0, hk1, la]; rfl) ?_
          refine WS_call (by simp only [go_sem, eRun_exit, Nat.reduceAdd, Nat.reduceLT, Nat.reduceEqDiff, reduceIte, reduceCtorEq, Nat.reduceLeDiff]) (by simp only [go_sem, eRun_exit, Nat.reduceAdd, Nat.reduceLT, Nat.reduceEqDiff, reduceIte, reduceCtorEq, Nat.reduceLeDiff]; rfl) ?_
          refine binds_ok C (hRl.frm hf' fun _ _ h => h) hbd fun w5 v1 => ?_
          by_cases hm : t.name ∈ rBound r
          · rw [decide_eq_true hm]
            refine WS_run 1000 (by simp only [go_sem, eRun_exit, Nat.reduceAdd, Nat.reduceLT, Nat.reduceEqDiff, reduceIte, reduceCtorEq, Nat.reduceLeDiff, f5, hwk]; rfl) ?_
            exact ih2 _ _ _ (by omega) ⟨k + 1, (by simp only [go_sem, eRun_exit, Nat.reduceAdd, Nat.reduceLT, Nat.reduceEqDiff, reduceIte, reduceCtorEq, Nat.reduceLeDiff, f1] <;> rfl), (by simp only [go_sem, eRun_exit, Nat.reduceAdd, Nat.reduceLT, Nat.reduceEqDiff, reduceIte, reduceCtorEq, Nat.reduceLeDiff, f3] <;> rfl), (by simp only [go_sem, eRun_exit, Nat.reduceAdd, Nat.reduceLT, Nat.reduceEqDiff, reduceIte, reduceCtorEq, Nat.reduceLeDiff, f4] <;> rfl), (by simp only [go_sem, eRun_exit, Nat.reduceAdd, Nat.reduceLT, Nat.reduceEqDiff, reduceIte, reduceCtorEq, Nat.reduceLeDiff] <;> rfl), by omega, rfl, next fun h => h.2.2 hm, called v1⟩
          · rw [decide_eq_false hm]
            refine WS_run 1000 (by simp only [go_sem, eRun_exit, Nat.reduceAdd, Nat.reduceLT, Nat.reduceEqDiff, reduceIte, reduceCtorEq, Nat.reduceLeDiff, k_ref8_Safe_p0]; rfl) ?_
            refine WS_ret ⟨_, by simp only [go_sem, eRun_exit, Nat.reduceAdd, Nat.reduceLT, Nat.reduceEqDiff, reduceIte, reduceCtorEq, Nat.reduceLeDiff, k_ref8_Safe]; rfl, ?_⟩
            have := h w5 (f03.tr (called v1))
            rw [safe_bad hx (List.mem_of_getElem? ht) ⟨ht1, .inr hk1, hm⟩] at this; exact this
    · rintro f w' ⟨f1, f3, f4, hf', hnx⟩
      refine WS_run 1000 (by simp only [go_sem, eRun_exit, Nat.reduceAdd, Nat.reduceLT, Nat.reduceEqDiff, reduceIte, reduceCtorEq, Nat.reduceLeDiff, f4, hwr]; rfl) ?_
      refine ih _ _ _ (by omega) ⟨i + 1, (by simp only [go_sem, eRun_exit, Nat.reduceAdd, Nat.reduceLT, Nat.reduceEqDiff, reduceIte, reduceCtorEq, Nat.reduceLeDiff, f1] <;> rfl), (by simp only [go_sem, eRun_exit, Nat.reduceAdd, Nat.reduceLT, Nat.reduceEqDiff, reduceIte, reduceCtorEq, Nat.reduceLeDiff, f3] <;> rfl), (by simp only [go_sem, eRun_exit, Nat.reduceAdd, Nat.reduceLT, Nat.reduceEqDiff, reduceIte, reduceCtorEq, Nat.reduceLeDiff] <;> rfl), by omega, rfl, fun j y hj hy => ?_, hf'⟩
      by_cases hji : j = i
      · subst hji; rw [hx] at hy; cases hy; exact hnx
      · exact hno j y (by omega) hy
  · rintro f w ⟨hf, hs⟩
    refine WS_run 1000 (by simp only [go_sem, eRun_exit, Nat.reduceAdd, Nat.reduceLT, Nat.reduceEqDiff, reduceIte, reduceCtorEq, Nat.reduceLeDiff]; rfl) ?_
    refine WS_ret ⟨_, by simp only [go_sem, eRun_exit, Nat.reduceAdd, Nat.reduceLT, Nat.reduceEqDiff, reduceIte, reduceCtorEq, Nat.reduceLeDiff, k_ref8_Safe]; rfl, ?_⟩
    have := h w (f03.tr hf)
    rw [hs] at this; exact this
end Go.Proofs.Ytjidefnbancmfaa

/- check.Arities. -/
set_option linter.unusedVariables false
set_option maxRecDepth 10000
set_option linter.unusedSimpArgs false
namespace Delphi
open Go.AE
structure Fa where
  name : List Nat
  args : List (Int × List Nat × Int × Unit)
abbrev Ps := List (List Nat × Int)
end Delphi
namespace Go.Proofs.Ytjidefnbancmfaa
open Go.AE Delphi
variable {tab : Tab}
def FaC (T : Nat → Prop) (w : AW) (f : Fa) (xs : List V) : Prop := ∃ v, xs = [.str f.name, v] ∧ ∃ cs, Rd T w v 3 f.args.length cs
theorem FaC.frm {T S : Nat → Prop} {w w' : AW} {l : Fa} {xs : List V} (h : FaC T w l xs) (hf : Frm S w w') (hd : ∀ x, T x → ¬ S x) : FaC T w' l xs := by
  obtain ⟨v, h1, cs, h2⟩ := h; exact ⟨v, h1, cs, h2.frm hf hd⟩
theorem FaC.one {T : Nat → Prop} {w : AW} {l : Fa} {xs : List V} (h : FaC T w l xs) : xs.length = 2 ∧ allOne xs = true := by
  obtain ⟨v, rfl, cs, h2⟩ := h
  refine ⟨rfl, ?_⟩
  rcases h2.inv with ⟨rfl, _⟩ | ⟨_, _, _, rfl, _⟩ <;> rfl
end Go.Proofs.Ytjidefnbancmfaa

/- check.Arities, whole. -/
set_option linter.unusedVariables false
set_option maxRecDepth 10000
set_option linter.unusedSimpArgs false
namespace Delphi
def st0 : Ps × Bool := ([], true)
end Delphi
namespace Go.Proofs.Ytjidefnbancmfaa
open Go.AE Delphi
variable {tab : Tab}
theorem Al.cut {T : Nat → Prop} {w : AW} {b : Nat} {sh : Share} (h : Al T w b sh) : Al (fun x => T x ∧ x < w.next) w b sh := by
  rcases h with rfl | rfl | rfl | ⟨f, F, rfl, h1, h2, h3⟩
  · exact .inl rfl
  · exact .inr (.inl rfl)
  · exact .inr (.inr (.inl rfl))
  · exact .inr (.inr (.inr ⟨f, F, rfl, ⟨h1, h2⟩, h2, h3⟩))
theorem Rd.cut {T : Nat → Prop} {w : AW} {v : V} {esz n : Nat} {cs : List V} (h : Rd T w v esz n cs) : Rd (fun x => T x ∧ x < w.next) w v esz n cs := by
  cases h with
  | nil => exact .nil
  | blk hT hb hx ha hl hcs hc => exact .blk ⟨hT, hb⟩ hb hx (Al.cut ha) hl hcs hc
/-- a rule as it was, read where one is now. -/
theorem rls_at2 {T : Nat → Prop} {a w : AW} {v : V} {l : List Rl} (h : RdL (RlC T) T a v 4 l) (hf : Frm (fun _ => False) a w) {i : Nat} {r : Rl} (hi : l[i]? = some r) : ∃ b o c xs, v = .slice b o l.length c ∧ RlC T a r xs ∧ w.load b (o + i * 4) 4 = some xs ∧ ∀ j k, j + k ≤ 4 → w.load b (o + i * 4 + j) k = some ((xs.drop j).take k) := by
  obtain ⟨xss, h1, h2⟩ := h
  have hlt : i < l.length := (List.getElem?_eq_some_iff.1 hi).1
  have h3 : RdL (fun _ => RlC T a) T w v 4 l := ⟨xss, h1.frm hf fun _ _ h => h, h2⟩
  rcases h3.inv (fun a xs hx => (RlC.one hx).1) with ⟨_, q2⟩ | ⟨b, o, c, rfl, hT, hb, _, hat⟩
  · rw [q2] at hlt; simp at hlt
  · obtain ⟨xs, hx, hp⟩ := hat i r hi
    have hl := hx.one.1
    have := hp 0 4 (by omega)
    rw [List.drop_zero, List.take_of_length_le (by omega)] at this
    exact ⟨b, o, c, xs, rfl, hx, this, hp⟩
end Go.Proofs.Ytjidefnbancmfaa

/- The reference's Preds. -/
set_option linter.unusedVariables false
set_option maxRecDepth 10000
set_option linter.unusedSimpArgs false
namespace Delphi
open Go.AE
end Delphi
namespace Go.Proofs.Ytjidefnbancmfaa
open Go.AE Delphi
variable {tab : Tab}
def nmsC (L : Ps) : List V := L.map fun p => V.str p.1
def wdtC (L : Ps) : List V := L.map fun p => V.int .i64 p.2
/-- names and widths. -/
structure NW (aw w : AW) (nv wv : V) (L : Ps) (S1 S2 : Nat → Prop) : Prop where
  a : Bt S1 w nv 1 L.length (nmsC L)
  b : Bt S2 w wv 1 L.length (wdtC L)
  s1 : ∀ x, S1 x → aw.next ≤ x ∧ x < w.next ∧ ¬ S2 x
  s2 : ∀ x, S2 x → aw.next ≤ x ∧ x < w.next
  frm : Frm (fun _ => False) aw w
theorem NW.ext {aw w w2 : AW} {nv wv : V} {L : Ps} {S1 S2 : Nat → Prop} (h : NW aw w nv wv L S1 S2) (hf : Frm (fun _ => False) w w2) : NW aw w2 nv wv L S1 S2 :=
  ⟨h.a.frm hf fun _ _ h => h, h.b.frm hf fun _ _ h => h, fun x hx => by have h1 := h.s1 x hx; have := hf.next; exact ⟨by omega, by omega, h1.2.2⟩, fun x hx => by have h1 := h.s2 x hx; have := hf.next; exact ⟨by omega, by omega⟩, h.frm.tr hf⟩
end Go.Proofs.Ytjidefnbancmfaa

/- The reference's Preds, whole; Defined. -/
set_option linter.unusedVariables false
set_option maxRecDepth 10000
set_option linter.unusedSimpArgs false
namespace Go.Proofs.Ytjidefnbancmfaa
open Go.AE Delphi
variable {tab : Tab}
/-- a rule's literals in a slice of one's own. -/
structure LV (T : Nat → Prop) (aw w : AW) (lv : V) (r : Rl) (S1 S2 Tl : Nat → Prop) : Prop where
  rd : ∃ xss, Rd Tl w lv 3 (rAll r).length xss.flatten ∧ All2 (LtC T aw) (rAll r) xss
  sep : ∀ x, Tl x → x < w.next ∧ ¬ S1 x ∧ ¬ S2 x
theorem LV.at {T : Nat → Prop} {aw w : AW} {lv : V} {r : Rl} {S1 S2 Tl : Nat → Prop} (h : LV T aw w lv r S1 S2 Tl) {i : Nat} {x : Lt} (hx : (rAll r)[i]? = some x) : ∃ b o c u, lv = .slice b o (rAll r).length c ∧ w.load b (o + i * 3) 1 = some [.int .i64 (Int.ofNat x.kind)] ∧ w.load b (o + i * 3 + 1) 1 = some [.str x.name] ∧ w.load b (o + i * 3 + 2) 1 = some [u] ∧ lenV u = some x.args.length := by
  obtain ⟨xss, h1, h2⟩ := h.rd
  have hlt : i < (rAll r).length := (List.getElem?_eq_some_iff.1 hx).1
  have h3 : RdL (fun _ => LtC T aw) Tl w lv 3 (rAll r) := ⟨xss, h1, h2⟩
  rcases h3.inv (fun a xs hx => (LtC.one hx).1) with ⟨_, q2⟩ | ⟨b, o, c, rfl, _, _, _, hat⟩
  · rw [q2] at hlt; simp at hlt
  · obtain ⟨xs, ⟨u, rfl, hu⟩, hp⟩ := hat i x hx
    exact ⟨b, o, c, u, rfl, hp 0 1 (by omega), hp 1 1 (by omega), hp 2 1 (by omega), hu.lenV⟩
end Go.Proofs.Ytjidefnbancmfaa

/- The reference's Preds, whole; Defined. -/
set_option linter.unusedVariables false
set_option maxRecDepth 10000
set_option linter.unusedSimpArgs false
namespace Go.Proofs.Ytjidefnbancmfaa
open Go.AE Delphi
variable {tab : Tab}
end Go.Proofs.Ytjidefnbancmfaa

/- Defined, twice. -/
set_option linter.unusedVariables false
set_option maxRecDepth 10000
set_option linter.unusedSimpArgs false
namespace Delphi
def cDefined (rules : List Rl) (nm : List Nat) : Prop := ∃ r ∈ rules, r.head.name = nm
instance (rules : List Rl) (nm : List Nat) : Decidable (cDefined rules nm) := List.decidableBEx _ rules
end Delphi
namespace Go.Proofs.Ytjidefnbancmfaa
open Go.AE Delphi
variable {tab : Tab}
theorem eqL_no {a b : List Nat} (h : a ≠ b) : eqL a b = false := by
  cases hc : eqL a b with
  | false => rfl
  | true => exact absurd (eqL_iff.1 hc) h
end Go.Proofs.Ytjidefnbancmfaa

/- How large a read program is; law 9's Rules. -/
set_option linter.unusedVariables false
set_option maxRecDepth 10000
set_option linter.unusedSimpArgs false
namespace Delphi
theorem rArgs_len {ws : List Wd} : ∀ (n : Nat) (args : List Tm) (k e : Nat), (args.length ≤ 4 ∨ e ≠ 0) → args.length ≤ 5 → (rArgs ws n args k e).1.length ≤ 5
  | 0, args, k, e, _, h => h
  | n + 1, args, k, e, h1, h2 => by
    unfold rArgs
    by_cases he : e = 0
    · rw [if_pos he]
      have h3 : args.length ≤ 4 := h1.resolve_right fun h => h he
      by_cases hs : rSign ws (rTerm ws k e).2.1 [44] = true
      · simp only [if_pos hs]
        refine rArgs_len n _ _ _ ?_ (by rw [List.length_append, List.length_singleton]; omega)
        rw [List.length_append, List.length_singleton]
        by_cases h4 : (rTerm ws k e).2.2 = 0 ∧ args.length = 4
        · rw [if_pos h4]; right; omega
        · rw [if_neg h4]
          by_cases h5 : (rTerm ws k e).2.2 = 0
          · left; have : ¬ args.length = 4 := fun h => h4 ⟨h5, h⟩
            omega
          · exact .inr h5
      · simp only [if_neg hs]
        rw [List.length_append, List.length_singleton]; omega
    · rw [if_neg he]; exact h2
theorem rAtom_args {ws : List Wd} {k e : Nat} : (rAtom ws k e).1.args.length ≤ 5 := by
  unfold rAtom
  split
  · simp [Lt.zero]
  · split
    · split
      · exact rArgs_len _ _ _ _ (.inl (by simp)) (by simp)
      · simp
    · simp [Lt.zero]
theorem rLit_args {ws : List Wd} {k e : Nat} : (rLit ws k e).1.args.length ≤ 5 := by
  unfold rLit
  split
  · exact rAtom_args
  · split
    · exact rAtom_args
    · simp only
      split
      · simp [Lt.zero]
      · simp
theorem rBody_len {ws : List Wd} : ∀ (n : Nat) (l : List Lt) (k e : Nat), (l.length ≤ 6 ∨ e ≠ 0) → l.length ≤ 7 → (∀ x ∈ l, x.args.length ≤ 5) → (rBody ws n l k e).1.length ≤ 7 ∧ ∀ x ∈ (rBody ws n l k e).1, x.args.length ≤ 5
  | 0, l, k, e, _, h, h3 => ⟨h, h3⟩
  | n + 1, l, k, e, h1, h2, h3 => by
    unfold rBody
    have hx : ∀ x ∈ l ++ [(rLit ws k e).1], x.args.length ≤ 5 := by
      intro x hx
      rw [List.mem_append, List.mem_singleton] at hx
      rcases hx with hx | rfl
      · exact h3 x hx
      · exact rLit_args
    by_cases he : e = 0
    · rw [if_pos he]
      have h6 : l.length ≤ 6 := h1.resolve_right fun h => h he
      by_cases hs : rSign ws (rLit ws k e).2.1 [44] = true
      · simp only [if_pos hs]
        refine rBody_len n _ _ _ ?_ (by rw [List.length_append, List.length_singleton]; omega) hx
        rw [List.length_append, List.length_singleton]
        by_cases h4 : (rLit ws k e).2.2 = 0 ∧ l.length = 6
        · rw [if_pos h4]; right; omega
        · rw [if_neg h4]
          by_cases h5 : (rLit ws k e).2.2 = 0
          · left; have : ¬ l.length = 6 := fun h => h4 ⟨h5, h⟩
            omega
          · exact .inr h5
      · simp only [if_neg hs]
        exact ⟨by rw [List.length_append, List.length_singleton]; omega, hx⟩
    · rw [if_neg he]; exact ⟨h2, h3⟩
/-- a read rule's bounds. -/
structure RBr (r : Rl) : Prop where
  head : r.head.args.length ≤ 5
  body : r.body.length ≤ 7
  args : ∀ l ∈ r.body, l.args.length ≤ 5
theorem RBr.big {r : Rl} (h : RBr r) : RBd r := ⟨by have := h.head; omega, by have := h.body; omega, fun l hl => by have := h.args l hl; omega⟩
theorem rClause_bd {ws : List Wd} {k e : Nat} : RBr (rClause ws k e).1 := by
  unfold rClause
  refine ⟨rAtom_args, ?_, ?_⟩
  · simp only
    split
    · exact (rBody_len _ _ _ _ (.inl (by simp)) (by simp) (by simp)).1
    · simp
  · simp only
    split
    · exact (rBody_len _ _ _ _ (.inl (by simp)) (by simp) (by simp)).2
    · simp
theorem rRules_bd {ws : List Wd} : ∀ (n : Nat) (l : List Rl) (k e : Nat), (l.length ≤ 30 ∨ e ≠ 0) → l.length ≤ 31 → (∀ x ∈ l, RBr x) → (rRules ws n l k e).1.length ≤ 31 ∧ ∀ x ∈ (rRules ws n l k e).1, RBr x
  | 0, l, k, e, _, h, h3 => ⟨h, h3⟩
  | n + 1, l, k, e, h1, h2, h3 => by
    unfold rRules
    have hx : ∀ x ∈ l ++ [(rClause ws k e).1], RBr x := by
      intro x hx
      rw [List.mem_append, List.mem_singleton] at hx
      rcases hx with hx | rfl
      · exact h3 x hx
      · exact rClause_bd
    by_cases he : e = 0 ∧ k < ws.length
    · rw [if_pos he]
      have h6 : l.length ≤ 30 := h1.resolve_right fun h => h he.1
      refine rRules_bd n _ _ _ ?_ (by rw [List.length_append, List.length_singleton]; omega) hx
      rw [List.length_append, List.length_singleton]
      by_cases h4 : (rClause ws k e).2.2 = 0 ∧ l.length = 30
      · simp only [if_pos h4]; right; omega
      · simp only [if_neg h4]
        by_cases h5 : (rClause ws k e).2.2 = 0
        · left; have : ¬ l.length = 30 := fun h => h4 ⟨h5, h⟩
          omega
        · exact .inr h5
    · rw [if_neg he]; exact ⟨h2, h3⟩
theorem rProgram_bd (s : List Nat) : (rProgram s).1.length ≤ 31 ∧ ∀ x ∈ (rProgram s).1, RBr x := by
  unfold rProgram
  split
  · simp
  · have hb := rRules_bd (ws := (scan 0 s).1) ((scan 0 s).1.length + 1) [] 0 0 (.inl (by simp)) (by simp) (by simp)
    simp only
    generalize rRules (scan 0 s).1 ((scan 0 s).1.length + 1) [] 0 0 = r at hb ⊢
    generalize rBad r.2.2 (if (scan 0 s).2 = true then 0 else 4) = e
    by_cases he : e = 0
    · rw [if_pos he]; exact hb
    · rw [if_neg he]; simp
end Delphi
namespace Go.Proofs.Ytjidefnbancmfaa
open Go.AE Delphi
variable {tab : Tab}
/-- what is told of a law's beginning. -/
def Begins (tab : Tab) (f : Nat) : Prop := ∀ aw, CallR tab f [] aw (.bool true) aw
theorem begins_ok {f : Nat} (B : Begins tab f) {aw : AW} {K : V → AW → Prop} (h : K (.bool true) aw) : WF tab f [] aw K := ⟨_, _, B aw, h⟩
theorem lcut_ok (C : Codes tab) {s : List Nat} {n : Nat} {aw : AW} {K : V → AW → Prop} (h : K (.str (s.take n)) aw) : WF tab n_law1_Cut [.str s, .int .i64 (Int.ofNat n)] aw K := by
  refine WF_of C.c_law1_Cut rfl ?_
  by_cases hl : n < s.length
  · have h1 : n ≤ s.length := by omega
    refine WS_run 1000 (by simp only [go_sem, eRun_exit, Nat.reduceAdd, Nat.reduceLT, Nat.reduceEqDiff, reduceIte, reduceCtorEq, Nat.reduceLeDiff, k_law1_Cut, hl, h1, Nat.zero_le, List.drop_zero, Nat.sub_zero]; rfl) ?_
    refine WS_ret ⟨_, by simp only [go_sem, eRun_exit, Nat.reduceAdd, Nat.reduceLT, Nat.reduceEqDiff, reduceIte, reduceCtorEq, Nat.reduceLeDiff, k_law1_Cut]; rfl, ?_⟩
    exact h
  · refine WS_run 1000 (by simp only [go_sem, eRun_exit, Nat.reduceAdd, Nat.reduceLT, Nat.reduceEqDiff, reduceIte, reduceCtorEq, Nat.reduceLeDiff, k_law1_Cut, hl]; rfl) ?_
    refine WS_ret ⟨_, by simp only [go_sem, eRun_exit, Nat.reduceAdd, Nat.reduceLT, Nat.reduceEqDiff, reduceIte, reduceCtorEq, Nat.reduceLeDiff, k_law1_Cut]; rfl, ?_⟩
    rw [List.take_of_length_le (by omega)] at h
    exact h
/-- Rules. -/
theorem lrules_ok (C : Codes tab) {s : List Nat} {aw : AW} {K : V → AW → Prop} (hb : ∀ x ∈ s, x < 256)
    (h : ∀ w v T rs, rs = (rProgram (s.take 1200)).1 → RdL (RlC T) T w v 4 rs → Frm (fun _ => False) aw w → (∀ x, T x → aw.next ≤ x ∧ x < w.next) → K v w) : WF tab n_law9_Rules [.str s] aw K := by
  refine WF_of C.c_law9_Rules rfl ?_
  refine WS_run 1000 (by simp only [go_sem, eRun_exit, Nat.reduceAdd, Nat.reduceLT, Nat.reduceEqDiff, reduceIte, reduceCtorEq, Nat.reduceLeDiff, k_law9_Rules, k_law9_Rules_p0]; rfl) ?_
  refine WS_call (by simp only [go_sem, eRun_exit, Nat.reduceAdd, Nat.reduceLT, Nat.reduceEqDiff, reduceIte, reduceCtorEq, Nat.reduceLeDiff]) (by simp only [go_sem, eRun_exit, Nat.reduceAdd, Nat.reduceLT, Nat.reduceEqDiff, reduceIte, reduceCtorEq, Nat.reduceLeDiff]; rfl) ?_
  refine lcut_ok C (n := 1200) ?_
  refine WS_run 1000 (by simp only [go_sem, eRun_exit, Nat.reduceAdd, Nat.reduceLT, Nat.reduceEqDiff, reduceIte, reduceCtorEq, Nat.reduceLeDiff]; rfl) ?_
  refine WS_call (by simp only [go_sem, eRun_exit, Nat.reduceAdd, Nat.reduceLT, Nat.reduceEqDiff, reduceIte, reduceCtorEq, Nat.reduceLeDiff]) (by simp only [go_sem, eRun_exit, Nat.reduceAdd, Nat.reduceLT, Nat.reduceEqDiff, reduceIte, reduceCtorEq, Nat.reduceLeDiff]; rfl) ?_
  refine rprogram_ok C (by rw [List.length_take]; omega) (fun x hx => hb x (List.mem_of_mem_take hx)) fun w v T h1 h2 h3 => ?_
  refine WS_run 1000 (by simp only [go_sem, eRun_exit, Nat.reduceAdd, Nat.reduceLT, Nat.reduceEqDiff, reduceIte, reduceCtorEq, Nat.reduceLeDiff]; rfl) ?_
  refine WS_ret ⟨_, by simp only [go_sem, eRun_exit, Nat.reduceAdd, Nat.reduceLT, Nat.reduceEqDiff, reduceIte, reduceCtorEq, Nat.reduceLeDiff, k_law9_Rules]; rfl, ?_⟩
  exact h w v T _ rfl h1 h2 h3
end Go.Proofs.Ytjidefnbancmfaa

/- CheckRules: the law. -/
set_option linter.unusedVariables false
set_option maxRecDepth 10000
set_option linter.unusedSimpArgs false
namespace Go.Proofs.Ytjidefnbancmfaa
open Go.AE Delphi
variable {tab : Tab}
end Go.Proofs.Ytjidefnbancmfaa

/- CheckRules: facts as they are given; the law. -/
set_option linter.unusedVariables false
set_option maxRecDepth 10000
set_option linter.unusedSimpArgs false
namespace Go.Proofs.Ytjidefnbancmfaa
open Go.AE Delphi
variable {tab : Tab}
end Go.Proofs.Ytjidefnbancmfaa
