/- A part of the proof: W4, W5, W6, Ae34, W7, W8, Ae35, Ae38, XLex, XVal, PVal1. -/
import Derived.Test.YtjidefnbancmfaaDoorVdF
import Derived.Lib.ItoaMem
set_option linter.unusedVariables false
set_option linter.unusedSectionVars false
set_option linter.unusedSimpArgs false
namespace Go.AE
variable [Globs]
/-- all of what was there is as it was, but what is in S. -/
structure Frm (S : Nat → Prop) (w w' : AW) : Prop where
  next : w.next ≤ w'.next
  heap : ∀ b, b < w.next → ¬ S b → w'.heap.get b = w.heap.get b
  fams : ∀ b, b < w.next → ¬ S b → w'.fams.get b = w.fams.get b
theorem Frm.refl {S : Nat → Prop} (w : AW) : Frm S w w := ⟨Nat.le_refl _, fun _ _ _ => rfl, fun _ _ _ => rfl⟩
theorem Frm.trans {S T U : Nat → Prop} {a b c : AW} (h : Frm S a b) (h' : Frm T b c) (hs : ∀ x, x < a.next → S x → U x) (ht : ∀ x, x < a.next → T x → U x) : Frm U a c :=
  ⟨Nat.le_trans h.next h'.next, fun k hk hu => (h'.heap k (Nat.lt_of_lt_of_le hk h.next) fun x => hu (ht k hk x)).trans (h.heap k hk fun x => hu (hs k hk x)),
   fun k hk hu => (h'.fams k (Nat.lt_of_lt_of_le hk h.next) fun x => hu (ht k hk x)).trans (h.fams k hk fun x => hu (hs k hk x))⟩
theorem Frm.mono {S T : Nat → Prop} {a b : AW} (h : Frm S a b) (hs : ∀ x, x < a.next → S x → T x) : Frm T a b := ⟨h.next, fun k hk hu => h.heap k hk fun x => hu (hs k hk x), fun k hk hu => h.fams k hk fun x => hu (hs k hk x)⟩
theorem Frm.new {S : Nat → Prop} (w : AW) (x : Blk) : Frm S w (w.new x) := ⟨Nat.le_succ _, fun b hb _ => T.get_put_ne (by omega), fun _ _ _ => rfl⟩
theorem Ext.frm {N : Nat} {w w' : AW} (h : Ext N w w') {S : Nat → Prop} (hs : ∀ x, x < w.next → N ≤ x → S x) : Frm S w w' :=
  ⟨h.next, fun b hb hn => h.heap b (Nat.lt_of_not_le fun x => hn (hs b hb x)), fun b hb hn => h.fams b (Nat.lt_of_not_le fun x => hn (hs b hb x))⟩
theorem Frm.ext {N : Nat} {w w' : AW} {S : Nat → Prop} (h : Frm S w w') (hN : N ≤ w.next) (hs : ∀ x, S x → N ≤ x) : Ext N w w' :=
  ⟨hN, h.next, fun b hb => h.heap b (by omega) fun x => by have := hs b x; omega, fun b hb => h.fams b (by omega) fun x => by have := hs b x; omega⟩
/-- a footprint that took in what is new, and no more. -/
def Grown (S S' : Nat → Prop) (w w' : AW) : Prop := ∀ b, S' b → b < w'.next ∧ (S b ∨ w.next ≤ b)
def Shr (S : Nat → Prop) (w : AW) (b : Nat) (sh : Share) : Prop :=
  sh = .own ∨ sh = .lax ∨ ∃ f F, sh = .fam f ∧ S f ∧ f < w.next ∧ w.fams.get f = some F ∧ F.last = b ∧ F.floor ≤ w.next ∧ w.alive b sh = true
theorem Shr.alive {S : Nat → Prop} {w : AW} {b : Nat} {sh : Share} (h : Shr S w b sh) : w.alive b sh = true := by
  rcases h with rfl | rfl | ⟨f, F, rfl, h1, h2, h3, h4, h6, h5⟩
  · rfl
  · rfl
  · exact h5
theorem Shr.mono {S S' : Nat → Prop} {w : AW} {b : Nat} {sh : Share} (h : Shr S w b sh) (hs : ∀ x, S x → S' x) : Shr S' w b sh := by
  rcases h with rfl | rfl | ⟨f, F, rfl, h1, h2⟩
  · exact .inl rfl
  · exact .inr (.inl rfl)
  · exact .inr (.inr ⟨f, F, rfl, hs _ h1, h2⟩)
theorem Shr.frm {S T : Nat → Prop} {w w' : AW} {b : Nat} {sh : Share} (h : Shr S w b sh) (hf : Frm T w w') (hd : ∀ x, S x → ¬ T x) : Shr S w' b sh := by
  rcases h with rfl | rfl | ⟨f, F, rfl, h1, h2, h3, h4, h6, h5⟩
  · exact .inl rfl
  · exact .inr (.inl rfl)
  · have e := hf.fams f h2 (hd f h1)
    refine .inr (.inr ⟨f, F, rfl, h1, Nat.lt_of_lt_of_le h2 hf.next, e.trans h3, h4, Nat.le_trans h6 hf.next, ?_⟩)
    simp only [AW.alive, h3, e.trans h3] at h5 ⊢
    exact h5
/-- a slice of one's own: its elements' cells; behind them what its block still has room for. -/
inductive Buf (S : Nat → Prop) (w : AW) : V → Nat → Nat → List V → Prop
  | nil {esz : Nat} : Buf S w .nilslice esz 0 []
  | blk {b n esz r : Nat} {cs rest : List V} {sh : Share} (hS : S b) (hb : b < w.next) (hx : w.heap.get b = some (.cells (cs ++ rest) sh)) (hl : cs.length = n * esz) (hr : rest.length = r * esz) (he : 0 < esz) (hn : 0 < n + r) (hs : Shr S w b sh) :
      Buf S w (.slice b 0 n (.upTo esz)) esz n cs
theorem Buf.mono {S S' : Nat → Prop} {w : AW} {v : V} {esz n : Nat} {cs : List V} (h : Buf S w v esz n cs) (hs : ∀ x, S x → S' x) : Buf S' w v esz n cs := by
  cases h with
  | nil => exact .nil
  | blk hS hb hx hl hr he hn hsh => exact .blk (hs _ hS) hb hx hl hr he hn (hsh.mono hs)
theorem Buf.frm {S T : Nat → Prop} {w w' : AW} {v : V} {esz n : Nat} {cs : List V} (h : Buf S w v esz n cs) (hf : Frm T w w') (hd : ∀ x, S x → ¬ T x) : Buf S w' v esz n cs := by
  cases h with
  | nil => exact .nil
  | blk hS hb hx hl hr he hn hsh => exact .blk hS (Nat.lt_of_lt_of_le hb hf.next) ((hf.heap _ hb (hd _ hS)).trans hx) hl hr he hn (hsh.frm hf hd)
theorem Buf.len {S : Nat → Prop} {w : AW} {v : V} {esz n : Nat} {cs : List V} (h : Buf S w v esz n cs) : cs.length = n * esz := by
  cases h with
  | nil => simp
  | blk hS hb hx hl hr he hn hsh => exact hl
theorem Buf.inv {S : Nat → Prop} {w : AW} {v : V} {esz n : Nat} {cs : List V} (h : Buf S w v esz n cs) : (v = .nilslice ∧ n = 0 ∧ cs = []) ∨ ∃ b, v = .slice b 0 n (.upTo esz) ∧ S b ∧ b < w.next := by
  cases h with
  | nil => exact .inl ⟨rfl, rfl, rfl⟩
  | blk hS hb hx hl hr he hn hsh => exact .inr ⟨_, rfl, hS, hb⟩
theorem Buf.load {S : Nat → Prop} {w : AW} {b n esz : Nat} {c : Cap} {cs : List V} (h : Buf S w (.slice b 0 n c) esz n cs) {o k : Nat} (hk : o + k ≤ cs.length) : w.load b o k = some ((cs.drop o).take k) := by
  cases h with
  | blk hS hb hx hl hr he hn hsh =>
    simp only [AW.load, hx, hsh.alive]
    rw [takeN_some _ _ (by simp; omega), List.drop_append_of_le_length (by omega), List.take_append_of_le_length (by simp; omega)]
theorem over_mid : ∀ (a b c d : List V), d.length = b.length → over (a ++ b ++ c) a.length d = some (a ++ d ++ c)
  | [], b, c, d, h => by
    have : ∀ (b d : List V), d.length = b.length → over (b ++ c) 0 d = some (d ++ c) := by
      intro b
      induction b with
      | nil => intro d h; cases d with
        | nil => cases hc : c <;> rfl
        | cons x d => simp at h
      | cons y b ih => intro d h; cases d with
        | nil => simp at h
        | cons x d => simp only [List.cons_append, over, ih d (by simpa using h)]
    simpa using this b d h
  | x :: a, b, c, d, h => by
    have := over_mid a b c d h
    simp only [List.cons_append, List.length_cons, over, this]
theorem turn_frm {S : Nat → Prop} {w : AW} {b : Nat} {l : List V} {sh : Share} (hS : S b) (hs : Shr S w b sh) : Frm S w (w.turn b (.cells l sh)) := by
  refine ⟨Nat.le_refl _, fun c hc hn => T.get_put_ne fun e => hn (e ▸ hS), fun c hc hn => ?_⟩
  rcases hs with rfl | rfl | ⟨f, F, rfl, h1, h2⟩
  · rfl
  · rfl
  · exact T.get_put_ne fun e => hn (e ▸ h1)
theorem turn_shr {S : Nat → Prop} {w : AW} {b : Nat} {l : List V} {sh : Share} (hb : b < w.next) (hs : Shr S w b sh) : Shr S (w.turn b (.cells l sh)) b sh := by
  rcases hs with rfl | rfl | ⟨f, F, rfl, h1, h2, h3⟩
  · exact .inl rfl
  · exact .inr (.inl rfl)
  · have e : (w.turn b (.cells l (.fam f))).fams.get f = some ⟨b, w.next, b⟩ := T.get_put_same
    exact .inr (.inr ⟨f, _, rfl, h1, h2, e, rfl, Nat.le_refl _, by simp only [AW.alive, e, Nat.beq_refl, Bool.true_or]⟩)
theorem store_shr {S : Nat → Prop} {w : AW} {b o : Nat} {l l' vs : List V} {sh : Share} (hx : w.heap.get b = some (.cells l sh)) (hs : Shr S w b sh) (h1 : allOne vs = true) (ho : over l o vs = some l') : w.store b o vs = some (w.turn b (.cells l' sh)) := by
  have ha := hs.alive
  rcases hs with rfl | rfl | ⟨f, F, rfl, _⟩ <;> simp only [AW.store, hx, ha, h1, ho]
/-- one more element. -/
theorem Buf.add {S : Nat → Prop} {w : AW} {v : V} {esz n bytes : Nat} {cs news : List V} (h : Buf S w v esz n cs) (he : 0 < esz) (hl : news.length = esz) (h1 : allOne news = true) (hb : (n + 1) * bytes ≤ 70368744177664) (hb' : n + 1 ≤ 70368744177664) :
    ∃ v' w' S', w.appendV esz bytes v 1 news = some (v', w') ∧ Buf S' w' v' esz (n + 1) (cs ++ news) ∧ Frm S w w' ∧ Grown S S' w w' := by
  have hcl := h.len
  cases h with
  | nil =>
    refine ⟨.slice w.next 0 1 (.upTo esz), w.fresh news, fun b => b = w.next, ?_, ?_, Frm.new _ _, ?_⟩
    · simp only [AW.appendV]; rw [if_pos ⟨by simpa using hb, by omega⟩]
    · exact .blk (r := 0) (rest := []) rfl (Nat.lt_succ_self _) (by rw [List.append_nil]; exact T.get_put_same) (by simpa using hl) (by simp) he (by omega) (.inl rfl)
    · rintro b rfl; exact ⟨Nat.lt_succ_self _, .inr (Nat.le_refl _)⟩
  | @blk b _ _ r _ rest sh hS hbw hx hlen hr he' hn hs =>
    have happ : w.appendV esz bytes (.slice b 0 n (.upTo esz)) 1 news = w.appendUp esz b 0 n 1 news := if_pos ⟨rfl, hb, hb', h1, he⟩
    rw [happ]
    cases r with
    | succ r =>
      -- room behind it
      have hne : Nat.beq (0 + n * esz) (cs ++ rest).length = false := by
        rw [natBeq, decide_eq_false_iff_not, List.length_append, hlen, hr, Nat.add_mul, Nat.one_mul]; omega
      have hfit : Nat.ble (0 + (n + 1) * esz) (cs ++ rest).length = true := by
        rw [natBle, decide_eq_true_eq, List.length_append, hlen, hr, Nat.add_mul, Nat.add_mul, Nat.one_mul]; omega
      obtain ⟨r1, r2, rfl, hr1⟩ : ∃ r1 r2, rest = r1 ++ r2 ∧ r1.length = esz := ⟨rest.take esz, rest.drop esz, (List.take_append_drop _ _).symm, by rw [List.length_take, hr, Nat.add_mul, Nat.one_mul]; omega⟩
      have hov : over (cs ++ (r1 ++ r2)) (0 + n * esz) news = some (cs ++ news ++ r2) := by
        rw [← List.append_assoc, Nat.zero_add, ← hlen]; exact over_mid _ _ _ _ (by omega)
      refine ⟨.slice b 0 (n + 1) (.upTo esz), w.turn b (.cells (cs ++ news ++ r2) sh), fun x => S x ∧ x < w.next, ?_, ?_, turn_frm hS hs, ?_⟩
      · simp only [AW.appendUp, hx, hne, hfit, store_shr hx hs h1 hov]
      · refine .blk (r := r) ⟨hS, hbw⟩ hbw T.get_put_same (by rw [List.length_append, hlen, hl, Nat.add_mul, Nat.one_mul]) ?_ he (by omega) ?_
        · rw [List.length_append, hr1, Nat.add_mul, Nat.one_mul] at hr; omega
        · rcases turn_shr (l := cs ++ news ++ r2) hbw hs with rfl | rfl | ⟨f, F, rfl, q1, q2, q3⟩
          · exact .inl rfl
          · exact .inr (.inl rfl)
          · exact .inr (.inr ⟨f, F, rfl, ⟨q1, q2⟩, q2, q3⟩)
      · rintro x ⟨q1, q2⟩; exact ⟨q2, .inl q1⟩
    | zero =>
      have hr0 : rest = [] := List.length_eq_zero_iff.1 (by simpa using hr)
      subst hr0
      rw [List.append_nil] at hx
      have hbeq : Nat.beq (0 + n * esz) cs.length = true := by rw [Nat.zero_add, hlen, Nat.beq_refl]
      have fam : ∀ (u : AW) (f : Nat) (F : Fam), w.next ≤ u.next → Frm S w u → u.heap.get b = some (.cells cs (.fam f)) → (S f ∨ w.next ≤ f) → f < u.next → b < u.next → u.fams.get f = some F → F.last = b → F.floor ≤ u.next → u.alive b (.fam f) = true →
          ∃ v' w' S', u.appendFam esz b 0 n 1 news = some (v', w') ∧ Buf S' w' v' esz (n + 1) (cs ++ news) ∧ Frm S w w' ∧ Grown S S' w w' := by
        intro u f F hle hfu hx hSf hfl hbu hF hlast hflo hal
        refine ⟨.slice u.next 0 (n + 1) (.upTo esz), u.grow b f F (cs.drop 0 ++ news), fun x => x = u.next ∨ x = f, ?_, ?_, ?_, ?_⟩
        · simp only [AW.appendFam, hx, hal, hF, hbeq]
        · have hg : (u.grow b f F (cs.drop 0 ++ news)).fams.get f = some ⟨F.keep, F.floor, u.next⟩ := by
            simp only [AW.grow, T.get_putk, if_true, hlast, Nat.beq_refl]
          refine .blk (r := 0) (rest := []) (sh := .fam f) (.inl rfl) (Nat.lt_succ_self _) ?_ ?_ (by simp) he (by omega) (.inr (.inr ⟨f, ⟨F.keep, F.floor, u.next⟩, rfl, .inr rfl, Nat.lt_succ_of_lt hfl, hg, rfl, Nat.le_succ_of_le hflo, ?_⟩))
          · simp only [AW.grow, T.get_putk, if_true, List.drop_zero, List.append_nil]
          · rw [List.length_append, hlen, hl, Nat.add_mul, Nat.one_mul]
          · simp only [AW.alive, hg, Bool.or_eq_true]
            exact .inr (Nat.ble_eq_true_of_le hflo)
        · refine hfu.trans (T := fun x => x = f ∨ u.next ≤ x) ⟨Nat.le_succ _, fun c hc hn => T.get_put_ne (by omega), fun c hc hn => T.get_put_ne fun e => hn (.inl e)⟩ (fun x hx h => h) ?_
          rintro x hx (rfl | h)
          · rcases hSf with h | h
            · exact h
            · omega
          · omega
        · rintro x (rfl | rfl)
          · exact ⟨Nat.lt_succ_self _, .inr hle⟩
          · exact ⟨Nat.lt_succ_of_lt hfl, hSf⟩
      have fnd : sh = .own ∨ sh = .lax → ∃ v' w' S', (w.found b cs).appendFam esz b 0 n 1 news = some (v', w') ∧ Buf S' w' v' esz (n + 1) (cs ++ news) ∧ Frm S w w' ∧ Grown S S' w w' := by
        intro _
        refine fam (w.found b cs) w.next ⟨b, w.next + 1, b⟩ (Nat.le_succ _) ⟨Nat.le_succ _, fun c hc hn => T.get_put_ne fun e => hn (e ▸ hS), fun c hc hn => T.get_put_ne (by omega)⟩ T.get_put_same (.inr (Nat.le_refl _)) (Nat.lt_succ_self _) (Nat.lt_succ_of_lt hbw) T.get_put_same rfl (Nat.le_refl _) ?_
        simp only [AW.alive, AW.found, T.get_putk, if_true, Nat.beq_refl, Bool.true_or]
      simp only [AW.appendUp, hx, hbeq, List.append_nil]
      rcases hs with rfl | rfl | ⟨f, F, rfl, g1, g2, g3, g4, g6, g5⟩
      · exact fnd (.inl rfl)
      · exact fnd (.inr rfl)
      · exact fam w f F (Nat.le_refl _) (Frm.refl _) hx (.inl g1) g2 hbw g3 g4 g6 g5
/-- one more element that was just built. -/
theorem Buf.push {S : Nat → Prop} {w : AW} {v : V} {esz n bytes : Nat} {cs news : List V} (h : Buf S w v esz n cs) (hS : ∀ b, S b → b < w.next) (he : 0 < esz) (hl : news.length = esz) (h1 : allOne news = true) (hb : (n + 1) * bytes ≤ 70368744177664) (hb' : n + 1 ≤ 70368744177664) :
    ∃ v' w' S', (w.fresh news).appendV esz bytes v 1 news = some (v', w') ∧ Buf S' w' v' esz (n + 1) (cs ++ news) ∧ Frm S w w' ∧ Grown S S' w w' := by
  have hx : Frm (fun _ => False) w (w.fresh news) := Frm.new _ _
  obtain ⟨v', w', S', h2, h3, h4, h5⟩ := (h.frm hx fun _ _ h => h).add (news := news) (bytes := bytes) he hl h1 hb hb'
  refine ⟨v', w', S', h2, h3, hx.trans h4 (fun _ _ h => h.elim) fun _ _ h => h, fun b hb => ?_⟩
  obtain ⟨q1, q2⟩ := h5 b hb
  exact ⟨q1, q2.imp id fun h => Nat.le_trans hx.next h⟩
/-- one put in ahead of the i-th. -/
theorem Buf.insert {S : Nat → Prop} {w : AW} {b n bytes i bv : Nat} {cs : List V} {x : V} (h : Buf S w (.slice b 0 n (.upTo 1)) 1 n cs) (hi : i < n) (hv : w.heap.get bv = some (.cells [x] .own)) (hne : bv ≠ b) (h1 : x.one = true) (h2 : allOne cs = true) (hb : (n + 1) * bytes ≤ 70368744177664) (hb' : n + 1 ≤ 70368744177664) {k : Nat} :
    ∃ v' w' S', insPrim bytes [.slice b 0 n (.upTo 1), .int .i64 (.ofNat i), .slice bv 0 1 (.known k)] w = some (v', w') ∧ Buf S' w' v' 1 (n + 1) (cs.take i ++ [x] ++ cs.drop i) ∧ Frm S w w' ∧ Grown S S' w w' := by
  have hcl := h.len
  rw [Nat.mul_one] at hcl
  have hld := h.load (o := 0) (k := n) (by omega)
  rw [List.drop_zero, List.take_of_length_le (by omega)] at hld
  have hvl : w.load bv 0 1 = some [x] := by simp only [AW.load, hv, AW.alive, List.drop_zero, takeN]
  have hbv : Nat.beq bv b = false := by rw [natBeq, decide_eq_false hne]
  have hone : allOne [x] = true := by simp [allOne, h1]
  cases h with
  | @blk _ _ _ r _ rest sh hS hbw hx hlen hr he' hn hs =>
    have fam : ∀ (u : AW) (f : Nat), w.next ≤ u.next → Frm S w u → u.heap.get b = some (.cells (cs ++ rest) (.fam f)) → (S f ∨ w.next ≤ f) → f < u.next →
        ∃ v' w' S', u.insFam b n 1 (cs.take i ++ [x] ++ cs.drop i) = some (v', w') ∧ Buf S' w' v' 1 (n + 1) (cs.take i ++ [x] ++ cs.drop i) ∧ Frm S w w' ∧ Grown S S' w w' := by
      intro u f hle hfu hx hSf hfl
      refine ⟨.slice u.next 0 (n + 1) (.upTo 1), u.reborn f (cs.take i ++ [x] ++ cs.drop i), fun x => x = u.next, ?_, ?_, ?_, ?_⟩
      · simp only [AW.insFam, hx]
      · refine .blk (r := 0) (rest := []) (sh := .lax) rfl (Nat.lt_succ_self _) (by rw [List.append_nil]; exact T.get_put_same) ?_ (by simp) (by omega) (by omega) (.inr (.inl rfl))
        simp only [List.length_append, List.length_take, List.length_drop, List.length_cons, List.length_nil]; omega
      · refine hfu.trans (T := fun x => x = f ∨ u.next ≤ x) ⟨Nat.le_succ _, fun c hc hn => T.get_put_ne (by omega), fun c hc hn => T.get_put_ne fun e => hn (.inl e)⟩ (fun x hx h => h) ?_
        rintro x hx (rfl | h)
        · rcases hSf with h | h
          · exact h
          · omega
        · omega
      · rintro x rfl
        exact ⟨Nat.lt_succ_self _, .inr hle⟩
    have fnd : (w.found b (cs ++ rest)).alive b (.fam w.next) = true ∧ ∃ v' w' S', (w.found b (cs ++ rest)).insFam b n 1 (cs.take i ++ [x] ++ cs.drop i) = some (v', w') ∧ Buf S' w' v' 1 (n + 1) (cs.take i ++ [x] ++ cs.drop i) ∧ Frm S w w' ∧ Grown S S' w w' :=
      ⟨by simp only [AW.alive, AW.found, T.get_putk, if_true, Nat.beq_refl, Bool.true_or],
        fam _ w.next (Nat.le_succ _) ⟨Nat.le_succ _, fun c hc hn => T.get_put_ne fun e => hn (e ▸ hS), fun c hc hn => T.get_put_ne (by omega)⟩ T.get_put_same (.inr (Nat.le_refl _)) (Nat.lt_succ_self _)⟩
    have e1 : Nat.blt i n = true := by rw [natBlt, decide_eq_true hi]
    have e2 : Nat.blt 0 1 = true := rfl
    have e3 : Nat.ble ((n + 1) * bytes) 70368744177664 = true := Nat.ble_eq_true_of_le hb
    have e4 : Nat.ble (n + 1) 70368744177664 = true := Nat.ble_eq_true_of_le hb'
    rcases hs with rfl | rfl | ⟨f, F, rfl, g1, g2, g3, g4, g6, g5⟩
    · simp only [insPrim, e1, e2, e3, e4, hbv, hv, hvl, hld, hone, h2, hx, fnd.1]; exact fnd.2
    · simp only [insPrim, e1, e2, e3, e4, hbv, hv, hvl, hld, hone, h2, hx, fnd.1]; exact fnd.2
    · simp only [insPrim, e1, e2, e3, e4, hbv, hv, hvl, hld, hone, h2, hx]; exact fam w f (Nat.le_refl _) (Frm.refl _) hx (.inl g1) g2
end Go.AE

set_option linter.unusedVariables false
set_option linter.unusedSectionVars false
set_option linter.unusedSimpArgs false
namespace Go.AE
variable [Globs]
section
variable {tab : Tab}
/-- how one stood, found in the middle of a region. -/
def mkStp (fr : Fr) (hide : List Nat) (v : V) (a b : AW) : Stp := ⟨hideL fr hide, v, a, b⟩
theorem mkStp_fe {fr : Fr} {hide : List Nat} {v : V} {a b : AW} : (mkStp fr hide v a b).fe = hideL fr hide := rfl
theorem mkStp_v {fr : Fr} {hide : List Nat} {v : V} {a b : AW} : (mkStp fr hide v a b).v = v := rfl
theorem mkStp_0 {fr : Fr} {hide : List Nat} {v : V} {a b : AW} : (mkStp fr hide v a b).aw0 = a := rfl
theorem mkStp_1 {fr : Fr} {hide : List Nat} {v : V} {a b : AW} : (mkStp fr hide v a b).aw1 = b := rfl
theorem pass_at {l : List DOper} {fr : Fr} {aw : AW} {st : List Stp} {fr' : Fr} {aw' : AW} (h : Pass tab l fr aw st fr' aw') : ∀ {i : Nat} {d : DOper} {s : Stp}, l[i]? = some d → st[i]? = some s → OneAt d s := by
  induction l generalizing fr aw st with
  | nil => intro i d s hd; simp at hd
  | cons x l ih =>
    intro i d s hd hs
    cases h
    rename_i h1 h2
    cases i with
    | succ i => exact ih h2 (by simpa using hd) (by simpa using hs)
    | zero =>
      simp at hd hs
      subst hd; subst hs
      cases h1 with
      | pass hw => exact .inl hw
      | val hw ha => exact .inr ⟨hw, fun _ => ⟨_, ha⟩⟩
      | skip hw ha => exact .inr ⟨hw, fun hq => by obtain ⟨_, v, h⟩ := quiet_ok hq ha; cases h⟩
      | call hw ha hc => exact .inr ⟨hw, fun hq => by obtain ⟨_, v, h⟩ := quiet_ok hq ha; cases h⟩
      | ext hw ha hc => exact .inr ⟨hw, fun hq => by obtain ⟨_, v, h⟩ := quiet_ok hq ha; cases h⟩
theorem drawnOK_of {l : List DOper} {fr : Fr} {aw : AW} {st : List Stp} {fr' : Fr} {aw' : AW} (h : Pass tab l fr aw st fr' aw') (hc : chkAll l st (pairs l)) : drawnOK l st = true := drawnOK_at h.len (fun i d s => pass_at h) hc
/-- the rest of a region, with what came ahead. -/
def WDs (tab : Tab) (l : List DOper) (fr : Fr) (aw : AW) (acc : List Stp) (K : List Stp → Fr → AW → Prop) : Prop := WD tab l fr aw fun st f a => K (acc.reverse ++ st) f a
theorem WDs_nil {fr : Fr} {aw : AW} {acc : List Stp} {K : List Stp → Fr → AW → Prop} (h : K acc.reverse fr aw) : WDs tab [] fr aw acc K := by
  unfold WDs; rw [WD_nil, List.append_nil]; exact h
theorem WDs_acc {l : List DOper} {fr : Fr} {aw : AW} {acc : List Stp} {s : Stp} {K : List Stp → Fr → AW → Prop} (h : WDs tab l fr aw (s :: acc) K) : WD tab l fr aw (fun st f a => K (acc.reverse ++ s :: st) f a) := by
  unfold WDs at h
  simpa using h
theorem WDs_val {d : DOper} {l : List DOper} {fr : Fr} {aw aw1 : AW} {acc : List Stp} {v : V} {K : List Stp → Fr → AW → Prop} (hw : wanted (hideL fr d.hide) d.op.guard = some true) (ha : aop d.op.op (hideL fr d.hide) aw = some (.val v, aw1))
    (h : WDs tab l (putO fr d.op.dst v) aw1 (mkStp fr d.hide v aw aw1 :: acc) K) : WDs tab (d :: l) fr aw acc K := by
  unfold WDs; rw [WD_cons, W1_eq, hw, ha]; exact WDs_acc h
theorem WDs_eff {d : DOper} {l : List DOper} {fr : Fr} {aw aw1 : AW} {acc : List Stp} {K : List Stp → Fr → AW → Prop} (hw : wanted (hideL fr d.hide) d.op.guard = some true) (ha : aop d.op.op (hideL fr d.hide) aw = some (.skip, aw1))
    (h : WDs tab l (putO fr d.op.dst .undef) aw1 (mkStp fr d.hide .undef aw aw1 :: acc) K) : WDs tab (d :: l) fr aw acc K := by
  unfold WDs; rw [WD_cons, W1_eq, hw, ha]; exact WDs_acc h
theorem WDs_pass {d : DOper} {l : List DOper} {fr : Fr} {aw : AW} {acc : List Stp} {K : List Stp → Fr → AW → Prop} (hw : wanted (hideL fr d.hide) d.op.guard = some false)
    (h : WDs tab l (putO fr d.op.dst .undef) aw (mkStp fr d.hide .undef aw aw :: acc) K) : WDs tab (d :: l) fr aw acc K := by
  unfold WDs; rw [WD_cons, W1_eq, hw]; exact WDs_acc h
/-- into a region. -/
theorem WS_drawn {l : List DOper} {s : List SI} {fr : Fr} {aw : AW} {Q : Fr → AW → Prop} (h : WDs tab l fr aw [] (fun st f a => chkAll l st (pairs l) ∧ WS tab s f a Q)) : WS tab (.code (.drawn l) :: s) fr aw Q := by
  show WX tab (.drawn l) fr aw _
  rw [WX_drawn]
  obtain ⟨st, f, a, h1, h2, h3⟩ := h
  exact ⟨st, f, a, h1, drawnOK_of h1 h2, h3⟩
inductive DS where
  | on (l : List DOper) (fr : Fr) (aw : AW) (acc : List Stp)
/-- as far as nothing is open. -/
def dRun0 : Nat → List DOper → Fr → AW → List Stp → DS
  | 0, l, fr, aw, acc => .on l fr aw acc
  | n + 1, [], fr, aw, acc => .on [] fr aw acc
  | n + 1, d :: l, fr, aw, acc => match wanted (hideL fr d.hide) d.op.guard with
    | some true => match aop d.op.op (hideL fr d.hide) aw with
      | some (.val v, aw1) => dRun0 n l (putO fr d.op.dst v) aw1 (mkStp fr d.hide v aw aw1 :: acc)
      | some (.skip, aw1) => dRun0 n l (putO fr d.op.dst .undef) aw1 (mkStp fr d.hide .undef aw aw1 :: acc)
      | _ => .on (d :: l) fr aw acc
    | some false => dRun0 n l (putO fr d.op.dst .undef) aw (mkStp fr d.hide .undef aw aw :: acc)
    | none => .on (d :: l) fr aw acc
theorem dRun0_ok {K : List Stp → Fr → AW → Prop} : ∀ (n : Nat) {l l' : List DOper} {fr fr' : Fr} {aw aw' : AW} {acc acc' : List Stp}, dRun0 n l fr aw acc = .on l' fr' aw' acc' → WDs tab l' fr' aw' acc' K → WDs tab l fr aw acc K
  | 0, l, l', fr, fr', aw, aw', acc, acc', h, hw => by cases h; exact hw
  | n + 1, [], l', fr, fr', aw, aw', acc, acc', h, hw => by cases h; exact hw
  | n + 1, d :: l, l', fr, fr', aw, aw', acc, acc', h, hw => by
    simp only [dRun0] at h
    split at h
    · rename_i h1
      split at h
      · rename_i h2; exact WDs_val h1 h2 (dRun0_ok n h hw)
      · rename_i h2; exact WDs_eff h1 h2 (dRun0_ok n h hw)
      · cases h; exact hw
    · rename_i h1; exact WDs_pass h1 (dRun0_ok n h hw)
    · cases h; exact hw
theorem dRunE_ex : ∃ f : Nat → List DOper → Fr → AW → List Stp → DS, f = dRun0 := ⟨_, rfl⟩
@[irreducible] noncomputable def dRunE : Nat → List DOper → Fr → AW → List Stp → DS := Classical.choose dRunE_ex
theorem dRunE_eq : dRunE = dRun0 := by unfold dRunE; exact Classical.choose_spec dRunE_ex
theorem WDs_run {K : List Stp → Fr → AW → Prop} (n : Nat) {l l' : List DOper} {fr fr' : Fr} {aw aw' : AW} {acc acc' : List Stp} (h : dRunE n l fr aw acc = .on l' fr' aw' acc') (hw : WDs tab l' fr' aw' acc' K) : WDs tab l fr aw acc K := by
  rw [dRunE_eq] at h; exact dRun0_ok n h hw
theorem dRunE_nil {n : Nat} {fr : Fr} {aw : AW} {acc : List Stp} : dRunE (n + 1) [] fr aw acc = .on [] fr aw acc := by rw [dRunE_eq]; rfl
theorem dRunE_cons {n : Nat} {d : DOper} {l : List DOper} {fr : Fr} {aw : AW} {acc : List Stp} : dRunE (n + 1) (d :: l) fr aw acc = match wanted (hideL fr d.hide) d.op.guard with
    | some true => match aop d.op.op (hideL fr d.hide) aw with
      | some (.val v, aw1) => dRunE n l (putO fr d.op.dst v) aw1 (mkStp fr d.hide v aw aw1 :: acc)
      | some (.skip, aw1) => dRunE n l (putO fr d.op.dst .undef) aw1 (mkStp fr d.hide .undef aw aw1 :: acc)
      | _ => .on (d :: l) fr aw acc
    | some false => dRunE n l (putO fr d.op.dst .undef) aw (mkStp fr d.hide .undef aw aw :: acc)
    | none => .on (d :: l) fr aw acc := by rw [dRunE_eq]; rfl
end
theorem over_cell : ∀ (l : List V) (i : Nat) (v : V), i < l.length → over l i [v] = some (l.set i v)
  | [], i, v, h => by simp at h
  | x :: l, 0, v, h => by simp [over]
  | x :: l, i + 1, v, h => by simp only [over, over_cell l i v (by simpa using h), List.set_cons_succ]
theorem store_cell {w : AW} {b i : Nat} {l : List V} {v : V} (hx : w.heap.get b = some (.cells l .own)) (hi : i < l.length) (hv : v.one = true) : w.store b i [v] = some (w.turn b (.cells (l.set i v) .own)) := by
  simp only [AW.store, hx, AW.alive, allOne, hv, over_cell l i v hi]
theorem cells_int {k : IntKind} {n : Int} : (V.int k n).cells = [.int k n] := rfl
theorem cells_bool {b : Bool} : (V.bool b).cells = [.bool b] := rfl
theorem cells_str {l : List Nat} : (V.str l).cells = [.str l] := rfl
theorem cells_agg {l : List V} : (V.agg l).cells = l := rfl
theorem cells_slice {b o n : Nat} {c : Cap} : (V.slice b o n c).cells = [.slice b o n c] := rfl
theorem cells_nilslice : V.nilslice.cells = [.nilslice] := rfl
theorem cells_ptr {b o : Nat} : (V.ptr b o).cells = [.ptr b o] := rfl
theorem cells_nilptr : V.nilptr.cells = [.nilptr] := rfl
theorem ne_ff : (false != false) = false := rfl
theorem ne_ft : (false != true) = true := rfl
theorem ne_tf : (true != false) = true := rfl
theorem ne_tt : (true != true) = false := rfl
attribute [go_sem] dRunE_nil dRunE_cons ne_ff ne_ft ne_tf ne_tt cells_int cells_bool cells_str cells_agg cells_slice cells_nilslice cells_ptr cells_nilptr
end Go.AE

set_option linter.unusedVariables false
set_option linter.unusedSectionVars false
set_option linter.unusedSimpArgs false
namespace Go.AE
variable [Globs]
end Go.AE

set_option linter.unusedVariables false
set_option linter.unusedSectionVars false
set_option linter.unusedSimpArgs false
open Go.RowKit Go.WideShapes Go.ChangeShapes
namespace Go.AE
variable [Globs]
def AllRo (aw : AW) (m : Map) : Prop := ∀ b e x, m b = some e → aw.heap.get b = some x → ∃ l, x = .cells l .ro
theorem R.addRo {aw : AW} {w : World} {m : Map} {base : Nat} (hR : R aw w m base) (hA : AllRo aw m) {c s lo hi : Nat} {cur : Array Value} {t : TypeId} {l : List V} (hc : w.heap[c]? = some (.cells cur t (lo, hi))) (hs : s + l.length ≤ cur.size) (hl : CR m l s cur) :
    R (aw.new (.cells l .ro)) w (m.set aw.next ⟨c, s, cur.size⟩) base ∧ m.le (m.set aw.next ⟨c, s, cur.size⟩) ∧ AllRo (aw.new (.cells l .ro)) (m.set aw.next ⟨c, s, cur.size⟩) := by
  have hnone : m aw.next = none := by
    cases h : m aw.next with
    | none => rfl
    | some e => exact absurd (hR.lt _ _ h).1 (by omega)
  have hle : m.le (m.set aw.next ⟨c, s, cur.size⟩) := Map.le_set hnone
  have hclt : c < w.heap.size := (Array.getElem?_eq_some_iff.1 hc).1
  -- what is mapped is old or the new one
  have old : ∀ {b : Nat} {e : Emb}, (m.set aw.next ⟨c, s, cur.size⟩) b = some e → (b = aw.next ∧ e = ⟨c, s, cur.size⟩) ∨ (b ≠ aw.next ∧ m b = some e) := by
    intro b e h
    by_cases hb : b = aw.next
    · subst hb; rw [Map.set_same] at h; exact .inl ⟨rfl, (Option.some.inj h).symm⟩
    · rw [Map.set_ne _ _ hb] at h; exact .inr ⟨hb, h⟩
  have hold : ∀ {b : Nat}, b ≠ aw.next → (aw.new (.cells l .ro)).heap.get b = aw.heap.get b := fun hb => T.get_put_ne hb
  have hnew : (aw.new (.cells l .ro)).heap.get aw.next = some (.cells l .ro) := T.get_put_same
  have hA' : AllRo (aw.new (.cells l .ro)) (m.set aw.next ⟨c, s, cur.size⟩) := by
    intro b e x hb hx
    rcases old hb with ⟨rfl, rfl⟩ | ⟨h1, h2⟩
    · rw [hnew] at hx; exact ⟨l, (Option.some.inj hx).symm⟩
    · rw [hold h1] at hx; exact hA b e x h2 hx
  refine ⟨⟨hR.glob.le hle, fun i g l h => hR.gnew h, ?_, hR.size, ?_, ?_, ?_, ?_, ?_⟩, hle, hA'⟩
  · intro b e l' f hb hx
    obtain ⟨l2, h2⟩ := hA' b e _ hb hx
    cases h2
  · intro b e hb
    rcases old hb with ⟨rfl, rfl⟩ | ⟨h1, h2⟩
    · exact ⟨Nat.lt_succ_self _, hclt⟩
    · exact ⟨Nat.lt_succ_of_lt (hR.lt b e h2).1, (hR.lt b e h2).2⟩
  · intro b e hb
    rcases old hb with ⟨rfl, rfl⟩ | ⟨h1, h2⟩
    · exact .inr ⟨l, hnew⟩
    · rw [hold h1]; exact hR.base b e h2
  · intro b e x hb hx
    rcases old hb with ⟨rfl, rfl⟩ | ⟨h1, h2⟩
    · rw [hnew] at hx
      cases hx
      exact fun _ => ⟨cur, t, lo, hi, hc, rfl, hs, .inl rfl, hl.mono hle⟩
    · rw [hold h1] at hx
      obtain ⟨l2, rfl⟩ := hA b e x h2 hx
      intro _
      obtain ⟨cur2, t2, lo2, hi2, p1, p2, p3, p4, p5⟩ := hR.blk b e _ h2 hx rfl
      exact ⟨cur2, t2, lo2, hi2, p1, p2, p3, p4, p5.mono hle⟩
  · intro b e x b' e' x' hb hx hb' hx' _ _ _ _
    obtain ⟨l1, rfl⟩ := hA' b e x hb hx
    obtain ⟨l2, rfl⟩ := hA' b' e' x' hb' hx'
    rfl
  · intro f F hF
    obtain ⟨h1, h2⟩ := hR.fam f F hF
    refine ⟨Nat.le_succ_of_le h1, fun b e l' e' l2 hb hx => ?_⟩
    obtain ⟨l3, h3⟩ := hA' b e _ hb hx
    cases h3
/-- nothing that was told is told otherwise. -/
structure RoExt (aw aw' : AW) : Prop where
  next : aw.next ≤ aw'.next
  heap : ∀ b, b < aw.next → aw'.heap.get b = aw.heap.get b
theorem RoExt.refl (aw : AW) : RoExt aw aw := ⟨Nat.le_refl _, fun _ _ => rfl⟩
theorem RoExt.trans {a b c : AW} (h : RoExt a b) (h' : RoExt b c) : RoExt a c := ⟨Nat.le_trans h.next h'.next, fun k hk => (h'.heap k (Nat.lt_of_lt_of_le hk h.next)).trans (h.heap k hk)⟩
theorem RoExt.new (aw : AW) (x : Blk) : RoExt aw (aw.new x) := ⟨Nat.le_succ _, fun b hb => T.get_put_ne (by omega)⟩
inductive All2 {α β : Type} (r : α → β → Prop) : List α → List β → Prop
  | nil : All2 r [] []
  | cons {a b l m} : r a b → All2 r l m → All2 r (a :: l) (b :: m)
theorem All2.imp {α β : Type} {r q : α → β → Prop} (h : ∀ a b, r a b → q a b) : ∀ {l : List α} {m : List β}, All2 r l m → All2 q l m
  | [], _, .nil => .nil
  | _ :: _, _, .cons h1 h2 => .cons (h _ _ h1) (All2.imp h h2)
theorem All2.len {α β : Type} {r : α → β → Prop} : ∀ {l : List α} {m : List β}, All2 r l m → l.length = m.length
  | [], _, .nil => rfl
  | _ :: _, _, .cons _ h2 => by simp [All2.len h2]
theorem All2.snoc {α β : Type} {r : α → β → Prop} {a : α} {b : β} (h : r a b) : ∀ {l : List α} {m : List β}, All2 r l m → All2 r (l ++ [a]) (m ++ [b])
  | [], _, .nil => .cons h .nil
  | _ :: _, _, .cons h1 h2 => .cons h1 (All2.snoc h h2)
theorem All2.get {α β : Type} {r : α → β → Prop} : ∀ {l : List α} {m : List β}, All2 r l m → ∀ {i : Nat} {a : α}, l[i]? = some a → ∃ b, m[i]? = some b ∧ r a b
  | [], _, .nil, i, a, h => by simp at h
  | x :: l, y :: m, .cons h1 h2, 0, a, h => by simp at h; subst h; exact ⟨y, rfl, h1⟩
  | x :: l, y :: m, .cons h1 h2, i + 1, a, h => by simpa using All2.get h2 (i := i) (by simpa using h)
section
variable {H : Type} {enc : TypeId × Value → H} {P : Program} {w : World}
/-- what values of a type come to. -/
structure Opens (enc : TypeId × Value → H) (P : Program) (w : World) (t : TypeId) (α : Type) (rel : AW → α → List V → Prop) : Prop where
  ext : ∀ {aw aw' : AW} {a : α} {xs : List V}, RoExt aw aw' → rel aw a xs → rel aw' a xs
  len : ∀ {aw : AW} {a : α} {xs : List V}, rel aw a xs → xs.length = P.cellsOf t
  go : ∀ {fuel : Nat} {cs : List Value} {y : DataW H × List MemPlace}, DataW.trod enc P w 0 (fun _ => true) true fuel t cs = some y → ∀ {aw : AW} {m : Map}, R aw w m w.heap.size → AllRo aw m →
    ∃ aw' m' a xs, R aw' w m' w.heap.size ∧ AllRo aw' m' ∧ m.le m' ∧ RoExt aw aw' ∧ VRs m' xs cs ∧ rel aw' a xs
theorem opens_int {t : TypeId} {k : IntKind} (ht : P.underlying t = some (.int k)) (h1 : P.cellsOf t = 1) : Opens enc P w t Int (fun _ n xs => xs = [.int k n] ∧ (Lit.int k n).wf = true) where
  ext _ h := h
  len h := by rw [h.1, h1]; rfl
  go h aw m hR hA := by
    obtain ⟨n, rfl, rfl, hw⟩ := DataW.trod_int ht h
    exact ⟨aw, m, n, [.int k n], hR, hA, .refl _, .refl _, ⟨_, _, rfl, rfl, rfl⟩, rfl, hw⟩
theorem opens_str {t : TypeId} (ht : P.underlying t = some .string) (h1 : P.cellsOf t = 1) : Opens enc P w t (List Nat) (fun _ s xs => xs = [.str s] ∧ (∀ c ∈ s, c < 256) ∧ s.length ≤ maxLen) where
  ext _ h := h
  len h := by rw [h.1, h1]; rfl
  go h aw m hR hA := by
    obtain ⟨s, rfl, rfl, hs⟩ := DataW.trod_string ht h
    refine ⟨aw, m, strL s, [.str (strL s)], hR, hA, .refl _, .refl _, ⟨_, _, rfl, ⟨s, rfl, rfl⟩, rfl⟩, rfl, ?_, by rw [strL_length]; exact hs⟩
    intro c hc
    simp only [strL, List.mem_map] at hc
    obtain ⟨u, _, rfl⟩ := hc
    exact u.toNat_lt
theorem cell_inv {w : World} {a : Addr} {v : Value} (h : w.cell? a = some v) : a = ⟨a.block, a.off, none⟩ ∧ ∃ cur t lo hi, w.heap[a.block]? = some (.cells cur t (lo, hi)) ∧ cur[a.off]? = some v := by
  have hs := World.cell?_spot h
  obtain ⟨b, o, sp⟩ := a
  simp only at hs
  subst hs
  refine ⟨rfl, ?_⟩
  unfold World.cell? at h
  split at h
  · rename_i c t fz hb
    simp at h
    obtain ⟨lo, hi⟩ := fz
    exact ⟨c, t, lo, hi, hb, h⟩
  · cases h
/-- a slice's room is not below its length. -/
def CapOk (n : Nat) : Cap → Prop
  | .known k => n ≤ k
  | .upTo _ => n = 0
/-- a slice: its elements, in one block for reading. -/
def SliceR {α : Type} (rel : AW → α → List V → Prop) (aw : AW) (l : List α) (xs : List V) : Prop :=
  (xs = [.nilslice] ∧ l = []) ∨ ∃ b c xss, xs = [.slice b 0 l.length c] ∧ b < aw.next ∧ aw.heap.get b = some (.cells (List.flatten xss) .ro) ∧ All2 (rel aw) l xss ∧ l.length ≤ maxLen ∧ CapOk l.length c
theorem opens_slice {t e : TypeId} {α : Type} {rel : AW → α → List V → Prop} (ht : P.underlying t = some (.slice e)) (h1 : P.cellsOf t = 1) (hp : 0 < P.cellsOf e) (he : Opens enc P w e α rel) (hdum : ∃ cur ty lo hi, w.heap[0]? = some (.cells cur ty (lo, hi))) :
    Opens enc P w t (List α) (SliceR rel) where
  ext hx h := by
    rcases h with h | ⟨b, c, xss, rfl, hb, hg, ha, hl⟩
    · exact .inl h
    · exact .inr ⟨b, c, xss, rfl, Nat.lt_of_lt_of_le hb hx.next, (hx.heap b hb).trans hg, ha.imp fun _ _ h => he.ext hx h, hl⟩
  len h := by
    rw [h1]
    rcases h with ⟨rfl, _⟩ | ⟨b, c, xss, rfl, _⟩ <;> rfl
  go h aw m hR hA := by
    rcases DataW.trod_slice ht h with ⟨rfl, rfl⟩ | ⟨a, len, cap, elems, rest, n, rfl, rfl, rfl, _, hlc, hcm, hel, hel2, hrest, _⟩
    · exact ⟨aw, m, [], [.nilslice], hR, hA, .refl _, .refl _, ⟨_, _, rfl, rfl, rfl⟩, .inl ⟨rfl, rfl⟩⟩
    · by_cases hc0 : cap = 0
      · subst hc0
        have hl0 : len = 0 := by omega
        subst hl0
        obtain ⟨cur, ty, lo, hi, hd⟩ := hdum
        obtain ⟨r1, r2, r3⟩ := hR.addRo hA (c := 0) (s := cur.size) (l := []) hd (by simp) (by intro i x hx; simp at hx)
        exact ⟨_, _, [], [.slice aw.next 0 0 (.upTo (P.cellsOf e))], r1, r3, r2, RoExt.new _ _, ⟨_, _, rfl, ⟨_, Map.set_same _ _ _, a, 0, rfl, Nat.le_refl _, .inr ⟨rfl, rfl⟩⟩, rfl⟩, .inr ⟨aw.next, .upTo (P.cellsOf e), [], rfl, Nat.lt_succ_self _, T.get_put_same, .nil, Nat.zero_le _, rfl⟩⟩
      · -- its first cell is there
        have hfirst : ∃ v, w.cell? (a.add 0) = some v := by
          by_cases hl0 : len = 0
          · have hrl := (hrest rfl).1
            have hr := (hrest rfl).2 0 (by omega)
            rw [List.getElem?_eq_getElem (by omega : 0 < rest.length), Option.bind_eq_some_iff] at hr
            obtain ⟨cs, hcs, _⟩ := hr
            obtain ⟨_, c2, c3⟩ := World.cells?_some hcs
            have := c3 0 hp
            rw [List.getElem?_eq_getElem (by rw [c2]; exact hp)] at this
            subst hl0
            simp only [Nat.add_zero, Nat.zero_mul] at this
            exact ⟨cs[0]'(by rw [c2]; exact hp), by rw [← this]; simp [Addr.add]⟩
          · have hr := hel2 0 (by omega)
            rw [List.getElem?_eq_getElem (by omega : 0 < elems.length), Option.bind_eq_some_iff] at hr
            obtain ⟨cs, hcs, _⟩ := hr
            obtain ⟨_, c2, c3⟩ := World.cells?_some hcs
            have := c3 0 hp
            rw [List.getElem?_eq_getElem (by rw [c2]; exact hp)] at this
            simp only [Nat.zero_mul] at this
            exact ⟨cs[0]'(by rw [c2]; exact hp), by rw [← this]; simp [Addr.add]⟩
        obtain ⟨v0, hv0⟩ := hfirst
        have ea : a.add 0 = a := by simp [Addr.add]
        rw [ea] at hv0
        obtain ⟨e0, cur, ty, lo, hi, hbl, hcur⟩ := cell_inv hv0
        obtain ⟨ab, ao, asp⟩ := a
        simp only [Addr.mk.injEq, true_and] at e0
        subst e0
        -- the elements, one by one
        have key : ∀ k, k ≤ len → ∃ aw' m' l xss, R aw' w m' w.heap.size ∧ AllRo aw' m' ∧ m.le m' ∧ RoExt aw aw' ∧ All2 (rel aw') l xss ∧ l.length = k ∧ (List.flatten xss).length = k * P.cellsOf e ∧
            (∀ (j : Nat) (x : V), (List.flatten xss)[j]? = some x → ∃ y, w.cell? ⟨ab, ao + j, none⟩ = some y ∧ VR m' x y) := by
          intro k
          induction k with
          | zero => intro _; exact ⟨aw, m, [], [], hR, hA, .refl _, .refl _, .nil, rfl, by simp, fun j x h => by simp at h⟩
          | succ k ih =>
            intro hk
            obtain ⟨aw1, m1, l, xss, i1, i2, i3, i4, i5, i6, i7, i8⟩ := ih (by omega)
            have hg := hel2 k (by omega)
            have hsome : elems[k]? = some (elems[k]'(by omega)) := List.getElem?_eq_getElem (by omega)
            rw [hsome, Option.bind_eq_some_iff] at hg
            obtain ⟨cs, hcs, hy⟩ := hg
            obtain ⟨_, c2, c3⟩ := World.cells?_some hcs
            obtain ⟨aw2, m2, a2, xs, j1, j2, j3, j4, j5, j6⟩ := he.go hy i1 i2
            have hxl := he.len j6
            refine ⟨aw2, m2, l ++ [a2], xss ++ [xs], j1, j2, i3.trans j3, i4.trans j4, (i5.imp fun _ _ h => he.ext j4 h).snoc j6, by simp [i6], ?_, ?_⟩
            · rw [List.flatten_append, List.length_append, i7, Nat.add_mul, Nat.one_mul]; simp [hxl]
            · intro j x hj
              have hfl : (xss ++ [xs]).flatten = xss.flatten ++ xs := by simp
              rw [hfl] at hj
              by_cases hjk : j < k * P.cellsOf e
              · rw [List.getElem?_append_left (by omega)] at hj
                obtain ⟨y, y1, y2⟩ := i8 j x hj
                exact ⟨y, y1, y2.mono j3⟩
              · rw [List.getElem?_append_right (by omega), i7] at hj
                obtain ⟨y, y1, y2⟩ := j5.get hj
                have hlt : j - k * P.cellsOf e < P.cellsOf e := by
                  have := (List.getElem?_eq_some_iff.1 hj).1; omega
                have h3 := c3 _ hlt
                rw [y1, add_plain, add_plain] at h3
                refine ⟨y, ?_, y2⟩
                rw [← h3]
                congr 2
                omega
        obtain ⟨aw1, m1, l, xss, i1, i2, i3, i4, i5, i6, i7, i8⟩ := key len (Nat.le_refl _)
        have hall : ∀ (j : Nat) (x : V), (List.flatten xss)[j]? = some x → ∃ y, cur[ao + j]? = some y ∧ VR m1 x y := by
          intro j x hj
          obtain ⟨y, y1, y2⟩ := i8 j x hj
          obtain ⟨_, cur2, ty2, lo2, hi2, hb2, hcur2⟩ := cell_inv y1
          simp only at hb2 hcur2 hbl
          rw [hbl] at hb2
          cases hb2
          exact ⟨y, hcur2, y2⟩
        have hroom : ao + (List.flatten xss).length ≤ cur.size := by
          cases hfl : (List.flatten xss).length with
          | zero =>
            have h0 : ao < cur.size := (Array.getElem?_eq_some_iff.1 hcur).1
            omega
          | succ q =>
            obtain ⟨y, y1, _⟩ := hall q _ (List.getElem?_eq_getElem (by omega))
            have := (Array.getElem?_eq_some_iff.1 y1).1
            omega
        obtain ⟨r1, r2, r3⟩ := i1.addRo i2 (c := ab) (s := ao) (l := xss.flatten) hbl hroom hall
        exact ⟨_, _, l, [.slice aw1.next 0 len (.known cap)], r1, r3, i3.trans r2, i4.trans (RoExt.new _ _), ⟨_, _, rfl, ⟨_, Map.set_same _ _ _, rfl⟩, rfl⟩, .inr ⟨aw1.next, .known cap, xss, by rw [i6], Nat.lt_succ_self _, T.get_put_same, i5.imp fun _ _ h => he.ext (RoExt.new _ _) h, by omega, by show l.length ≤ cap; omega⟩⟩
end
end Go.AE
namespace Go.AE
variable [Globs]
section
variable {H : Type} {enc : TypeId × Value → H} {P : Program} {w : World}
/-- a struct's fields from a cell on: n cells. -/
structure OpensF (enc : TypeId × Value → H) (P : Program) (w : World) (fs : List Field) (o n : Nat) (β : Type) (rel : AW → β → List V → Prop) : Prop where
  ext : ∀ {aw aw' : AW} {a : β} {xs : List V}, RoExt aw aw' → rel aw a xs → rel aw' a xs
  len : ∀ {aw : AW} {a : β} {xs : List V}, rel aw a xs → xs.length = n
  go : ∀ {fuel : Nat} {cs : List Value}, (∀ f ∈ fs, ∃ y, DataW.trod enc P w 0 (fun _ => true) true fuel f.type ((cs.drop f.offset).take (P.cellsOf f.type)) = some y) → cs.length = o + n → ∀ {aw : AW} {m : Map}, R aw w m w.heap.size → AllRo aw m →
    ∃ aw' m' a xs, R aw' w m' w.heap.size ∧ AllRo aw' m' ∧ m.le m' ∧ RoExt aw aw' ∧ VRs m' xs (cs.drop o) ∧ rel aw' a xs
theorem opensF_nil {o : Nat} : OpensF enc P w [] o 0 Unit (fun _ _ xs => xs = []) where
  ext _ h := h
  len h := by rw [h]; rfl
  go _ hl aw m hR hA := ⟨aw, m, (), [], hR, hA, .refl _, .refl _, by rw [List.drop_eq_nil_of_le (by omega)]; rfl, rfl⟩
theorem opensF_cons {f : Field} {fs : List Field} {o k n : Nat} {α β : Type} {rel : AW → α → List V → Prop} {rel' : AW → β → List V → Prop} (he : Opens enc P w f.type α rel) (hk : P.cellsOf f.type = k) (ho : f.offset = o) (hr : OpensF enc P w fs (o + k) n β rel') :
    OpensF enc P w (f :: fs) o (k + n) (α × β) (fun aw p xs => ∃ x1 x2, xs = x1 ++ x2 ∧ rel aw p.1 x1 ∧ rel' aw p.2 x2) where
  ext hx h := by
    obtain ⟨x1, x2, rfl, h1, h2⟩ := h
    exact ⟨x1, x2, rfl, he.ext hx h1, hr.ext hx h2⟩
  len h := by
    obtain ⟨x1, x2, rfl, h1, h2⟩ := h
    rw [List.length_append, he.len h1, hr.len h2, hk]
  go := by
    intro fuel cs hall hl aw m hR hA
    obtain ⟨y, hy⟩ := hall f (by simp)
    obtain ⟨aw1, m1, a1, x1, i1, i2, i3, i4, i5, i6⟩ := he.go hy hR hA
    obtain ⟨aw2, m2, a2, x2, j1, j2, j3, j4, j5, j6⟩ := hr.go (fuel := fuel) (cs := cs) (fun g hg => hall g (by simp [hg])) (by omega) i1 i2
    refine ⟨aw2, m2, (a1, a2), x1 ++ x2, j1, j2, i3.trans j3, i4.trans j4, ?_, x1, x2, rfl, he.ext j4 i6, j6⟩
    have e : cs.drop o = (cs.drop o).take k ++ cs.drop (o + k) := by rw [← List.drop_drop, List.take_append_drop]
    rw [e]
    rw [ho, hk] at i5
    exact (i5.mono j3).append j5
theorem opens_struct {t : TypeId} {fs : Array Field} {l : List Field} {n : Nat} {β : Type} {rel : AW → β → List V → Prop} (ht : P.underlying t = some (.struct fs)) (hl : fs.toList = l) (hn : P.cellsOf t = n) (h : OpensF enc P w l 0 n β rel) : Opens enc P w t β rel where
  ext := h.ext
  len hr := by rw [h.len hr, hn]
  go := by
    intro fuel cs y hy aw m hR hA
    obtain ⟨xs, k, rfl, rfl, h1, h2, h3⟩ := DataW.trod_struct ht hy
    have := h.go (fuel := k) (cs := cs) (fun f hf => ?_) (by omega) hR hA
    · simpa using this
    · rw [← hl] at hf
      obtain ⟨i, hi, e⟩ := List.mem_iff_getElem.1 hf
      have hi' : i < fs.size := by simpa using hi
      have hg : fs[i]? = some f := by
        rw [Array.getElem?_eq_getElem hi']
        rw [← e]; simp
      have := h3 i f hg
      rw [List.getElem?_eq_getElem (by omega)] at this
      exact ⟨_, this⟩
/-- an argument of one cell. -/
theorem opens_arg {t : TypeId} {α : Type} {rel : AW → α → List V → Prop} (h : Opens enc P w t α rel) {v : Value} {d : DataW H} {ps : List MemPlace} (hc : v.cells.toList = [v]) (ht : DataW.Trod enc P w 0 (fun _ => true) true t v d ps) {aw : AW} {m : Map} (hR : R aw w m w.heap.size) (hA : AllRo aw m) :
    ∃ aw' m' a x, R aw' w m' w.heap.size ∧ AllRo aw' m' ∧ m.le m' ∧ RoExt aw aw' ∧ VR m' x v ∧ rel aw' a [x] := by
  obtain ⟨fuel, hf⟩ := ht
  obtain ⟨aw', m', a, xs, h1, h2, h3, h4, h5, h6⟩ := h.go hf hR hA
  rw [hc] at h5
  cases xs with
  | nil => cases h5
  | cons x xs =>
    obtain ⟨y, ys, e, h7, h8⟩ := h5
    cases e
    cases xs with
    | nil => exact ⟨aw', m', a, x, h1, h2, h3, h4, h7, h6⟩
    | cons x2 xs => obtain ⟨y, ys, e, _⟩ := h8; cases e
end
end Go.AE

set_option linter.unusedVariables false
set_option linter.unusedSectionVars false
set_option linter.unusedSimpArgs false
namespace Go.AE
variable [Globs]
theorem resOne_nil : resOne [] = .tuple [] := rfl
attribute [go_sem] resOne_nil Nat.add_zero
/-- a loop that is left by its block's end alone: what holds at each round's head; what holds behind it. -/
theorem WS_loopJ {tab : Tab} {id : Nat} {b : ACode} {s : List SI} {Q : Fr → AW → Prop} (I : Nat → Fr → AW → Prop) (J : Fr → AW → Prop)
    (step : ∀ n f w, I n f w → (∀ n' f' w', n' < n → I n' f' w' → WS tab (.code (.loop b) :: .endB id :: s) f' w' Q) → (∀ s' f' w', J f' w' → popTo id s' = some s → WS tab (.code (.exit id) :: s') f' w' Q) → WS tab (.code b :: .code (.loop b) :: .endB id :: s) f w Q)
    (after : ∀ f w, J f w → WS tab s f w Q) (n : Nat) {fr : Fr} {aw : AW} (h : I n fr aw) : WS tab (.code (.loop b) :: .endB id :: s) fr aw Q :=
  WS_loop I (fun n f w hI ih => step n f w hI ih fun s' f' w' hJ hp => WS_exit hp (after f' w' hJ)) n h
/-- a block that is read: what keeps it. -/
def Al (T : Nat → Prop) (w : AW) (b : Nat) (sh : Share) : Prop :=
  sh = .own ∨ sh = .lax ∨ sh = .ro ∨ ∃ f F, sh = .fam f ∧ T f ∧ f < w.next ∧ w.fams.get f = some F ∧ w.alive b sh = true
theorem Al.alive {T : Nat → Prop} {w : AW} {b : Nat} {sh : Share} (h : Al T w b sh) : w.alive b sh = true := by
  rcases h with rfl | rfl | rfl | ⟨f, F, rfl, h1, h2, h3, h4⟩
  · rfl
  · rfl
  · rfl
  · exact h4
theorem Al.frm {T S : Nat → Prop} {w w' : AW} {b : Nat} {sh : Share} (h : Al T w b sh) (hf : Frm S w w') (hd : ∀ x, T x → ¬ S x) : Al T w' b sh := by
  rcases h with rfl | rfl | rfl | ⟨f, F, rfl, h1, h2, h3, h4⟩
  · exact .inl rfl
  · exact .inr (.inl rfl)
  · exact .inr (.inr (.inl rfl))
  · have e := hf.fams f h2 (hd f h1)
    refine .inr (.inr (.inr ⟨f, F, rfl, h1, Nat.lt_of_lt_of_le h2 hf.next, e.trans h3, ?_⟩))
    simp only [AW.alive, h3, e.trans h3] at h4 ⊢
    exact h4
theorem Al.mono {T T' : Nat → Prop} {w : AW} {b : Nat} {sh : Share} (h : Al T w b sh) (ht : ∀ x, T x → T' x) : Al T' w b sh := by
  rcases h with rfl | rfl | rfl | ⟨f, F, rfl, h1, h2⟩
  · exact .inl rfl
  · exact .inr (.inl rfl)
  · exact .inr (.inr (.inl rfl))
  · exact .inr (.inr (.inr ⟨f, F, rfl, ht f h1, h2⟩))
def CapFit (esz n : Nat) : Cap → Prop
  | .known k => n ≤ k
  | .upTo z => z = esz ∨ n = 0
inductive Rd (T : Nat → Prop) (w : AW) : V → Nat → Nat → List V → Prop
  | nil {esz : Nat} : Rd T w .nilslice esz 0 []
  | blk {b o n esz : Nat} {c : Cap} {l cs : List V} {sh : Share} (hT : T b) (hb : b < w.next) (hx : w.heap.get b = some (.cells l sh)) (ha : Al T w b sh) (hl : o + n * esz ≤ l.length) (hcs : cs = (l.drop o).take (n * esz)) (hc : CapFit esz n c) : Rd T w (.slice b o n c) esz n cs
theorem Rd.len {T : Nat → Prop} {w : AW} {v : V} {esz n : Nat} {cs : List V} (h : Rd T w v esz n cs) : cs.length = n * esz := by
  cases h with
  | nil => simp
  | blk hT hb hx ha hl hcs hc => rw [hcs, List.length_take, List.length_drop]; omega
theorem Rd.frm {T S : Nat → Prop} {w w' : AW} {v : V} {esz n : Nat} {cs : List V} (h : Rd T w v esz n cs) (hf : Frm S w w') (hd : ∀ x, T x → ¬ S x) : Rd T w' v esz n cs := by
  cases h with
  | nil => exact .nil
  | blk hT hb hx ha hl hcs hc => exact .blk hT (Nat.lt_of_lt_of_le hb hf.next) ((hf.heap _ hb (hd _ hT)).trans hx) (ha.frm hf hd) hl hcs hc
theorem Rd.mono {T T' : Nat → Prop} {w : AW} {v : V} {esz n : Nat} {cs : List V} (h : Rd T w v esz n cs) (ht : ∀ x, T x → T' x) : Rd T' w v esz n cs := by
  cases h with
  | nil => exact .nil
  | blk hT hb hx ha hl hcs hc => exact .blk (ht _ hT) hb hx (ha.mono ht) hl hcs hc
/-- what reading comes to. -/
structure RdB (T : Nat → Prop) (w : AW) (b o n esz : Nat) (c : Cap) (cs : List V) : Prop where
  own : T b
  lt : b < w.next
  fit : CapFit esz n c
  load : ∀ i k, i + k ≤ n * esz → w.load b (o + i) k = some ((cs.drop i).take k)
  get : ∃ l sh, w.heap.get b = some (.cells l sh) ∧ w.alive b sh = true
theorem Rd.inv {T : Nat → Prop} {w : AW} {v : V} {esz n : Nat} {cs : List V} (h : Rd T w v esz n cs) : (v = .nilslice ∧ n = 0 ∧ cs = []) ∨ ∃ b o c, v = .slice b o n c ∧ RdB T w b o n esz c cs := by
  cases h with
  | nil => exact .inl ⟨rfl, rfl, rfl⟩
  | @blk b o _ _ c l _ sh hT hb hx ha hl hcs hc =>
    refine .inr ⟨b, o, c, rfl, ⟨hT, hb, hc, fun i k hik => ?_, l, sh, hx, ha.alive⟩⟩
    simp only [AW.load, hx, ha.alive]
    rw [takeN_some _ _ (by simp; omega), hcs]
    congr 1
    rw [List.drop_take, List.take_take, List.drop_drop, Nat.min_eq_left (by omega)]
/-- a cell. -/
theorem RdB.cell {T : Nat → Prop} {w : AW} {b o n esz : Nat} {c : Cap} {cs : List V} (h : RdB T w b o n esz c cs) {i : Nat} {x : V} (hi : i < n * esz) (hx : cs[i]? = some x) : w.load b (o + i) 1 = some [x] := by
  rw [h.load i 1 (by omega)]
  have hlt : i < cs.length := (List.getElem?_eq_some_iff.1 hx).1
  rw [List.drop_eq_getElem_cons hlt]
  rw [List.getElem?_eq_getElem hlt] at hx
  rw [Option.some.inj hx]; rfl
/-- an element, of elements told one by one. -/
theorem flat_at {α : Type} {r : α → List V → Prop} {sz : Nat} (hsz : ∀ a xs, r a xs → xs.length = sz) : ∀ {l : List α} {xss : List (List V)}, All2 r l xss → ∀ {i : Nat} {a : α}, l[i]? = some a → ∃ xs, r a xs ∧ (xss.flatten.drop (i * sz)).take sz = xs
  | [], _, .nil, i, a, h => by simp at h
  | x :: l, y :: m, .cons h1 h2, 0, a, h => by
    simp at h; subst h
    refine ⟨y, h1, ?_⟩
    rw [Nat.zero_mul, List.drop_zero, List.flatten_cons, ← hsz _ _ h1, List.take_left']
    rfl
  | x :: l, y :: m, .cons h1 h2, i + 1, a, h => by
    obtain ⟨xs, q1, q2⟩ := flat_at hsz h2 (i := i) (a := a) (by simpa using h)
    refine ⟨xs, q1, ?_⟩
    have hy := hsz _ _ h1
    rw [List.flatten_cons, Nat.add_mul, Nat.one_mul, Nat.add_comm (i * sz), ← List.drop_drop, ← hy, List.drop_left' rfl, hy]
    exact q2
/-- elements, each told by a relation. -/
def RdL {α : Type} (r : AW → α → List V → Prop) (T : Nat → Prop) (w : AW) (v : V) (esz : Nat) (l : List α) : Prop := ∃ xss, Rd T w v esz l.length xss.flatten ∧ All2 (r w) l xss
theorem RdL.inv {α : Type} {r : AW → α → List V → Prop} {T : Nat → Prop} {w : AW} {v : V} {esz : Nat} {l : List α} (h : RdL r T w v esz l) (hsz : ∀ a xs, r w a xs → xs.length = esz) :
    (v = .nilslice ∧ l = []) ∨ ∃ b o c, v = .slice b o l.length c ∧ T b ∧ b < w.next ∧ CapFit esz l.length c ∧ ∀ i a, l[i]? = some a → ∃ xs, r w a xs ∧ ∀ j k, j + k ≤ esz → w.load b (o + i * esz + j) k = some ((xs.drop j).take k) := by
  obtain ⟨xss, h1, h2⟩ := h
  rcases h1.inv with ⟨q1, q2, q3⟩ | ⟨b, o, c, rfl, hB⟩
  · exact .inl ⟨q1, List.length_eq_zero_iff.1 q2⟩
  · refine .inr ⟨b, o, c, rfl, hB.own, hB.lt, hB.fit, fun i a hi => ?_⟩
    obtain ⟨xs, q1, q2⟩ := flat_at hsz h2 hi
    refine ⟨xs, q1, fun j k hjk => ?_⟩
    have hlt : i < l.length := (List.getElem?_eq_some_iff.1 hi).1
    have hle : (i + 1) * esz ≤ l.length * esz := Nat.mul_le_mul_right _ hlt
    rw [Nat.add_mul, Nat.one_mul] at hle
    rw [Nat.add_assoc, hB.load (i * esz + j) k (by omega), ← q2, List.drop_take, List.take_take, Nat.min_eq_left (by omega), List.drop_drop]
theorem RdL.frm {α : Type} {r : AW → α → List V → Prop} {T S : Nat → Prop} {w w' : AW} {v : V} {esz : Nat} {l : List α} (h : RdL r T w v esz l) (hr : ∀ a xs, r w a xs → r w' a xs) (hf : Frm S w w') (hd : ∀ x, T x → ¬ S x) : RdL r T w' v esz l := by
  obtain ⟨xss, h1, h2⟩ := h
  exact ⟨xss, h1.frm hf hd, h2.imp hr⟩
theorem RdL.mono {α : Type} {r r' : AW → α → List V → Prop} {T T' : Nat → Prop} {w : AW} {v : V} {esz : Nat} {l : List α} (h : RdL r T w v esz l) (hr : ∀ a xs, r w a xs → r' w a xs) (ht : ∀ x, T x → T' x) : RdL r' T' w v esz l := by
  obtain ⟨xss, h1, h2⟩ := h
  exact ⟨xss, h1.mono ht, h2.imp hr⟩
/-- what was appended to is read. -/
theorem Buf.rd {S : Nat → Prop} {w : AW} {v : V} {esz n : Nat} {cs : List V} (h : Buf S w v esz n cs) : Rd S w v esz n cs := by
  cases h with
  | nil => exact .nil
  | @blk b _ _ r _ rest sh hS hb hx hl hr he hn hs =>
    refine .blk hS hb hx ?_ (by rw [List.length_append, hl]; omega) (by rw [List.drop_zero, List.take_append_of_le_length (by omega), List.take_of_length_le (by omega)]) (.inl rfl)
    rcases hs with rfl | rfl | ⟨f, F, rfl, h1, h2, h3, h4, h6, h5⟩
    · exact .inl rfl
    · exact .inr (.inl rfl)
    · exact .inr (.inr (.inr ⟨f, F, rfl, h1, h2, h3, h5⟩))
theorem Own.rd {N : Nat} {w : AW} {v : V} {esz n : Nat} {cs : List V} (h : Own N w v esz n cs) : Rd (fun b => N ≤ b ∧ b < w.next) w v esz n cs := by
  cases h with
  | nil => exact .nil
  | @blk b _ _ _ sh hN hb hx hl he hn hs =>
    refine .blk ⟨hN, hb⟩ hb hx ?_ (by omega) (by rw [List.drop_zero, List.take_of_length_le (by omega)]) (.inl rfl)
    rcases hs with rfl | rfl | ⟨f, F, rfl, h1, h2, h3, h4, h6, h5⟩
    · exact .inl rfl
    · exact .inr (.inl rfl)
    · exact .inr (.inr (.inr ⟨f, F, rfl, ⟨h1, h2⟩, h2, h3, h5⟩))
theorem Rd.elems {T : Nat → Prop} {w : AW} {v : V} {esz n : Nat} {cs : List V} (h : Rd T w v esz n cs) : w.elems esz v = some (n, cs) := by
  have hlen := h.len
  rcases h.inv with ⟨rfl, rfl, rfl⟩ | ⟨b, o, c, rfl, hB⟩
  · rfl
  · cases n with
    | zero =>
      have : cs = [] := List.length_eq_zero_iff.1 (by omega)
      subst this; rfl
    | succ n =>
      have := hB.load 0 ((n + 1) * esz) (by omega)
      rw [Nat.add_zero, List.drop_zero, List.take_of_length_le (by omega)] at this
      simp only [AW.elems, this]
theorem Rd.lenV {T : Nat → Prop} {w : AW} {v : V} {esz n : Nat} {cs : List V} (h : Rd T w v esz n cs) : lenV v = some n := by cases h <;> rfl
theorem Buf.lenV {S : Nat → Prop} {w : AW} {v : V} {esz n : Nat} {cs : List V} (h : Buf S w v esz n cs) : lenV v = some n := by cases h <;> rfl
/-- a block of one's own: its cells. -/
structure CB (w : AW) (b : Nat) (l : List V) : Prop where
  lt : b < w.next
  get : w.heap.get b = some (.cells l .own)
theorem CB.frm {S : Nat → Prop} {w w' : AW} {b : Nat} {l : List V} (h : CB w b l) (hf : Frm S w w') (hn : ¬ S b) : CB w' b l := ⟨Nat.lt_of_lt_of_le h.lt hf.next, (hf.heap b h.lt hn).trans h.get⟩
theorem CB.load {w : AW} {b : Nat} {l : List V} (h : CB w b l) (o n : Nat) : w.load b o n = takeN n (l.drop o) := by simp only [AW.load, h.get]; rfl
theorem CB.all {w : AW} {b n : Nat} {l : List V} (h : CB w b l) (hn : l.length = n) : w.load b 0 n = some l := by rw [h.load, List.drop_zero]; exact takeN_all _ _ hn
def AW.put (w : AW) (b : Nat) (l : List V) : AW := w.turn b (.cells l .own)
theorem CB.set {w : AW} {b i : Nat} {l : List V} {v : V} (h : CB w b l) (hi : i < l.length) (hv : v.one = true) : w.store b i [v] = some (w.put b (l.set i v)) := store_cell h.get hi hv
theorem CB.setAll {w : AW} {b : Nat} {l vs : List V} (h : CB w b l) (hl : l.length = vs.length) (h1 : allOne vs = true) : w.store b 0 vs = some (w.put b vs) := by
  have : over l 0 vs = some vs := by
    have := over_mid [] l [] vs hl.symm
    simpa using this
  exact store_shr h.get (.inl rfl : Shr (fun _ => True) w b .own) h1 this
theorem put_cb {w : AW} {b : Nat} {l : List V} (h : b < w.next) : CB (w.put b l) b l := ⟨h, T.get_put_same⟩
theorem put_frm {w : AW} {b : Nat} {l : List V} : Frm (fun x => x = b) w (w.put b l) := turn_frm (sh := .own) rfl (.inl rfl)
theorem fresh_cb (w : AW) (l : List V) : CB (w.fresh l) w.next l := ⟨Nat.lt_succ_self _, T.get_put_same⟩
theorem fresh_frm {S : Nat → Prop} (w : AW) (l : List V) : Frm S w (w.fresh l) := Frm.new w _
/-- a new block that is written at once. -/
theorem boxed (w : AW) {zs vs : List V} (hl : zs.length = vs.length) (h1 : allOne vs = true) : ∃ w2, (w.fresh zs).store w.next 0 vs = some w2 ∧ CB w2 w.next vs ∧ Frm (fun _ => False) w w2 ∧ w2.next = w.next + 1 := by
  refine ⟨_, (fresh_cb w zs).setAll hl h1, put_cb (Nat.lt_succ_self _), ?_, rfl⟩
  refine (fresh_frm (S := fun _ => False) w zs).trans (T := fun b => b = w.next) put_frm (fun _ _ h => h) ?_
  rintro y hy rfl; omega
theorem Frm.out {S : Nat → Prop} {w w1 w2 : AW} {b : Nat} {l : List V} (h : Frm S w w1) (hb : w.next ≤ b) (h2 : w2 = w1.put b l) : Frm S w w2 := by
  subst h2
  refine h.trans (T := fun x => x = b) put_frm (fun _ _ h => h) ?_
  rintro x hx rfl; omega
theorem Frm.tr {S : Nat → Prop} {a b c : AW} (h : Frm S a b) (h' : Frm S b c) : Frm S a c := h.trans h' (fun _ _ h => h) fun _ _ h => h
theorem Frm.no {S : Nat → Prop} {a b : AW} (h : Frm (fun _ => False) a b) : Frm S a b := h.mono fun _ _ h => h.elim
/-- one more, that a relation tells. -/
theorem All2.cells {α : Type} {r : α → List V → Prop} {l : List α} {xss : List (List V)} {a : α} {xs : List V} (h : All2 r l xss) (hx : r a xs) : All2 r (l ++ [a]) (xss ++ [xs]) ∧ (xss ++ [xs]).flatten = xss.flatten ++ xs := ⟨h.snoc hx, by simp⟩
end Go.AE

set_option linter.unusedVariables false
set_option linter.unusedSectionVars false
set_option linter.unusedSimpArgs false
set_option linter.unusedSectionVars false
namespace Go.AE
variable [Globs]
theorem cells_map {b : Nat} : (V.map b).cells = [.map b] := rfl
theorem cells_nilmap : V.nilmap.cells = [.nilmap] := rfl
theorem cells_func {f : Fn} {a c : List V} : (V.func f a c).cells = [.func f a c] := rfl
theorem cells_iface {t : Nat} {v : V} : (V.iface t v).cells = [.iface t v] := rfl
theorem cells_niliface : V.niliface.cells = [.niliface] := rfl
attribute [go_sem] cells_map cells_nilmap cells_func cells_iface cells_niliface
section
variable {α β : Type} [DecidableEq α]
/-- what stands at a key. -/
def aget : List (α × β) → α → Option β
  | [], _ => none
  | (a, b) :: l, k => if k = a then some b else aget l k
/-- a value put at a key: in its place, or behind. -/
def aput : List (α × β) → α → β → List (α × β)
  | [], k, v => [(k, v)]
  | (a, b) :: l, k, v => if k = a then (a, v) :: l else (a, b) :: aput l k v
/-- how keys stand as values. -/
structure KeyE (t : KeyTy) (ke : α → V) : Prop where
  eq : ∀ a b, eqKey t (ke a) (ke b) = some (decide (a = b))
  ok : ∀ a, keyOk t (ke a) = true
def MRel (ke : α → V) (ve : β → V) (p : α × β) (e : V × V × Nat) : Prop := e.1 = ke p.1 ∧ e.2.1 = ve p.2
/-- a map's block. -/
structure MB (ke : α → V) (ve : β → V) (w : AW) (b : Nat) (M : List (α × β)) : Prop where
  lt : b < w.next
  get : ∃ es ck, w.heap.get b = some (.map es ck) ∧ All2 (MRel ke ve) M es
variable {ke : α → V} {ve : β → V} {t : KeyTy}
/-- what a look comes to. -/
def mres (ve : β → V) (zero : V) : Option β → V × Bool
  | some v => (ve v, true)
  | none => (zero, false)
theorem MB.frm {S : Nat → Prop} {w w' : AW} {b : Nat} {M : List (α × β)} (h : MB ke ve w b M) (hf : Frm S w w') (hn : ¬ S b) : MB ke ve w' b M := by
  obtain ⟨es, ck, h1, h2⟩ := h.get
  exact ⟨Nat.lt_of_lt_of_le h.lt hf.next, es, ck, (hf.heap b h.lt hn).trans h1, h2⟩
theorem findE_map (hk : KeyE t ke) {k : α} : ∀ {M : List (α × β)} {es : List (V × V × Nat)} (i : Nat), All2 (MRel ke ve) M es →
    (aget M k = none → findE t (ke k) es i = some none) ∧ ∀ v, aget M k = some v → ∃ j n, findE t (ke k) es i = some (some (i + j, ve v, n)) ∧ ∀ v', All2 (MRel ke ve) (aput M k v') (setE j (ke k) (ve v') es)
  | [], _, i, .nil => ⟨fun _ => rfl, fun v h => by simp [aget] at h⟩
  | (a, b) :: M, (x, y, n) :: es, i, .cons h1 h2 => by
    obtain ⟨q1, q2⟩ := h1
    simp only at q1 q2
    subst q1; subst q2
    by_cases h : k = a
    · subst h
      refine ⟨fun hn => by simp [aget] at hn, fun v hv => ?_⟩
      simp only [aget, if_true, Option.some.injEq] at hv
      subst hv
      refine ⟨0, n, by simp only [findE, hk.eq, decide_true, Nat.add_zero], fun v' => ?_⟩
      simp only [aput, if_true, setE, List.getElem?_cons_zero, List.set_cons_zero]
      exact .cons ⟨rfl, rfl⟩ h2
    · obtain ⟨r1, r2⟩ := findE_map hk (k := k) (i + 1) h2
      refine ⟨fun hn => ?_, fun v hv => ?_⟩
      · simp only [aget, if_neg h] at hn
        simp only [findE, hk.eq, decide_eq_false h]
        exact r1 hn
      · simp only [aget, if_neg h] at hv
        obtain ⟨j, m, s1, s2⟩ := r2 v hv
        refine ⟨j + 1, m, ?_, fun v' => ?_⟩
        · simp only [findE, hk.eq, decide_eq_false h]
          rw [s1]; congr 3; omega
        · have := s2 v'
          simp only [aput, if_neg h]
          have e : setE (j + 1) (ke k) (ve v') ((ke a, ve b, n) :: es) = (ke a, ve b, n) :: setE j (ke k) (ve v') es := by
            simp only [setE, List.getElem?_cons_succ]
            split <;> simp
          rw [e]
          exact .cons ⟨rfl, rfl⟩ this
theorem MB.look (hk : KeyE t ke) {w : AW} {b : Nat} {M : List (α × β)} (h : MB ke ve w b M) (zero : V) (k : α) : w.lookV t zero (.map b) (ke k) = some (mres ve zero (aget M k)) := by
  obtain ⟨es, ck, h1, h2⟩ := h.get
  obtain ⟨r1, r2⟩ := findE_map hk (k := k) 0 h2
  simp only [AW.lookV, AW.entries, h1, hk.ok]
  cases hg : aget M k with
  | none => simp only [r1 hg, mres]
  | some v => obtain ⟨j, n, s1, _⟩ := r2 v hg; simp only [s1, mres]
theorem aput_none : ∀ {M : List (α × β)} {k : α}, aget M k = none → ∀ v, aput M k v = M ++ [(k, v)]
  | [], k, _, v => rfl
  | (a, b) :: M, k, h, v => by
    simp only [aget] at h
    split at h
    · cases h
    · rename_i hn
      simp only [aput, if_neg hn, aput_none h v, List.cons_append]
theorem mturn_frm {w : AW} {b : Nat} {es : List (V × V × Nat)} {ck : Nat} : Frm (fun x => x = b) w (w.turn b (.map es ck)) :=
  ⟨Nat.le_refl _, fun c hc hn => T.get_put_ne hn, fun c hc hn => rfl⟩
theorem MB.put (hk : KeyE t ke) {w : AW} {b : Nat} {M : List (α × β)} (h : MB ke ve w b M) (k : α) (v : β) : ∃ w', w.putV t (.map b) (ke k) (ve v) = some w' ∧ MB ke ve w' b (aput M k v) ∧ Frm (fun x => x = b) w w' ∧ w'.next = w.next := by
  obtain ⟨es, ck, h1, h2⟩ := h.get
  obtain ⟨r1, r2⟩ := findE_map hk (k := k) 0 h2
  simp only [AW.putV, AW.entries, h1, hk.ok]
  cases hg : aget M k with
  | none =>
    refine ⟨w.turn b (.map (es ++ [(ke k, ve v, ck)]) (ck + 1)), by simp only [r1 hg], ⟨h.lt, _, _, T.get_put_same, ?_⟩, mturn_frm, rfl⟩
    rw [aput_none hg]
    exact h2.snoc ⟨rfl, rfl⟩
  | some u =>
    obtain ⟨j, n, s1, s2⟩ := r2 u hg
    refine ⟨w.turn b (.map (setE j (ke k) (ve v) es) ck), ?_, ⟨h.lt, _, _, T.get_put_same, s2 v⟩, mturn_frm, rfl⟩
    simp only [s1, Nat.zero_add]
theorem MB.len {w : AW} {b : Nat} {M : List (α × β)} (h : MB ke ve w b M) : ∃ es ck, w.entries (.map b) = some (some b, es, ck) ∧ es.length = M.length := by
  obtain ⟨es, ck, h1, h2⟩ := h.get
  exact ⟨es, ck, by simp only [AW.entries, h1], h2.len.symm⟩
theorem MB.new (w : AW) : MB ke ve (w.new (.map [] 0)) w.next ([] : List (α × β)) := ⟨Nat.lt_succ_self _, [], 0, T.get_put_same, .nil⟩
end
theorem mnew_frm {S : Nat → Prop} (w : AW) : Frm S w (w.new (.map [] 0)) := Frm.new w _
/-- a slice of one's own that fills its block. -/
inductive Bt (S : Nat → Prop) (w : AW) : V → Nat → Nat → List V → Prop
  | nil {esz : Nat} : Bt S w .nilslice esz 0 []
  | blk {b n esz : Nat} {cs : List V} {sh : Share} (hS : S b) (hb : b < w.next) (hx : w.heap.get b = some (.cells cs sh)) (hl : cs.length = n * esz) (he : 0 < esz) (hn : 0 < n) (hs : Shr S w b sh) : Bt S w (.slice b 0 n (.upTo esz)) esz n cs
theorem Bt.buf {S : Nat → Prop} {w : AW} {v : V} {esz n : Nat} {cs : List V} (h : Bt S w v esz n cs) : Buf S w v esz n cs := by
  cases h with
  | nil => exact .nil
  | blk hS hb hx hl he hn hs => exact .blk (r := 0) (rest := []) hS hb (by rw [List.append_nil]; exact hx) hl (by simp) he (by omega) hs
theorem Bt.mono {S S' : Nat → Prop} {w : AW} {v : V} {esz n : Nat} {cs : List V} (h : Bt S w v esz n cs) (hs : ∀ x, S x → S' x) : Bt S' w v esz n cs := by
  cases h with
  | nil => exact .nil
  | blk hS hb hx hl he hn hsh => exact .blk (hs _ hS) hb hx hl he hn (hsh.mono hs)
theorem Bt.frm {S T : Nat → Prop} {w w' : AW} {v : V} {esz n : Nat} {cs : List V} (h : Bt S w v esz n cs) (hf : Frm T w w') (hd : ∀ x, S x → ¬ T x) : Bt S w' v esz n cs := by
  cases h with
  | nil => exact .nil
  | blk hS hb hx hl he hn hsh => exact .blk hS (Nat.lt_of_lt_of_le hb hf.next) ((hf.heap _ hb (hd _ hS)).trans hx) hl he hn (hsh.frm hf hd)
theorem Bt.len {S : Nat → Prop} {w : AW} {v : V} {esz n : Nat} {cs : List V} (h : Bt S w v esz n cs) : cs.length = n * esz := h.buf.len
theorem Bt.rd {S : Nat → Prop} {w : AW} {v : V} {esz n : Nat} {cs : List V} (h : Bt S w v esz n cs) : Rd S w v esz n cs := h.buf.rd
theorem Bt.lenV {S : Nat → Prop} {w : AW} {v : V} {esz n : Nat} {cs : List V} (h : Bt S w v esz n cs) : lenV v = some n := h.buf.lenV
theorem Bt.one {S : Nat → Prop} {w : AW} {v : V} {esz n : Nat} {cs : List V} (h : Bt S w v esz n cs) : v.one = true ∧ v.cells = [v] := by cases h <;> exact ⟨rfl, rfl⟩
theorem Bt.inv {S : Nat → Prop} {w : AW} {v : V} {esz n : Nat} {cs : List V} (h : Bt S w v esz n cs) : (v = .nilslice ∧ n = 0 ∧ cs = []) ∨ ∃ b, v = .slice b 0 n (.upTo esz) ∧ S b ∧ b < w.next := h.buf.inv
/-- some more elements. -/
theorem Bt.addN {S : Nat → Prop} {w : AW} {v : V} {esz n k bytes : Nat} {cs news : List V} (h : Bt S w v esz n cs) (he : 0 < esz) (hl : news.length = k * esz) (h1 : allOne news = true) (hb : (n + k) * bytes ≤ 70368744177664) (hb' : n + k ≤ 70368744177664) :
    ∃ v' w' S', w.appendV esz bytes v k news = some (v', w') ∧ Bt S' w' v' esz (n + k) (cs ++ news) ∧ Frm S w w' ∧ Grown S S' w w' := by
  cases k with
  | zero =>
    have : news = [] := List.length_eq_zero_iff.1 (by simpa using hl)
    subst this
    refine ⟨v, w, fun x => S x ∧ x < w.next, ?_, ?_, Frm.refl _, fun b hb => ⟨hb.2, .inl hb.1⟩⟩
    · cases h <;> rfl
    · rw [List.append_nil, Nat.add_zero]
      cases h with
      | nil => exact .nil
      | blk hS hbw hx hlen he' hn hs =>
        refine .blk ⟨hS, hbw⟩ hbw hx hlen he' hn ?_
        rcases hs with rfl | rfl | ⟨f, F, rfl, q1, q2, q3⟩
        · exact .inl rfl
        · exact .inr (.inl rfl)
        · exact .inr (.inr ⟨f, F, rfl, ⟨q1, q2⟩, q2, q3⟩)
  | succ k =>
    cases h with
    | nil =>
      refine ⟨.slice w.next 0 (k + 1) (.upTo esz), w.fresh news, fun b => b = w.next, ?_, ?_, Frm.new _ _, ?_⟩
      · simp only [AW.appendV]; rw [if_pos ⟨by simpa using hb, by omega⟩]
      · rw [Nat.zero_add]; exact .blk rfl (Nat.lt_succ_self _) T.get_put_same (by simpa using hl) he (by omega) (.inl rfl)
      · rintro b rfl; exact ⟨Nat.lt_succ_self _, .inr (Nat.le_refl _)⟩
    | @blk b _ _ _ sh hS hbw hx hlen he' hn hs =>
      have happ : w.appendV esz bytes (.slice b 0 n (.upTo esz)) (k + 1) news = w.appendUp esz b 0 n (k + 1) news := if_pos ⟨rfl, hb, hb', h1, he⟩
      rw [happ]
      have hbeq : Nat.beq (0 + n * esz) cs.length = true := by rw [Nat.zero_add, hlen, Nat.beq_refl]
      have fam : ∀ (u : AW) (f : Nat) (F : Fam), w.next ≤ u.next → Frm S w u → u.heap.get b = some (.cells cs (.fam f)) → (S f ∨ w.next ≤ f) → f < u.next → b < u.next → u.fams.get f = some F → F.last = b → F.floor ≤ u.next → u.alive b (.fam f) = true →
          ∃ v' w' S', u.appendFam esz b 0 n (k + 1) news = some (v', w') ∧ Bt S' w' v' esz (n + (k + 1)) (cs ++ news) ∧ Frm S w w' ∧ Grown S S' w w' := by
        intro u f F hle hfu hx hSf hfl hbu hF hlast hflo hal
        refine ⟨.slice u.next 0 (n + (k + 1)) (.upTo esz), u.grow b f F (cs.drop 0 ++ news), fun x => x = u.next ∨ x = f, ?_, ?_, ?_, ?_⟩
        · simp only [AW.appendFam, hx, hal, hF, hbeq]
        · have hg : (u.grow b f F (cs.drop 0 ++ news)).fams.get f = some ⟨F.keep, F.floor, u.next⟩ := by
            simp only [AW.grow, T.get_putk, if_true, hlast, Nat.beq_refl]
          refine .blk (sh := .fam f) (.inl rfl) (Nat.lt_succ_self _) ?_ ?_ he (by omega) (.inr (.inr ⟨f, ⟨F.keep, F.floor, u.next⟩, rfl, .inr rfl, Nat.lt_succ_of_lt hfl, hg, rfl, Nat.le_succ_of_le hflo, ?_⟩))
          · simp only [AW.grow, T.get_putk, if_true, List.drop_zero]
          · rw [List.length_append, hlen, hl, Nat.add_mul n]
          · simp only [AW.alive, hg, Bool.or_eq_true]
            exact .inr (Nat.ble_eq_true_of_le hflo)
        · refine hfu.trans (T := fun x => x = f ∨ u.next ≤ x) ⟨Nat.le_succ _, fun c hc hn => T.get_put_ne (by omega), fun c hc hn => T.get_put_ne fun e => hn (.inl e)⟩ (fun x hx h => h) ?_
          rintro x hx (rfl | h)
          · rcases hSf with h | h
            · exact h
            · omega
          · omega
        · rintro x (rfl | rfl)
          · exact ⟨Nat.lt_succ_self _, .inr hle⟩
          · exact ⟨Nat.lt_succ_of_lt hfl, hSf⟩
      have fnd : sh = .own ∨ sh = .lax → ∃ v' w' S', (w.found b cs).appendFam esz b 0 n (k + 1) news = some (v', w') ∧ Bt S' w' v' esz (n + (k + 1)) (cs ++ news) ∧ Frm S w w' ∧ Grown S S' w w' := by
        intro _
        refine fam (w.found b cs) w.next ⟨b, w.next + 1, b⟩ (Nat.le_succ _) ⟨Nat.le_succ _, fun c hc hn => T.get_put_ne fun e => hn (e ▸ hS), fun c hc hn => T.get_put_ne (by omega)⟩ T.get_put_same (.inr (Nat.le_refl _)) (Nat.lt_succ_self _) (Nat.lt_succ_of_lt hbw) T.get_put_same rfl (Nat.le_refl _) ?_
        simp only [AW.alive, AW.found, T.get_putk, if_true, Nat.beq_refl, Bool.true_or]
      simp only [AW.appendUp, hx, hbeq]
      rcases hs with rfl | rfl | ⟨f, F, rfl, g1, g2, g3, g4, g6, g5⟩
      · exact fnd (.inl rfl)
      · exact fnd (.inr rfl)
      · exact fam w f F (Nat.le_refl _) (Frm.refl _) hx (.inl g1) g2 hbw g3 g4 g6 g5
theorem Bt.push {S : Nat → Prop} {w : AW} {v : V} {esz n bytes : Nat} {cs news : List V} (h : Bt S w v esz n cs) (hS : ∀ b, S b → b < w.next) (he : 0 < esz) (hl : news.length = esz) (h1 : allOne news = true) (hb : (n + 1) * bytes ≤ 70368744177664) (hb' : n + 1 ≤ 70368744177664) :
    ∃ v' w' S', (w.fresh news).appendV esz bytes v 1 news = some (v', w') ∧ Bt S' w' v' esz (n + 1) (cs ++ news) ∧ Frm S w w' ∧ Grown S S' w w' := by
  have hx : Frm (fun _ => False) w (w.fresh news) := Frm.new _ _
  obtain ⟨v', w', S', h2, h3, h4, h5⟩ := (h.frm hx fun _ _ h => h).addN (news := news) (k := 1) (bytes := bytes) he (by omega) h1 hb hb'
  refine ⟨v', w', S', h2, h3, hx.trans h4 (fun _ _ h => h.elim) fun _ _ h => h, fun b hb => ?_⟩
  obtain ⟨q1, q2⟩ := h5 b hb
  exact ⟨q1, q2.imp id fun h => Nat.le_trans hx.next h⟩
end Go.AE

set_option linter.unusedVariables false
set_option linter.unusedSectionVars false
set_option linter.unusedSimpArgs false
open Go.RowKit
namespace Go.AE
variable [Globs]
/-- a block of the world's that no abstract one stands for. -/
theorem R.bind {y : AW} {w : World} {m : Map} {base n c tot : Nat} (hR : R y w m base) {x : Blk} (hn : n < y.next) (hm : m n = none) (hx : y.heap.get n = some x) (hl : x.lone = true) (hcl : c < w.heap.size) (hcb : base ≤ c) (hfr : ∀ b e, m b = some e → e.c ≠ c)
    (hb : BR y (m.set n ⟨c, 0, tot⟩) w n ⟨c, 0, tot⟩ x) : R y w (m.set n ⟨c, 0, tot⟩) base := by
  have hle : m.le (m.set n ⟨c, 0, tot⟩) := Map.le_set hm
  have hnf : ∀ {l : List V} {f : Nat}, y.heap.get n ≠ some (.cells l (.fam f)) := by
    intro l f h; rw [hx] at h; cases h; cases hl
  refine ⟨hR.glob.le hle, hR.gblk, fun b e l f h hy => ?_, hR.size, fun b e h => ?_, fun b e h => ?_, fun b e z h hz => ?_, fun b e z b' e' z' h hz h' hz' h1 h2 hne hec => ?_, fun f F hF => ?_⟩
  · rcases Map.set_cases h with ⟨rfl, rfl⟩ | ⟨h1, h2⟩
    · exact absurd hy hnf
    · exact hR.famlt b e l f h2 hy
  · rcases Map.set_cases h with ⟨rfl, rfl⟩ | ⟨h1, h2⟩
    · exact ⟨hn, hcl⟩
    · exact hR.lt b e h2
  · rcases Map.set_cases h with ⟨rfl, rfl⟩ | ⟨h1, h2⟩
    · exact .inl hcb
    · exact hR.base b e h2
  · rcases Map.set_cases h with ⟨rfl, rfl⟩ | ⟨h1, h2⟩
    · rw [hx] at hz; cases hz; exact hb
    · exact BR.mono hle (fun _ _ _ h => h) rfl (hR.blk b e z h2 hz)
  · rcases Map.set_cases h with ⟨rfl, rfl⟩ | ⟨k1, k2⟩
    · rcases Map.set_cases h' with ⟨rfl, rfl⟩ | ⟨k3, k4⟩
      · exact absurd rfl hne
      · exact absurd hec.symm (hfr b' e' k4)
    · rcases Map.set_cases h' with ⟨rfl, rfl⟩ | ⟨k3, k4⟩
      · exact absurd hec (hfr b e k2)
      · exact hR.apart b e z b' e' z' k2 hz k4 hz' h1 h2 hne hec
  · obtain ⟨h1, h2⟩ := hR.fam f F hF
    refine ⟨h1, fun b e l e' l' h hy ha h' hy' hec => ?_⟩
    rcases Map.set_cases h with ⟨rfl, rfl⟩ | ⟨k1, k2⟩
    · exact absurd hy hnf
    · rcases Map.set_cases h' with ⟨q, rfl⟩ | ⟨k3, k4⟩
      · rw [q] at hy'; exact absurd hy' hnf
      · exact h2 b e l e' l' k2 hy ha k4 hy' hec
/-- a row of cells that a call made. -/
theorem R.take {aw : AW} {w w' : World} {m : Map} {base : Nat} (hR : R aw w m base) (hb : Below w.heap.size w w') {c lo hi : Nat} {cur : Array Value} {t : TypeId} {l : List V} (hc : w.heap.size ≤ c) (hx : w'.heap[c]? = some (.cells cur t (lo, hi))) (hlh : lo = hi) (hl : CR m l 0 cur) (hsz : l.length ≤ cur.size) :
    R (aw.fresh l) w' (m.set aw.next ⟨c, 0, cur.size⟩) base ∧ Goes aw (aw.fresh l) w w' m (m.set aw.next ⟨c, 0, cur.size⟩) := by
  obtain ⟨h1, h2⟩ := hR.below hb
  have hnone : m aw.next = none := next_none hR
  have hle : m.le (m.set aw.next ⟨c, 0, cur.size⟩) := Map.le_set hnone
  have hcl : c < w'.heap.size := (Array.getElem?_eq_some_iff.1 hx).1
  refine ⟨(h1.pad (.cells l .own)).bind (Nat.lt_succ_self _) hnone T.get_put_same rfl hcl (Nat.le_trans hR.size hc) (fun b e he hec => ?_) (fun _ => ⟨cur, t, lo, hi, hx, rfl, by simpa using hsz, .inr (.inl ⟨hlh, fun _ => rfl⟩), hl.mono hle⟩), ?_⟩
  · have := (hR.lt b e he).2; omega
  · have h3 := h2.pad (.cells l .own)
    refine ⟨hle, fun b e hbe => ?_, h3.next, h3.size, h3.os, h3.tape, h3.output, h3.ro, h3.roOld, h3.frame, h3.none, h3.unm⟩
    rcases Map.set_cases hbe with ⟨rfl, rfl⟩ | ⟨_, h4⟩
    · exact .inr ⟨Nat.le_refl _, .inl hc⟩
    · exact .inl h4
end Go.AE

set_option linter.unusedVariables false
set_option linter.unusedSectionVars false
set_option linter.unusedSimpArgs false
open Go.RowKit
namespace Go.AE
variable [Globs]
section
/-- the digits of a number: so many rounds at most. -/
def digsN : Nat → Nat → List Nat → List Nat
  | 0, _, acc => acc
  | f + 1, n, acc => match Nat.blt n 10 with
    | true => (48 + n) :: acc
    | false => digsN f (n / 10) ((48 + n % 10) :: acc)
def decN (n : Nat) : List Nat := digsN (n + 1) n []
def fmtI : Int → List Nat
  | .ofNat n => decN n
  | .negSucc n => 45 :: decN (n + 1)
theorem digsN_acc : ∀ (f n : Nat) (acc : List Nat), n < f → digsN f n acc = (Lib.decDigits n).map UInt8.toNat ++ acc
  | 0, n, acc, h => by omega
  | f + 1, n, acc, h => by
    rw [digsN, Lib.decDigits]
    by_cases hn : n < 10
    · have : Nat.blt n 10 = true := Nat.blt_eq.mpr hn
      rw [this, dif_pos hn]
      simp only [List.map_cons, List.map_nil, List.singleton_append]
      congr 1
      rw [UInt8.toNat_ofNat']; omega
    · have hb : Nat.blt n 10 = false := by
        cases hb : Nat.blt n 10 with
        | false => rfl
        | true => exact absurd (Nat.blt_eq.mp hb) hn
      rw [hb, dif_neg hn]
      simp only []
      rw [digsN_acc f (n / 10) _ (by omega), List.map_append, List.append_assoc]
      simp only [List.map_cons, List.map_nil, List.singleton_append]
      congr 2
      rw [UInt8.toNat_ofNat']; omega
theorem decN_eq (n : Nat) : decN n = (Lib.decDigits n).map UInt8.toNat := by
  rw [decN, digsN_acc _ _ _ (Nat.lt_succ_self n), List.append_nil]
theorem fmtI_eq : ∀ (n : Int), fmtI n = (Lib.itoa n).map UInt8.toNat
  | .ofNat n => by
    have : Lib.itoa (Int.ofNat n) = Lib.decDigits n := Lib.itoa_nonneg n
    rw [this]; exact decN_eq n
  | .negSucc n => by
    have : Lib.itoa (Int.negSucc n) = 45 :: Lib.decDigits (n + 1) := Lib.itoa_neg (n + 1) (by omega)
    rw [this, List.map_cons]
    show 45 :: decN (n + 1) = _
    rw [decN_eq]; rfl
def toValI : V → Value
  | .int k n => .int k n
  | _ => undef
theorem ints_are {m : Map} : ∀ {l : List V} {c : List Value}, (∀ x ∈ l, ∃ k n, x = .int k n) → c.length = l.length → (∀ (i : Nat) (x : V), l[i]? = some x → ∃ y, c[i]? = some y ∧ VR m x y) → c = l.map toValI
  | [], c, _, hl, _ => by simpa using hl
  | x :: l, [], _, hl, _ => by simp at hl
  | x :: l, y :: c, hi, hl, hr => by
    obtain ⟨k, n, rfl⟩ := hi x (by simp)
    obtain ⟨y', h1, h2⟩ := hr 0 _ rfl
    simp at h1
    subst h1
    rw [List.map_cons, ← ints_are (l := l) (c := c) (fun z hz => hi z (by simp [hz])) (by simpa using hl) (fun i z hz => by simpa using hr (i + 1) z (by simpa using hz))]
    congr 1
/-- what the library's text comes to, where the table stands. -/
def FormatsAt (P : Program) (f g : Nat) : Prop := ∀ (n : Int) (w : World), -9223372036854775808 ≤ n → n ≤ 9223372036854775807 → (∃ t fz, w.heap[g]? = some (.cells (Lib.pow10Tab.map (Value.int .u64)).toArray t fz)) →
  Calls P f #[.int .i64 n, .int .i64 10] w fun e w' => e = .returned (.string ⟨(Lib.itoa n).toArray⟩) ∧ Below w.heap.size w w'
def formatI (args : List V) (aw : AW) : Option (V × AW) :=
  match args with
  | [.int .i64 n, .int .i64 10] => if -9223372036854775808 ≤ n ∧ n ≤ 9223372036854775807 then some (.str (fmtI n), aw) else none
  | _ => none
theorem formatI_ok {P : Program} {f g : Nat} (hF : FormatsAt P f g) (hg : Globs.gl[0]? = some (g, pow10V)) {args : List V} {aw : AW} {v : V} {aw' : AW} (h : formatI args aw = some (v, aw')) (w : World) (m : Map) (base : Nat) (args' : Array Value) (hR : R aw w m base) (hargs : VRs m args args'.toList) :
    Calls P f args' w fun r w' => ∃ v' m', r = .returned v' ∧ VR m' v v' ∧ R aw' w' m' base ∧ Goes aw aw' w w' m m' := by
  unfold formatI at h
  split at h
  · rename_i n
    split at h
    · rename_i hn
      cases h
      obtain ⟨x, r1, e1, hx, e2⟩ := hargs
      obtain ⟨y, r2, e3, hy, e4⟩ := e2
      cases e4
      have hx' : x = .int .i64 n := hx
      have hy' : y = .int .i64 10 := hy
      subst hx'; subst hy'
      obtain rfl : args' = #[.int .i64 n, .int .i64 10] := by cases args'; simp_all
      have hm := hR.glob 0 g _ hg
      obtain ⟨cur, t, lo, hi, p1, p2, p3, p4, p5⟩ := hR.blk 0 _ _ hm (hR.gblk 0 g _ hg) rfl
      have hcur : cur.toList = pow10V.map toValI := by
        refine ints_are (m := m) (fun x hx => ?_) (by rw [Array.length_toList]; exact p2) (fun i x hx => ?_)
        · simp only [pow10V, List.mem_cons, List.not_mem_nil, or_false] at hx
          rcases hx with rfl | rfl | rfl | rfl | rfl | rfl | rfl | rfl | rfl | rfl | rfl | rfl | rfl | rfl | rfl | rfl | rfl | rfl | rfl | rfl <;> exact ⟨_, _, rfl⟩
        · obtain ⟨y, q1, q2⟩ := p5 i x hx
          exact ⟨y, by simpa using q1, q2⟩
      have htab : pow10V.map toValI = Lib.pow10Tab.map (Value.int .u64) := by rfl
      have hc : cur = (Lib.pow10Tab.map (Value.int .u64)).toArray := by
        apply Array.ext'; rw [hcur, htab]
      refine (hF n w hn.1 hn.2 ⟨t, (lo, hi), by rw [p1, hc]⟩).mono ?_
      rintro r w' ⟨rfl, hbel⟩
      obtain ⟨q1, q2⟩ := hR.below hbel
      refine ⟨_, m, rfl, ⟨_, rfl, ?_⟩, q1, q2⟩
      rw [fmtI_eq]; simp [strL]
    · cases h
  · cases h
end
end Go.AE

/- Words of programs: what scanning comes to, in plain lists of bytes. -/
set_option linter.unusedVariables false
set_option linter.unusedSimpArgs false
namespace Delphi
def isBlank (c : Nat) : Bool := decide (c = 32) || decide (c = 9) || decide (c = 10) || decide (c = 13)
/-- how many bytes say nothing: outside a note, or within one. -/
def blk : Bool → List Nat → Nat
  | _, [] => 0
  | true, c :: t => if c = 10 then blk false t + 1 else blk true t + 1
  | false, c :: t => if isBlank c then blk false t + 1 else if c = 37 then blk true t + 1 else 0
end Delphi

/- Constants: what may be, in plain lists. -/
set_option linter.unusedVariables false
namespace Delphi
/-- a byte that may stand at a place of a word. -/
def okc (i c : Nat) : Bool := (decide (97 ≤ c) && decide (c ≤ 122)) || (decide (i ≠ 0) && ((decide (48 ≤ c) && decide (c ≤ 57)) || decide (c = 95)))
def okAll : Nat → List Nat → Bool
  | _, [] => true
  | i, c :: s => okc i c && okAll (i + 1) s
def wordB (s : List Nat) : Bool := okAll 0 s && (decide (1 ≤ s.length) && decide (s.length ≤ 16))
theorem okAll_snoc : ∀ (s : List Nat) (i c : Nat), okAll i (s ++ [c]) = (okAll i s && okc (i + s.length) c)
  | [], i, c => by simp [okAll]
  | x :: s, i, c => by
    simp only [List.cons_append, okAll, okAll_snoc s (i + 1) c, List.length_cons, Bool.and_assoc]
    congr 3; omega
theorem okAll_bad : ∀ {s : List Nat} {i k c : Nat}, s[k]? = some c → okc (i + k) c = false → okAll i s = false
  | [], i, k, c, h, _ => by simp at h
  | x :: s, i, 0, c, h, hb => by simp at h; subst h; simp only [okAll]; rw [show okc i x = false from hb]; rfl
  | x :: s, i, k + 1, c, h, hb => by
    simp only [okAll]
    rw [okAll_bad (s := s) (i := i + 1) (k := k) (c := c) (by simpa using h) (by rw [← hb]; congr 1; omega), Bool.and_false]
/-- a term, as it is handed. -/
structure Tk where
  k : Int
  s : List Nat
  n : Int
def tkMay (t : Tk) : Bool :=
  if t.k = 3 then decide (t.s = []) && (decide (-2147483648 ≤ t.n) && decide (t.n ≤ 2147483648))
  else if t.k = 2 then decide (t.n = 0) && wordB t.s else false
end Delphi

/- Constants: words. -/
set_option linter.unusedVariables false
set_option maxRecDepth 10000
set_option linter.unusedSimpArgs false
namespace Go.Proofs.YtjidefnbancmfaaDoor
open Go.AE Delphi
variable {tab : Tab}
def WdI (s : List Nat) (fi : Nat) (aw : AW) (q : Nat) (f : Fr) (w : AW) : Prop :=
  ∃ i, f.get 0 = some (.str s) ∧ f.get fi = some (.int .i64 (Int.ofNat i)) ∧ i ≤ s.length ∧ q = s.length - i ∧ okAll 0 (s.take i) = true ∧ w = aw
theorem take_ok {s : List Nat} {i c : Nat} (h : s[i]? = some c) (ho : okAll 0 (s.take i) = true) (hc : okc i c = true) : okAll 0 (s.take (i + 1)) = true := by
  have hl : i < s.length := (List.getElem?_eq_some_iff.1 h).1
  have e : s.take (i + 1) = s.take i ++ [c] := by rw [List.take_add_one, h]; rfl
  rw [e, okAll_snoc, ho, List.length_take, Nat.min_eq_left (by omega), Nat.zero_add, hc]; rfl
/-- value.Word. -/
theorem word_ok (C : Codes tab) {s : List Nat} {aw : AW} {K : V → AW → Prop} (hn : s.length ≤ 1000000) (hb : ∀ c ∈ s, c < 256) (h : K (.bool (wordB s)) aw) : WF tab n_value_Word [.str s] aw K := by
  refine WF_of C.c_value_Word rfl ?_
  refine WS_run 1000 (by simp only [go_sem, eRun_exit, Nat.reduceAdd, Nat.reduceLT, Nat.reduceEqDiff, reduceIte, reduceCtorEq, Int.reduceBEq, Int.reduceBNe, Int.reduceLT, Int.reduceLE, Int.reduceGT, Int.reduceGE, Int.reduceEq, Int.reduceAdd, Int.reduceSub, Int.reduceMul, Nat.reduceMul, Nat.reduceSub, Nat.reduceLeDiff, k_value_Word]; rfl) ?_
  refine WS_loopJ (fun q f w => WdI s 8 aw q f w ∧ f.get 7 = some (.int .i64 (Int.ofNat s.length))) (fun f w => f.get 0 = some (.str s) ∧ okAll 0 s = true ∧ w = aw) ?_ ?_ s.length ⟨⟨0, (by simp only [go_sem, eRun_exit, Nat.reduceAdd, Nat.reduceLT, Nat.reduceEqDiff, reduceIte, reduceCtorEq, Int.reduceBEq, Int.reduceBNe, Int.reduceLT, Int.reduceLE, Int.reduceGT, Int.reduceGE, Int.reduceEq, Int.reduceAdd, Int.reduceSub, Int.reduceMul, Nat.reduceMul, Nat.reduceSub, Nat.reduceLeDiff] <;> rfl), (by simp only [go_sem, eRun_exit, Nat.reduceAdd, Nat.reduceLT, Nat.reduceEqDiff, reduceIte, reduceCtorEq, Int.reduceBEq, Int.reduceBNe, Int.reduceLT, Int.reduceLE, Int.reduceGT, Int.reduceGE, Int.reduceEq, Int.reduceAdd, Int.reduceSub, Int.reduceMul, Nat.reduceMul, Nat.reduceSub, Nat.reduceLeDiff] <;> rfl), by omega, rfl, by simp [okAll], rfl⟩, (by simp only [go_sem, eRun_exit, Nat.reduceAdd, Nat.reduceLT, Nat.reduceEqDiff, reduceIte, reduceCtorEq, Int.reduceBEq, Int.reduceBNe, Int.reduceLT, Int.reduceLE, Int.reduceGT, Int.reduceGE, Int.reduceEq, Int.reduceAdd, Int.reduceSub, Int.reduceMul, Nat.reduceMul, Nat.reduceSub, Nat.reduceLeDiff] <;> rfl)⟩
  · rintro q f w ⟨⟨i, f0, f8, hi, rfl, hok, rfl⟩, f7⟩ ih exit
    by_cases hlt : i < s.length
    case neg =>
      rw [List.take_of_length_le (by omega)] at hok
      refine WS_runB 1000 (by simp only [go_sem, Nat.reduceAdd, Nat.reduceLT, Nat.reduceEqDiff, reduceIte, reduceCtorEq, Int.reduceBEq, Int.reduceBNe, Int.reduceLT, Int.reduceLE, Int.reduceGT, Int.reduceGE, Int.reduceEq, Int.reduceAdd, Int.reduceSub, Int.reduceMul, Nat.reduceMul, Nat.reduceSub, Nat.reduceLeDiff, k_value_Word_p1, f7, f8, hlt]; rfl) ?_
      exact exit _ _ _ ⟨(by simp only [go_sem, eRun_exit, Nat.reduceAdd, Nat.reduceLT, Nat.reduceEqDiff, reduceIte, reduceCtorEq, Int.reduceBEq, Int.reduceBNe, Int.reduceLT, Int.reduceLE, Int.reduceGT, Int.reduceGE, Int.reduceEq, Int.reduceAdd, Int.reduceSub, Int.reduceMul, Nat.reduceMul, Nat.reduceSub, Nat.reduceLeDiff, f0] <;> rfl), hok, rfl⟩ rfl
    obtain ⟨c, hc⟩ : ∃ c, s[i]? = some c := ⟨_, List.getElem?_eq_getElem hlt⟩
    have hwr : IntKind.wrap .i64 (Int.ofNat i + 1) = Int.ofNat (i + 1) := wrap_succ (by omega)
    have bad : okc i c = false → wordB s = false := fun hk => by
      have := okAll_bad (i := 0) hc (by rw [Nat.zero_add]; exact hk)
      simp only [wordB, this, Bool.false_and]
    by_cases a : 97 ≤ c
    · by_cases b : c ≤ 122
      · refine WS_run 1000 (by simp only [go_sem, eRun_exit, Nat.reduceAdd, Nat.reduceLT, Nat.reduceEqDiff, reduceIte, reduceCtorEq, Int.reduceBEq, Int.reduceBNe, Int.reduceLT, Int.reduceLE, Int.reduceGT, Int.reduceGE, Int.reduceEq, Int.reduceAdd, Int.reduceSub, Int.reduceMul, Nat.reduceMul, Nat.reduceSub, Nat.reduceLeDiff, k_value_Word_p1, k_value_Word_p0, f0, f7, f8, hlt, hc, hwr, a, b]; rfl) ?_
        exact ih (s.length - (i + 1)) _ _ (by omega) ⟨⟨i + 1, (by simp only [go_sem, eRun_exit, Nat.reduceAdd, Nat.reduceLT, Nat.reduceEqDiff, reduceIte, reduceCtorEq, Int.reduceBEq, Int.reduceBNe, Int.reduceLT, Int.reduceLE, Int.reduceGT, Int.reduceGE, Int.reduceEq, Int.reduceAdd, Int.reduceSub, Int.reduceMul, Nat.reduceMul, Nat.reduceSub, Nat.reduceLeDiff, f0] <;> rfl), (by simp only [go_sem, eRun_exit, Nat.reduceAdd, Nat.reduceLT, Nat.reduceEqDiff, reduceIte, reduceCtorEq, Int.reduceBEq, Int.reduceBNe, Int.reduceLT, Int.reduceLE, Int.reduceGT, Int.reduceGE, Int.reduceEq, Int.reduceAdd, Int.reduceSub, Int.reduceMul, Nat.reduceMul, Nat.reduceSub, Nat.reduceLeDiff] <;> rfl), by omega, rfl, take_ok hc hok (by simp [okc, a, b]), rfl⟩, (by simp only [go_sem, eRun_exit, Nat.reduceAdd, Nat.reduceLT, Nat.reduceEqDiff, reduceIte, reduceCtorEq, Int.reduceBEq, Int.reduceBNe, Int.reduceLT, Int.reduceLE, Int.reduceGT, Int.reduceGE, Int.reduceEq, Int.reduceAdd, Int.reduceSub, Int.reduceMul, Nat.reduceMul, Nat.reduceSub, Nat.reduceLeDiff, f7] <;> rfl)⟩
      · by_cases z : i = 0
        · subst z
          refine WS_run 1000 (by simp only [go_sem, eRun_exit, Nat.reduceAdd, Nat.reduceLT, Nat.reduceEqDiff, reduceIte, reduceCtorEq, Int.reduceBEq, Int.reduceBNe, Int.reduceLT, Int.reduceLE, Int.reduceGT, Int.reduceGE, Int.reduceEq, Int.reduceAdd, Int.reduceSub, Int.reduceMul, Nat.reduceMul, Nat.reduceSub, Nat.reduceLeDiff, k_value_Word_p1, k_value_Word_p0, f0, f7, f8, hlt, hc, hwr, a, b]; rfl) ?_
          rw [bad (by simp [okc, a, b])] at h
          refine WS_ret ⟨_, by simp only [go_sem, eRun_exit, Nat.reduceAdd, Nat.reduceLT, Nat.reduceEqDiff, reduceIte, reduceCtorEq, Int.reduceBEq, Int.reduceBNe, Int.reduceLT, Int.reduceLE, Int.reduceGT, Int.reduceGE, Int.reduceEq, Int.reduceAdd, Int.reduceSub, Int.reduceMul, Nat.reduceMul, Nat.reduceSub, Nat.reduceLeDiff, k_value_Word]; rfl, ?_⟩
          exact h
        · by_cases d : c < 48
          · have d9 : ¬ 48 ≤ c := by omega
            have n9 : c ≠ 95 := by omega
            refine WS_run 1000 (by simp only [go_sem, eRun_exit, Nat.reduceAdd, Nat.reduceLT, Nat.reduceEqDiff, reduceIte, reduceCtorEq, Int.reduceBEq, Int.reduceBNe, Int.reduceLT, Int.reduceLE, Int.reduceGT, Int.reduceGE, Int.reduceEq, Int.reduceAdd, Int.reduceSub, Int.reduceMul, Nat.reduceMul, Nat.reduceSub, Nat.reduceLeDiff, k_value_Word_p1, k_value_Word_p0, f0, f7, f8, hlt, hc, hwr, a, b, z, d, d9, n9]; rfl) ?_
            rw [bad (by simp [okc, a, b, z, d, d9, n9])] at h
            refine WS_ret ⟨_, by simp only [go_sem, eRun_exit, Nat.reduceAdd, Nat.reduceLT, Nat.reduceEqDiff, reduceIte, reduceCtorEq, Int.reduceBEq, Int.reduceBNe, Int.reduceLT, Int.reduceLE, Int.reduceGT, Int.reduceGE, Int.reduceEq, Int.reduceAdd, Int.reduceSub, Int.reduceMul, Nat.reduceMul, Nat.reduceSub, Nat.reduceLeDiff, k_value_Word]; rfl, ?_⟩
            exact h
          · have d9 : 48 ≤ c := by omega
            by_cases e : 57 < c
            · have e9 : ¬ c ≤ 57 := by omega
              by_cases n9 : c = 95
              · refine WS_run 1000 (by simp only [go_sem, eRun_exit, Nat.reduceAdd, Nat.reduceLT, Nat.reduceEqDiff, reduceIte, reduceCtorEq, Int.reduceBEq, Int.reduceBNe, Int.reduceLT, Int.reduceLE, Int.reduceGT, Int.reduceGE, Int.reduceEq, Int.reduceAdd, Int.reduceSub, Int.reduceMul, Nat.reduceMul, Nat.reduceSub, Nat.reduceLeDiff, k_value_Word_p1, k_value_Word_p0, f0, f7, f8, hlt, hc, hwr, a, b, z, d, d9, e, e9, n9]; rfl) ?_
                exact ih (s.length - (i + 1)) _ _ (by omega) ⟨⟨i + 1, (by simp only [go_sem, eRun_exit, Nat.reduceAdd, Nat.reduceLT, Nat.reduceEqDiff, reduceIte, reduceCtorEq, Int.reduceBEq, Int.reduceBNe, Int.reduceLT, Int.reduceLE, Int.reduceGT, Int.reduceGE, Int.reduceEq, Int.reduceAdd, Int.reduceSub, Int.reduceMul, Nat.reduceMul, Nat.reduceSub, Nat.reduceLeDiff, f0] <;> rfl), (by simp only [go_sem, eRun_exit, Nat.reduceAdd, Nat.reduceLT, Nat.reduceEqDiff, reduceIte, reduceCtorEq, Int.reduceBEq, Int.reduceBNe, Int.reduceLT, Int.reduceLE, Int.reduceGT, Int.reduceGE, Int.reduceEq, Int.reduceAdd, Int.reduceSub, Int.reduceMul, Nat.reduceMul, Nat.reduceSub, Nat.reduceLeDiff] <;> rfl), by omega, rfl, take_ok hc hok (by simp [okc, a, b, z, d, d9, e, e9, n9]), rfl⟩, (by simp only [go_sem, eRun_exit, Nat.reduceAdd, Nat.reduceLT, Nat.reduceEqDiff, reduceIte, reduceCtorEq, Int.reduceBEq, Int.reduceBNe, Int.reduceLT, Int.reduceLE, Int.reduceGT, Int.reduceGE, Int.reduceEq, Int.reduceAdd, Int.reduceSub, Int.reduceMul, Nat.reduceMul, Nat.reduceSub, Nat.reduceLeDiff, f7] <;> rfl)⟩
              · refine WS_run 1000 (by simp only [go_sem, eRun_exit, Nat.reduceAdd, Nat.reduceLT, Nat.reduceEqDiff, reduceIte, reduceCtorEq, Int.reduceBEq, Int.reduceBNe, Int.reduceLT, Int.reduceLE, Int.reduceGT, Int.reduceGE, Int.reduceEq, Int.reduceAdd, Int.reduceSub, Int.reduceMul, Nat.reduceMul, Nat.reduceSub, Nat.reduceLeDiff, k_value_Word_p1, k_value_Word_p0, f0, f7, f8, hlt, hc, hwr, a, b, z, d, d9, e, e9, n9]; rfl) ?_
                rw [bad (by simp [okc, a, b, z, d, d9, e, e9, n9])] at h
                refine WS_ret ⟨_, by simp only [go_sem, eRun_exit, Nat.reduceAdd, Nat.reduceLT, Nat.reduceEqDiff, reduceIte, reduceCtorEq, Int.reduceBEq, Int.reduceBNe, Int.reduceLT, Int.reduceLE, Int.reduceGT, Int.reduceGE, Int.reduceEq, Int.reduceAdd, Int.reduceSub, Int.reduceMul, Nat.reduceMul, Nat.reduceSub, Nat.reduceLeDiff, k_value_Word]; rfl, ?_⟩
                exact h
            · have e9 : c ≤ 57 := by omega
              refine WS_run 1000 (by simp only [go_sem, eRun_exit, Nat.reduceAdd, Nat.reduceLT, Nat.reduceEqDiff, reduceIte, reduceCtorEq, Int.reduceBEq, Int.reduceBNe, Int.reduceLT, Int.reduceLE, Int.reduceGT, Int.reduceGE, Int.reduceEq, Int.reduceAdd, Int.reduceSub, Int.reduceMul, Nat.reduceMul, Nat.reduceSub, Nat.reduceLeDiff, k_value_Word_p1, k_value_Word_p0, f0, f7, f8, hlt, hc, hwr, a, b, z, d, d9, e, e9]; rfl) ?_
              exact ih (s.length - (i + 1)) _ _ (by omega) ⟨⟨i + 1, (by simp only [go_sem, eRun_exit, Nat.reduceAdd, Nat.reduceLT, Nat.reduceEqDiff, reduceIte, reduceCtorEq, Int.reduceBEq, Int.reduceBNe, Int.reduceLT, Int.reduceLE, Int.reduceGT, Int.reduceGE, Int.reduceEq, Int.reduceAdd, Int.reduceSub, Int.reduceMul, Nat.reduceMul, Nat.reduceSub, Nat.reduceLeDiff, f0] <;> rfl), (by simp only [go_sem, eRun_exit, Nat.reduceAdd, Nat.reduceLT, Nat.reduceEqDiff, reduceIte, reduceCtorEq, Int.reduceBEq, Int.reduceBNe, Int.reduceLT, Int.reduceLE, Int.reduceGT, Int.reduceGE, Int.reduceEq, Int.reduceAdd, Int.reduceSub, Int.reduceMul, Nat.reduceMul, Nat.reduceSub, Nat.reduceLeDiff] <;> rfl), by omega, rfl, take_ok hc hok (by simp [okc, a, b, z, d, d9, e, e9]), rfl⟩, (by simp only [go_sem, eRun_exit, Nat.reduceAdd, Nat.reduceLT, Nat.reduceEqDiff, reduceIte, reduceCtorEq, Int.reduceBEq, Int.reduceBNe, Int.reduceLT, Int.reduceLE, Int.reduceGT, Int.reduceGE, Int.reduceEq, Int.reduceAdd, Int.reduceSub, Int.reduceMul, Nat.reduceMul, Nat.reduceSub, Nat.reduceLeDiff, f7] <;> rfl)⟩
    · by_cases z : i = 0
      · subst z
        refine WS_run 1000 (by simp only [go_sem, eRun_exit, Nat.reduceAdd, Nat.reduceLT, Nat.reduceEqDiff, reduceIte, reduceCtorEq, Int.reduceBEq, Int.reduceBNe, Int.reduceLT, Int.reduceLE, Int.reduceGT, Int.reduceGE, Int.reduceEq, Int.reduceAdd, Int.reduceSub, Int.reduceMul, Nat.reduceMul, Nat.reduceSub, Nat.reduceLeDiff, k_value_Word_p1, k_value_Word_p0, f0, f7, f8, hlt, hc, hwr, a]; rfl) ?_
        rw [bad (by simp [okc, a])] at h
        refine WS_ret ⟨_, by simp only [go_sem, eRun_exit, Nat.reduceAdd, Nat.reduceLT, Nat.reduceEqDiff, reduceIte, reduceCtorEq, Int.reduceBEq, Int.reduceBNe, Int.reduceLT, Int.reduceLE, Int.reduceGT, Int.reduceGE, Int.reduceEq, Int.reduceAdd, Int.reduceSub, Int.reduceMul, Nat.reduceMul, Nat.reduceSub, Nat.reduceLeDiff, k_value_Word]; rfl, ?_⟩
        exact h
      · by_cases d : c < 48
        · have d9 : ¬ 48 ≤ c := by omega
          have n9 : c ≠ 95 := by omega
          refine WS_run 1000 (by simp only [go_sem, eRun_exit, Nat.reduceAdd, Nat.reduceLT, Nat.reduceEqDiff, reduceIte, reduceCtorEq, Int.reduceBEq, Int.reduceBNe, Int.reduceLT, Int.reduceLE, Int.reduceGT, Int.reduceGE, Int.reduceEq, Int.reduceAdd, Int.reduceSub, Int.reduceMul, Nat.reduceMul, Nat.reduceSub, Nat.reduceLeDiff, k_value_Word_p1, k_value_Word_p0, f0, f7, f8, hlt, hc, hwr, a, z, d, d9, n9]; rfl) ?_
          rw [bad (by simp [okc, a, z, d, d9, n9])] at h
          refine WS_ret ⟨_, by simp only [go_sem, eRun_exit, Nat.reduceAdd, Nat.reduceLT, Nat.reduceEqDiff, reduceIte, reduceCtorEq, Int.reduceBEq, Int.reduceBNe, Int.reduceLT, Int.reduceLE, Int.reduceGT, Int.reduceGE, Int.reduceEq, Int.reduceAdd, Int.reduceSub, Int.reduceMul, Nat.reduceMul, Nat.reduceSub, Nat.reduceLeDiff, k_value_Word]; rfl, ?_⟩
          exact h
        · have d9 : 48 ≤ c := by omega
          by_cases e : 57 < c
          · have e9 : ¬ c ≤ 57 := by omega
            by_cases n9 : c = 95
            · refine WS_run 1000 (by simp only [go_sem, eRun_exit, Nat.reduceAdd, Nat.reduceLT, Nat.reduceEqDiff, reduceIte, reduceCtorEq, Int.reduceBEq, Int.reduceBNe, Int.reduceLT, Int.reduceLE, Int.reduceGT, Int.reduceGE, Int.reduceEq, Int.reduceAdd, Int.reduceSub, Int.reduceMul, Nat.reduceMul, Nat.reduceSub, Nat.reduceLeDiff, k_value_Word_p1, k_value_Word_p0, f0, f7, f8, hlt, hc, hwr, a, z, d, d9, e, e9, n9]; rfl) ?_
              exact ih (s.length - (i + 1)) _ _ (by omega) ⟨⟨i + 1, (by simp only [go_sem, eRun_exit, Nat.reduceAdd, Nat.reduceLT, Nat.reduceEqDiff, reduceIte, reduceCtorEq, Int.reduceBEq, Int.reduceBNe, Int.reduceLT, Int.reduceLE, Int.reduceGT, Int.reduceGE, Int.reduceEq, Int.reduceAdd, Int.reduceSub, Int.reduceMul, Nat.reduceMul, Nat.reduceSub, Nat.reduceLeDiff, f0] <;> rfl), (by simp only [go_sem, eRun_exit, Nat.reduceAdd, Nat.reduceLT, Nat.reduceEqDiff, reduceIte, reduceCtorEq, Int.reduceBEq, Int.reduceBNe, Int.reduceLT, Int.reduceLE, Int.reduceGT, Int.reduceGE, Int.reduceEq, Int.reduceAdd, Int.reduceSub, Int.reduceMul, Nat.reduceMul, Nat.reduceSub, Nat.reduceLeDiff] <;> rfl), by omega, rfl, take_ok hc hok (by simp [okc, a, z, d, d9, e, e9, n9]), rfl⟩, (by simp only [go_sem, eRun_exit, Nat.reduceAdd, Nat.reduceLT, Nat.reduceEqDiff, reduceIte, reduceCtorEq, Int.reduceBEq, Int.reduceBNe, Int.reduceLT, Int.reduceLE, Int.reduceGT, Int.reduceGE, Int.reduceEq, Int.reduceAdd, Int.reduceSub, Int.reduceMul, Nat.reduceMul, Nat.reduceSub, Nat.reduceLeDiff, f7] <;> rfl)⟩
            · refine WS_run 1000 (by simp only [go_sem, eRun_exit, Nat.reduceAdd, Nat.reduceLT, Nat.reduceEqDiff, reduceIte, reduceCtorEq, Int.reduceBEq, Int.reduceBNe, Int.reduceLT, Int.reduceLE, Int.reduceGT, Int.reduceGE, Int.reduceEq, Int.reduceAdd, Int.reduceSub, Int.reduceMul, Nat.reduceMul, Nat.reduceSub, Nat.reduceLeDiff, k_value_Word_p1, k_value_Word_p0, f0, f7, f8, hlt, hc, hwr, a, z, d, d9, e, e9, n9]; rfl) ?_
              rw [bad (by simp [okc, a, z, d, d9, e, e9, n9])] at h
              refine WS_ret ⟨_, by simp only [go_sem, eRun_exit, Nat.reduceAdd, Nat.reduceLT, Nat.reduceEqDiff, reduceIte, reduceCtorEq, Int.reduceBEq, Int.reduceBNe, Int.reduceLT, Int.reduceLE, Int.reduceGT, Int.reduceGE, Int.reduceEq, Int.reduceAdd, Int.reduceSub, Int.reduceMul, Nat.reduceMul, Nat.reduceSub, Nat.reduceLeDiff, k_value_Word]; rfl, ?_⟩
              exact h
          · have e9 : c ≤ 57 := by omega
            refine WS_run 1000 (by simp only [go_sem, eRun_exit, Nat.reduceAdd, Nat.reduceLT, Nat.reduceEqDiff, reduceIte, reduceCtorEq, Int.reduceBEq, Int.reduceBNe, Int.reduceLT, Int.reduceLE, Int.reduceGT, Int.reduceGE, Int.reduceEq, Int.reduceAdd, Int.reduceSub, Int.reduceMul, Nat.reduceMul, Nat.reduceSub, Nat.reduceLeDiff, k_value_Word_p1, k_value_Word_p0, f0, f7, f8, hlt, hc, hwr, a, z, d, d9, e, e9]; rfl) ?_
            exact ih (s.length - (i + 1)) _ _ (by omega) ⟨⟨i + 1, (by simp only [go_sem, eRun_exit, Nat.reduceAdd, Nat.reduceLT, Nat.reduceEqDiff, reduceIte, reduceCtorEq, Int.reduceBEq, Int.reduceBNe, Int.reduceLT, Int.reduceLE, Int.reduceGT, Int.reduceGE, Int.reduceEq, Int.reduceAdd, Int.reduceSub, Int.reduceMul, Nat.reduceMul, Nat.reduceSub, Nat.reduceLeDiff, f0] <;> rfl), (by simp only [go_sem, eRun_exit, Nat.reduceAdd, Nat.reduceLT, Nat.reduceEqDiff, reduceIte, reduceCtorEq, Int.reduceBEq, Int.reduceBNe, Int.reduceLT, Int.reduceLE, Int.reduceGT, Int.reduceGE, Int.reduceEq, Int.reduceAdd, Int.reduceSub, Int.reduceMul, Nat.reduceMul, Nat.reduceSub, Nat.reduceLeDiff] <;> rfl), by omega, rfl, take_ok hc hok (by simp [okc, a, z, d, d9, e, e9]), rfl⟩, (by simp only [go_sem, eRun_exit, Nat.reduceAdd, Nat.reduceLT, Nat.reduceEqDiff, reduceIte, reduceCtorEq, Int.reduceBEq, Int.reduceBNe, Int.reduceLT, Int.reduceLE, Int.reduceGT, Int.reduceGE, Int.reduceEq, Int.reduceAdd, Int.reduceSub, Int.reduceMul, Nat.reduceMul, Nat.reduceSub, Nat.reduceLeDiff, f7] <;> rfl)⟩
  · rintro f w ⟨f0, hok, rfl⟩
    cases s with
    | nil =>
      refine WS_run 1000 (by simp only [go_sem, eRun_exit, Nat.reduceAdd, Nat.reduceLT, Nat.reduceEqDiff, reduceIte, reduceCtorEq, Int.reduceBEq, Int.reduceBNe, Int.reduceLT, Int.reduceLE, Int.reduceGT, Int.reduceGE, Int.reduceEq, Int.reduceAdd, Int.reduceSub, Int.reduceMul, Nat.reduceMul, Nat.reduceSub, Nat.reduceLeDiff, f0]; rfl) ?_
      refine WS_ret ⟨_, by simp only [go_sem, eRun_exit, Nat.reduceAdd, Nat.reduceLT, Nat.reduceEqDiff, reduceIte, reduceCtorEq, Int.reduceBEq, Int.reduceBNe, Int.reduceLT, Int.reduceLE, Int.reduceGT, Int.reduceGE, Int.reduceEq, Int.reduceAdd, Int.reduceSub, Int.reduceMul, Nat.reduceMul, Nat.reduceSub, Nat.reduceLeDiff, k_value_Word]; rfl, ?_⟩
      exact h
    | cons x t =>
      refine WS_run 1000 (by simp only [go_sem, eRun_exit, Nat.reduceAdd, Nat.reduceLT, Nat.reduceEqDiff, reduceIte, reduceCtorEq, Int.reduceBEq, Int.reduceBNe, Int.reduceLT, Int.reduceLE, Int.reduceGT, Int.reduceGE, Int.reduceEq, Int.reduceAdd, Int.reduceSub, Int.reduceMul, Nat.reduceMul, Nat.reduceSub, Nat.reduceLeDiff, f0]; rfl) ?_
      refine WS_ret ⟨_, by simp only [go_sem, eRun_exit, Nat.reduceAdd, Nat.reduceLT, Nat.reduceEqDiff, reduceIte, reduceCtorEq, Int.reduceBEq, Int.reduceBNe, Int.reduceLT, Int.reduceLE, Int.reduceGT, Int.reduceGE, Int.reduceEq, Int.reduceAdd, Int.reduceSub, Int.reduceMul, Nat.reduceMul, Nat.reduceSub, Nat.reduceLeDiff, k_value_Word]; rfl, ?_⟩
      rw [show wordB (x :: t) = decide ((x :: t).length ≤ 16) by simp [wordB, hok]] at h
      exact h
end Go.Proofs.YtjidefnbancmfaaDoor
