/- A part of the proof: W4, W5, W6, Ae34, W7, PSyn1, PSyn2, PSyn3, PSyn4, PSyn5, PSyn6, PSyn7, XSyn2, PSyn8, W8, PChk1, PChk2. -/
import Derived.Test.YtjidefnbancmfaaKvF
set_option linter.unusedVariables false
set_option linter.unusedSimpArgs false
namespace Go.AE
/-- all of what was there is as it was, but what is in S. -/
structure Frm (S : Nat → Prop) (w w' : AW) : Prop where
  next : w.next ≤ w'.next
  heap : ∀ b, b < w.next → ¬ S b → w'.heap.get b = w.heap.get b
  fams : ∀ b, b < w.next → ¬ S b → w'.fams.get b = w.fams.get b
theorem Frm.refl {S : Nat → Prop} (w : AW) : Frm S w w := ⟨Nat.le_refl _, fun _ _ _ => rfl, fun _ _ _ => rfl⟩
theorem Frm.trans {S T U : Nat → Prop} {a b c : AW} (h : Frm S a b) (h' : Frm T b c) (hs : ∀ x, x < a.next → S x → U x) (ht : ∀ x, x < a.next → T x → U x) : Frm U a c :=
  ⟨Nat.le_trans h.next h'.next, fun k hk hu => (h'.heap k (Nat.lt_of_lt_of_le hk h.next) fun x => hu (ht k hk x)).trans (h.heap k hk fun x => hu (hs k hk x)),
   fun k hk hu => (h'.fams k (Nat.lt_of_lt_of_le hk h.next) fun x => hu (ht k hk x)).trans (h.fams k hk fun x => hu (hs k hk x))⟩
theorem Frm.mono {S T : Nat → Prop} {a b : AW} (h : Frm S a b) (hs : ∀ x, x < a.next → S x → T x) : Frm T a b := ⟨h.next, fun k hk hu => h.heap k hk fun x => hu (hs k hk x), fun k hk hu => h.fams k hk fun x => hu (hs k hk x)⟩
theorem Frm.new {S : Nat → Prop} (w : AW) (x : Blk) : Frm S w (w.new x) := ⟨Nat.le_succ _, fun b hb _ => T.get_put_ne (by omega), fun _ _ _ => rfl⟩
theorem Ext.frm {N : Nat} {w w' : AW} (h : Ext N w w') {S : Nat → Prop} (hs : ∀ x, x < w.next → N ≤ x → S x) : Frm S w w' :=
  ⟨h.next, fun b hb hn => h.heap b (Nat.lt_of_not_le fun x => hn (hs b hb x)), fun b hb hn => h.fams b (Nat.lt_of_not_le fun x => hn (hs b hb x))⟩
theorem Frm.ext {N : Nat} {w w' : AW} {S : Nat → Prop} (h : Frm S w w') (hN : N ≤ w.next) (hs : ∀ x, S x → N ≤ x) : Ext N w w' :=
  ⟨hN, h.next, fun b hb => h.heap b (by omega) fun x => by have := hs b x; omega, fun b hb => h.fams b (by omega) fun x => by have := hs b x; omega⟩
/-- a footprint that took in what is new, and no more. -/
def Grown (S S' : Nat → Prop) (w w' : AW) : Prop := ∀ b, S' b → b < w'.next ∧ (S b ∨ w.next ≤ b)
def Shr (S : Nat → Prop) (w : AW) (b : Nat) (sh : Share) : Prop :=
  sh = .own ∨ sh = .lax ∨ ∃ f F, sh = .fam f ∧ S f ∧ f < w.next ∧ w.fams.get f = some F ∧ F.last = b ∧ F.floor ≤ w.next ∧ w.alive b sh = true
theorem Shr.alive {S : Nat → Prop} {w : AW} {b : Nat} {sh : Share} (h : Shr S w b sh) : w.alive b sh = true := by
  rcases h with rfl | rfl | ⟨f, F, rfl, h1, h2, h3, h4, h6, h5⟩
  · rfl
  · rfl
  · exact h5
theorem Shr.mono {S S' : Nat → Prop} {w : AW} {b : Nat} {sh : Share} (h : Shr S w b sh) (hs : ∀ x, S x → S' x) : Shr S' w b sh := by
  rcases h with rfl | rfl | ⟨f, F, rfl, h1, h2⟩
  · exact .inl rfl
  · exact .inr (.inl rfl)
  · exact .inr (.inr ⟨f, F, rfl, hs _ h1, h2⟩)
theorem Shr.frm {S T : Nat → Prop} {w w' : AW} {b : Nat} {sh : Share} (h : Shr S w b sh) (hf : Frm T w w') (hd : ∀ x, S x → ¬ T x) : Shr S w' b sh := by
  rcases h with rfl | rfl | ⟨f, F, rfl, h1, h2, h3, h4, h6, h5⟩
  · exact .inl rfl
  · exact .inr (.inl rfl)
  · have e := hf.fams f h2 (hd f h1)
    refine .inr (.inr ⟨f, F, rfl, h1, Nat.lt_of_lt_of_le h2 hf.next, e.trans h3, h4, Nat.le_trans h6 hf.next, ?_⟩)
    simp only [AW.alive, h3, e.trans h3] at h5 ⊢
    exact h5
/-- a slice of one's own: its elements' cells; behind them what its block still has room for. -/
inductive Buf (S : Nat → Prop) (w : AW) : V → Nat → Nat → List V → Prop
  | nil {esz : Nat} : Buf S w .nilslice esz 0 []
  | blk {b n esz r : Nat} {cs rest : List V} {sh : Share} (hS : S b) (hb : b < w.next) (hx : w.heap.get b = some (.cells (cs ++ rest) sh)) (hl : cs.length = n * esz) (hr : rest.length = r * esz) (he : 0 < esz) (hn : 0 < n + r) (hs : Shr S w b sh) :
      Buf S w (.slice b 0 n (.upTo esz)) esz n cs
theorem Buf.mono {S S' : Nat → Prop} {w : AW} {v : V} {esz n : Nat} {cs : List V} (h : Buf S w v esz n cs) (hs : ∀ x, S x → S' x) : Buf S' w v esz n cs := by
  cases h with
  | nil => exact .nil
  | blk hS hb hx hl hr he hn hsh => exact .blk (hs _ hS) hb hx hl hr he hn (hsh.mono hs)
theorem Buf.frm {S T : Nat → Prop} {w w' : AW} {v : V} {esz n : Nat} {cs : List V} (h : Buf S w v esz n cs) (hf : Frm T w w') (hd : ∀ x, S x → ¬ T x) : Buf S w' v esz n cs := by
  cases h with
  | nil => exact .nil
  | blk hS hb hx hl hr he hn hsh => exact .blk hS (Nat.lt_of_lt_of_le hb hf.next) ((hf.heap _ hb (hd _ hS)).trans hx) hl hr he hn (hsh.frm hf hd)
theorem Buf.len {S : Nat → Prop} {w : AW} {v : V} {esz n : Nat} {cs : List V} (h : Buf S w v esz n cs) : cs.length = n * esz := by
  cases h with
  | nil => simp
  | blk hS hb hx hl hr he hn hsh => exact hl
theorem Buf.inv {S : Nat → Prop} {w : AW} {v : V} {esz n : Nat} {cs : List V} (h : Buf S w v esz n cs) : (v = .nilslice ∧ n = 0 ∧ cs = []) ∨ ∃ b, v = .slice b 0 n (.upTo esz) ∧ S b ∧ b < w.next := by
  cases h with
  | nil => exact .inl ⟨rfl, rfl, rfl⟩
  | blk hS hb hx hl hr he hn hsh => exact .inr ⟨_, rfl, hS, hb⟩
theorem Buf.load {S : Nat → Prop} {w : AW} {b n esz : Nat} {c : Cap} {cs : List V} (h : Buf S w (.slice b 0 n c) esz n cs) {o k : Nat} (hk : o + k ≤ cs.length) : w.load b o k = some ((cs.drop o).take k) := by
  cases h with
  | blk hS hb hx hl hr he hn hsh =>
    simp only [AW.load, hx, hsh.alive]
    rw [takeN_some _ _ (by simp; omega), List.drop_append_of_le_length (by omega), List.take_append_of_le_length (by simp; omega)]
theorem over_mid : ∀ (a b c d : List V), d.length = b.length → over (a ++ b ++ c) a.length d = some (a ++ d ++ c)
  | [], b, c, d, h => by
    have : ∀ (b d : List V), d.length = b.length → over (b ++ c) 0 d = some (d ++ c) := by
      intro b
      induction b with
      | nil => intro d h; cases d with
        | nil => cases hc : c <;> rfl
        | cons x d => simp at h
      | cons y b ih => intro d h; cases d with
        | nil => simp at h
        | cons x d => simp only [List.cons_append, over, ih d (by simpa using h)]
    simpa using this b d h
  | x :: a, b, c, d, h => by
    have := over_mid a b c d h
    simp only [List.cons_append, List.length_cons, over, this]
theorem turn_frm {S : Nat → Prop} {w : AW} {b : Nat} {l : List V} {sh : Share} (hS : S b) (hs : Shr S w b sh) : Frm S w (w.turn b (.cells l sh)) := by
  refine ⟨Nat.le_refl _, fun c hc hn => T.get_put_ne fun e => hn (e ▸ hS), fun c hc hn => ?_⟩
  rcases hs with rfl | rfl | ⟨f, F, rfl, h1, h2⟩
  · rfl
  · rfl
  · exact T.get_put_ne fun e => hn (e ▸ h1)
theorem turn_shr {S : Nat → Prop} {w : AW} {b : Nat} {l : List V} {sh : Share} (hb : b < w.next) (hs : Shr S w b sh) : Shr S (w.turn b (.cells l sh)) b sh := by
  rcases hs with rfl | rfl | ⟨f, F, rfl, h1, h2, h3⟩
  · exact .inl rfl
  · exact .inr (.inl rfl)
  · have e : (w.turn b (.cells l (.fam f))).fams.get f = some ⟨b, w.next, b⟩ := T.get_put_same
    exact .inr (.inr ⟨f, _, rfl, h1, h2, e, rfl, Nat.le_refl _, by simp only [AW.alive, e, Nat.beq_refl, Bool.true_or]⟩)
theorem store_shr {S : Nat → Prop} {w : AW} {b o : Nat} {l l' vs : List V} {sh : Share} (hx : w.heap.get b = some (.cells l sh)) (hs : Shr S w b sh) (h1 : allOne vs = true) (ho : over l o vs = some l') : w.store b o vs = some (w.turn b (.cells l' sh)) := by
  have ha := hs.alive
  rcases hs with rfl | rfl | ⟨f, F, rfl, _⟩ <;> simp only [AW.store, hx, ha, h1, ho]
/-- one more element. -/
theorem Buf.add {S : Nat → Prop} {w : AW} {v : V} {esz n bytes : Nat} {cs news : List V} (h : Buf S w v esz n cs) (he : 0 < esz) (hl : news.length = esz) (h1 : allOne news = true) (hb : (n + 1) * bytes ≤ 70368744177664) (hb' : n + 1 ≤ 70368744177664) :
    ∃ v' w' S', w.appendV esz bytes v 1 news = some (v', w') ∧ Buf S' w' v' esz (n + 1) (cs ++ news) ∧ Frm S w w' ∧ Grown S S' w w' := by
  have hcl := h.len
  cases h with
  | nil =>
    refine ⟨.slice w.next 0 1 (.upTo esz), w.fresh news, fun b => b = w.next, ?_, ?_, Frm.new _ _, ?_⟩
    · simp only [AW.appendV]; rw [if_pos ⟨by simpa using hb, by omega⟩]
    · exact .blk (r := 0) (rest := []) rfl (Nat.lt_succ_self _) (by rw [List.append_nil]; exact T.get_put_same) (by simpa using hl) (by simp) he (by omega) (.inl rfl)
    · rintro b rfl; exact ⟨Nat.lt_succ_self _, .inr (Nat.le_refl _)⟩
  | @blk b _ _ r _ rest sh hS hbw hx hlen hr he' hn hs =>
    have happ : w.appendV esz bytes (.slice b 0 n (.upTo esz)) 1 news = w.appendUp esz b 0 n 1 news := if_pos ⟨rfl, hb, hb', h1, he⟩
    rw [happ]
    cases r with
    | succ r =>
      -- room behind it
      have hne : Nat.beq (0 + n * esz) (cs ++ rest).length = false := by
        rw [natBeq, decide_eq_false_iff_not, List.length_append, hlen, hr, Nat.add_mul, Nat.one_mul]; omega
      have hfit : Nat.ble (0 + (n + 1) * esz) (cs ++ rest).length = true := by
        rw [natBle, decide_eq_true_eq, List.length_append, hlen, hr, Nat.add_mul, Nat.add_mul, Nat.one_mul]; omega
      obtain ⟨r1, r2, rfl, hr1⟩ : ∃ r1 r2, rest = r1 ++ r2 ∧ r1.length = esz := ⟨rest.take esz, rest.drop esz, (List.take_append_drop _ _).symm, by rw [List.length_take, hr, Nat.add_mul, Nat.one_mul]; omega⟩
      have hov : over (cs ++ (r1 ++ r2)) (0 + n * esz) news = some (cs ++ news ++ r2) := by
        rw [← List.append_assoc, Nat.zero_add, ← hlen]; exact over_mid _ _ _ _ (by omega)
      refine ⟨.slice b 0 (n + 1) (.upTo esz), w.turn b (.cells (cs ++ news ++ r2) sh), fun x => S x ∧ x < w.next, ?_, ?_, turn_frm hS hs, ?_⟩
      · simp only [AW.appendUp, hx, hne, hfit, store_shr hx hs h1 hov]
      · refine .blk (r := r) ⟨hS, hbw⟩ hbw T.get_put_same (by rw [List.length_append, hlen, hl, Nat.add_mul, Nat.one_mul]) ?_ he (by omega) ?_
        · rw [List.length_append, hr1, Nat.add_mul, Nat.one_mul] at hr; omega
        · rcases turn_shr (l := cs ++ news ++ r2) hbw hs with rfl | rfl | ⟨f, F, rfl, q1, q2, q3⟩
          · exact .inl rfl
          · exact .inr (.inl rfl)
          · exact .inr (.inr ⟨f, F, rfl, ⟨q1, q2⟩, q2, q3⟩)
      · rintro x ⟨q1, q2⟩; exact ⟨q2, .inl q1⟩
    | zero =>
      have hr0 : rest = [] := List.length_eq_zero_iff.1 (by simpa using hr)
      subst hr0
      rw [List.append_nil] at hx
      have hbeq : Nat.beq (0 + n * esz) cs.length = true := by rw [Nat.zero_add, hlen, Nat.beq_refl]
      have fam : ∀ (u : AW) (f : Nat) (F : Fam), w.next ≤ u.next → Frm S w u → u.heap.get b = some (.cells cs (.fam f)) → (S f ∨ w.next ≤ f) → f < u.next → b < u.next → u.fams.get f = some F → F.last = b → F.floor ≤ u.next → u.alive b (.fam f) = true →
          ∃ v' w' S', u.appendFam esz b 0 n 1 news = some (v', w') ∧ Buf S' w' v' esz (n + 1) (cs ++ news) ∧ Frm S w w' ∧ Grown S S' w w' := by
        intro u f F hle hfu hx hSf hfl hbu hF hlast hflo hal
        refine ⟨.slice u.next 0 (n + 1) (.upTo esz), u.grow b f F (cs.drop 0 ++ news), fun x => x = u.next ∨ x = f, ?_, ?_, ?_, ?_⟩
        · simp only [AW.appendFam, hx, hal, hF, hbeq]
        · have hg : (u.grow b f F (cs.drop 0 ++ news)).fams.get f = some ⟨F.keep, F.floor, u.next⟩ := by
            simp only [AW.grow, T.get_putk, if_true, hlast, Nat.beq_refl]
          refine .blk (r := 0) (rest := []) (sh := .fam f) (.inl rfl) (Nat.lt_succ_self _) ?_ ?_ (by simp) he (by omega) (.inr (.inr ⟨f, ⟨F.keep, F.floor, u.next⟩, rfl, .inr rfl, Nat.lt_succ_of_lt hfl, hg, rfl, Nat.le_succ_of_le hflo, ?_⟩))
          · simp only [AW.grow, T.get_putk, if_true, List.drop_zero, List.append_nil]
          · rw [List.length_append, hlen, hl, Nat.add_mul, Nat.one_mul]
          · simp only [AW.alive, hg, Bool.or_eq_true]
            exact .inr (Nat.ble_eq_true_of_le hflo)
        · refine hfu.trans (T := fun x => x = f ∨ u.next ≤ x) ⟨Nat.le_succ _, fun c hc hn => T.get_put_ne (by omega), fun c hc hn => T.get_put_ne fun e => hn (.inl e)⟩ (fun x hx h => h) ?_
          rintro x hx (rfl | h)
          · rcases hSf with h | h
            · exact h
            · omega
          · omega
        · rintro x (rfl | rfl)
          · exact ⟨Nat.lt_succ_self _, .inr hle⟩
          · exact ⟨Nat.lt_succ_of_lt hfl, hSf⟩
      have fnd : sh = .own ∨ sh = .lax → ∃ v' w' S', (w.found b cs).appendFam esz b 0 n 1 news = some (v', w') ∧ Buf S' w' v' esz (n + 1) (cs ++ news) ∧ Frm S w w' ∧ Grown S S' w w' := by
        intro _
        refine fam (w.found b cs) w.next ⟨b, w.next + 1, b⟩ (Nat.le_succ _) ⟨Nat.le_succ _, fun c hc hn => T.get_put_ne fun e => hn (e ▸ hS), fun c hc hn => T.get_put_ne (by omega)⟩ T.get_put_same (.inr (Nat.le_refl _)) (Nat.lt_succ_self _) (Nat.lt_succ_of_lt hbw) T.get_put_same rfl (Nat.le_refl _) ?_
        simp only [AW.alive, AW.found, T.get_putk, if_true, Nat.beq_refl, Bool.true_or]
      simp only [AW.appendUp, hx, hbeq, List.append_nil]
      rcases hs with rfl | rfl | ⟨f, F, rfl, g1, g2, g3, g4, g6, g5⟩
      · exact fnd (.inl rfl)
      · exact fnd (.inr rfl)
      · exact fam w f F (Nat.le_refl _) (Frm.refl _) hx (.inl g1) g2 hbw g3 g4 g6 g5
/-- one more element that was just built. -/
theorem Buf.push {S : Nat → Prop} {w : AW} {v : V} {esz n bytes : Nat} {cs news : List V} (h : Buf S w v esz n cs) (hS : ∀ b, S b → b < w.next) (he : 0 < esz) (hl : news.length = esz) (h1 : allOne news = true) (hb : (n + 1) * bytes ≤ 70368744177664) (hb' : n + 1 ≤ 70368744177664) :
    ∃ v' w' S', (w.fresh news).appendV esz bytes v 1 news = some (v', w') ∧ Buf S' w' v' esz (n + 1) (cs ++ news) ∧ Frm S w w' ∧ Grown S S' w w' := by
  have hx : Frm (fun _ => False) w (w.fresh news) := Frm.new _ _
  obtain ⟨v', w', S', h2, h3, h4, h5⟩ := (h.frm hx fun _ _ h => h).add (news := news) (bytes := bytes) he hl h1 hb hb'
  refine ⟨v', w', S', h2, h3, hx.trans h4 (fun _ _ h => h.elim) fun _ _ h => h, fun b hb => ?_⟩
  obtain ⟨q1, q2⟩ := h5 b hb
  exact ⟨q1, q2.imp id fun h => Nat.le_trans hx.next h⟩
/-- one put in ahead of the i-th. -/
theorem Buf.insert {S : Nat → Prop} {w : AW} {b n bytes i bv : Nat} {cs : List V} {x : V} (h : Buf S w (.slice b 0 n (.upTo 1)) 1 n cs) (hi : i < n) (hv : w.heap.get bv = some (.cells [x] .own)) (hne : bv ≠ b) (h1 : x.one = true) (h2 : allOne cs = true) (hb : (n + 1) * bytes ≤ 70368744177664) (hb' : n + 1 ≤ 70368744177664) {k : Nat} :
    ∃ v' w' S', insPrim bytes [.slice b 0 n (.upTo 1), .int .i64 (.ofNat i), .slice bv 0 1 (.known k)] w = some (v', w') ∧ Buf S' w' v' 1 (n + 1) (cs.take i ++ [x] ++ cs.drop i) ∧ Frm S w w' ∧ Grown S S' w w' := by
  have hcl := h.len
  rw [Nat.mul_one] at hcl
  have hld := h.load (o := 0) (k := n) (by omega)
  rw [List.drop_zero, List.take_of_length_le (by omega)] at hld
  have hvl : w.load bv 0 1 = some [x] := by simp only [AW.load, hv, AW.alive, List.drop_zero, takeN]
  have hbv : Nat.beq bv b = false := by rw [natBeq, decide_eq_false hne]
  have hone : allOne [x] = true := by simp [allOne, h1]
  cases h with
  | @blk _ _ _ r _ rest sh hS hbw hx hlen hr he' hn hs =>
    have fam : ∀ (u : AW) (f : Nat), w.next ≤ u.next → Frm S w u → u.heap.get b = some (.cells (cs ++ rest) (.fam f)) → (S f ∨ w.next ≤ f) → f < u.next →
        ∃ v' w' S', u.insFam b n 1 (cs.take i ++ [x] ++ cs.drop i) = some (v', w') ∧ Buf S' w' v' 1 (n + 1) (cs.take i ++ [x] ++ cs.drop i) ∧ Frm S w w' ∧ Grown S S' w w' := by
      intro u f hle hfu hx hSf hfl
      refine ⟨.slice u.next 0 (n + 1) (.upTo 1), u.reborn f (cs.take i ++ [x] ++ cs.drop i), fun x => x = u.next, ?_, ?_, ?_, ?_⟩
      · simp only [AW.insFam, hx]
      · refine .blk (r := 0) (rest := []) (sh := .lax) rfl (Nat.lt_succ_self _) (by rw [List.append_nil]; exact T.get_put_same) ?_ (by simp) (by omega) (by omega) (.inr (.inl rfl))
        simp only [List.length_append, List.length_take, List.length_drop, List.length_cons, List.length_nil]; omega
      · refine hfu.trans (T := fun x => x = f ∨ u.next ≤ x) ⟨Nat.le_succ _, fun c hc hn => T.get_put_ne (by omega), fun c hc hn => T.get_put_ne fun e => hn (.inl e)⟩ (fun x hx h => h) ?_
        rintro x hx (rfl | h)
        · rcases hSf with h | h
          · exact h
          · omega
        · omega
      · rintro x rfl
        exact ⟨Nat.lt_succ_self _, .inr hle⟩
    have fnd : (w.found b (cs ++ rest)).alive b (.fam w.next) = true ∧ ∃ v' w' S', (w.found b (cs ++ rest)).insFam b n 1 (cs.take i ++ [x] ++ cs.drop i) = some (v', w') ∧ Buf S' w' v' 1 (n + 1) (cs.take i ++ [x] ++ cs.drop i) ∧ Frm S w w' ∧ Grown S S' w w' :=
      ⟨by simp only [AW.alive, AW.found, T.get_putk, if_true, Nat.beq_refl, Bool.true_or],
        fam _ w.next (Nat.le_succ _) ⟨Nat.le_succ _, fun c hc hn => T.get_put_ne fun e => hn (e ▸ hS), fun c hc hn => T.get_put_ne (by omega)⟩ T.get_put_same (.inr (Nat.le_refl _)) (Nat.lt_succ_self _)⟩
    have e1 : Nat.blt i n = true := by rw [natBlt, decide_eq_true hi]
    have e2 : Nat.blt 0 1 = true := rfl
    have e3 : Nat.ble ((n + 1) * bytes) 70368744177664 = true := Nat.ble_eq_true_of_le hb
    have e4 : Nat.ble (n + 1) 70368744177664 = true := Nat.ble_eq_true_of_le hb'
    rcases hs with rfl | rfl | ⟨f, F, rfl, g1, g2, g3, g4, g6, g5⟩
    · simp only [insPrim, e1, e2, e3, e4, hbv, hv, hvl, hld, hone, h2, hx, fnd.1]; exact fnd.2
    · simp only [insPrim, e1, e2, e3, e4, hbv, hv, hvl, hld, hone, h2, hx, fnd.1]; exact fnd.2
    · simp only [insPrim, e1, e2, e3, e4, hbv, hv, hvl, hld, hone, h2, hx]; exact fam w f (Nat.le_refl _) (Frm.refl _) hx (.inl g1) g2
end Go.AE

set_option linter.unusedVariables false
set_option linter.unusedSimpArgs false
namespace Go.AE
section
variable {tab : Tab}
/-- how one stood, found in the middle of a region. -/
def mkStp (fr : Fr) (hide : List Nat) (v : V) (a b : AW) : Stp := ⟨hideL fr hide, v, a, b⟩
theorem mkStp_fe {fr : Fr} {hide : List Nat} {v : V} {a b : AW} : (mkStp fr hide v a b).fe = hideL fr hide := rfl
theorem mkStp_v {fr : Fr} {hide : List Nat} {v : V} {a b : AW} : (mkStp fr hide v a b).v = v := rfl
theorem mkStp_0 {fr : Fr} {hide : List Nat} {v : V} {a b : AW} : (mkStp fr hide v a b).aw0 = a := rfl
theorem mkStp_1 {fr : Fr} {hide : List Nat} {v : V} {a b : AW} : (mkStp fr hide v a b).aw1 = b := rfl
theorem pass_at {l : List DOper} {fr : Fr} {aw : AW} {st : List Stp} {fr' : Fr} {aw' : AW} (h : Pass tab l fr aw st fr' aw') : ∀ {i : Nat} {d : DOper} {s : Stp}, l[i]? = some d → st[i]? = some s → OneAt d s := by
  induction l generalizing fr aw st with
  | nil => intro i d s hd; simp at hd
  | cons x l ih =>
    intro i d s hd hs
    cases h
    rename_i h1 h2
    cases i with
    | succ i => exact ih h2 (by simpa using hd) (by simpa using hs)
    | zero =>
      simp at hd hs
      subst hd; subst hs
      cases h1 with
      | pass hw => exact .inl hw
      | val hw ha => exact .inr ⟨hw, fun _ => ⟨_, ha⟩⟩
      | skip hw ha => exact .inr ⟨hw, fun hq => by obtain ⟨_, v, h⟩ := quiet_ok hq ha; cases h⟩
      | call hw ha hc => exact .inr ⟨hw, fun hq => by obtain ⟨_, v, h⟩ := quiet_ok hq ha; cases h⟩
      | ext hw ha hc => exact .inr ⟨hw, fun hq => by obtain ⟨_, v, h⟩ := quiet_ok hq ha; cases h⟩
theorem drawnOK_of {l : List DOper} {fr : Fr} {aw : AW} {st : List Stp} {fr' : Fr} {aw' : AW} (h : Pass tab l fr aw st fr' aw') (hc : chkAll l st (pairs l)) : drawnOK l st = true := drawnOK_at h.len (fun i d s => pass_at h) hc
/-- the rest of a region, with what came ahead. -/
def WDs (tab : Tab) (l : List DOper) (fr : Fr) (aw : AW) (acc : List Stp) (K : List Stp → Fr → AW → Prop) : Prop := WD tab l fr aw fun st f a => K (acc.reverse ++ st) f a
theorem WDs_nil {fr : Fr} {aw : AW} {acc : List Stp} {K : List Stp → Fr → AW → Prop} (h : K acc.reverse fr aw) : WDs tab [] fr aw acc K := by
  unfold WDs; rw [WD_nil, List.append_nil]; exact h
theorem WDs_acc {l : List DOper} {fr : Fr} {aw : AW} {acc : List Stp} {s : Stp} {K : List Stp → Fr → AW → Prop} (h : WDs tab l fr aw (s :: acc) K) : WD tab l fr aw (fun st f a => K (acc.reverse ++ s :: st) f a) := by
  unfold WDs at h
  simpa using h
theorem WDs_val {d : DOper} {l : List DOper} {fr : Fr} {aw aw1 : AW} {acc : List Stp} {v : V} {K : List Stp → Fr → AW → Prop} (hw : wanted (hideL fr d.hide) d.op.guard = some true) (ha : aop d.op.op (hideL fr d.hide) aw = some (.val v, aw1))
    (h : WDs tab l (putO fr d.op.dst v) aw1 (mkStp fr d.hide v aw aw1 :: acc) K) : WDs tab (d :: l) fr aw acc K := by
  unfold WDs; rw [WD_cons, W1_eq, hw, ha]; exact WDs_acc h
theorem WDs_eff {d : DOper} {l : List DOper} {fr : Fr} {aw aw1 : AW} {acc : List Stp} {K : List Stp → Fr → AW → Prop} (hw : wanted (hideL fr d.hide) d.op.guard = some true) (ha : aop d.op.op (hideL fr d.hide) aw = some (.skip, aw1))
    (h : WDs tab l (putO fr d.op.dst .undef) aw1 (mkStp fr d.hide .undef aw aw1 :: acc) K) : WDs tab (d :: l) fr aw acc K := by
  unfold WDs; rw [WD_cons, W1_eq, hw, ha]; exact WDs_acc h
theorem WDs_pass {d : DOper} {l : List DOper} {fr : Fr} {aw : AW} {acc : List Stp} {K : List Stp → Fr → AW → Prop} (hw : wanted (hideL fr d.hide) d.op.guard = some false)
    (h : WDs tab l (putO fr d.op.dst .undef) aw (mkStp fr d.hide .undef aw aw :: acc) K) : WDs tab (d :: l) fr aw acc K := by
  unfold WDs; rw [WD_cons, W1_eq, hw]; exact WDs_acc h
theorem WDs_call {d : DOper} {l : List DOper} {fr : Fr} {aw aw1 : AW} {acc : List Stp} {f : Nat} {args : List V} {K : List Stp → Fr → AW → Prop} (hw : wanted (hideL fr d.hide) d.op.guard = some true) (ha : aop d.op.op (hideL fr d.hide) aw = some (.call f args, aw1))
    (h : WF tab f args aw1 (fun v a => WDs tab l (putO fr d.op.dst v) a (mkStp fr d.hide v aw a :: acc) K)) : WDs tab (d :: l) fr aw acc K := by
  unfold WDs; rw [WD_cons, W1_eq, hw, ha]
  exact .inl (h.mono fun v a h => WDs_acc h)
/-- into a region. -/
theorem WS_drawn {l : List DOper} {s : List SI} {fr : Fr} {aw : AW} {Q : Fr → AW → Prop} (h : WDs tab l fr aw [] (fun st f a => chkAll l st (pairs l) ∧ WS tab s f a Q)) : WS tab (.code (.drawn l) :: s) fr aw Q := by
  show WX tab (.drawn l) fr aw _
  rw [WX_drawn]
  obtain ⟨st, f, a, h1, h2, h3⟩ := h
  exact ⟨st, f, a, h1, drawnOK_of h1 h2, h3⟩
inductive DS where
  | on (l : List DOper) (fr : Fr) (aw : AW) (acc : List Stp)
/-- as far as nothing is open. -/
def dRun0 : Nat → List DOper → Fr → AW → List Stp → DS
  | 0, l, fr, aw, acc => .on l fr aw acc
  | n + 1, [], fr, aw, acc => .on [] fr aw acc
  | n + 1, d :: l, fr, aw, acc => match wanted (hideL fr d.hide) d.op.guard with
    | some true => match aop d.op.op (hideL fr d.hide) aw with
      | some (.val v, aw1) => dRun0 n l (putO fr d.op.dst v) aw1 (mkStp fr d.hide v aw aw1 :: acc)
      | some (.skip, aw1) => dRun0 n l (putO fr d.op.dst .undef) aw1 (mkStp fr d.hide .undef aw aw1 :: acc)
      | _ => .on (d :: l) fr aw acc
    | some false => dRun0 n l (putO fr d.op.dst .undef) aw (mkStp fr d.hide .undef aw aw :: acc)
    | none => .on (d :: l) fr aw acc
theorem dRun0_ok {K : List Stp → Fr → AW → Prop} : ∀ (n : Nat) {l l' : List DOper} {fr fr' : Fr} {aw aw' : AW} {acc acc' : List Stp}, dRun0 n l fr aw acc = .on l' fr' aw' acc' → WDs tab l' fr' aw' acc' K → WDs tab l fr aw acc K
  | 0, l, l', fr, fr', aw, aw', acc, acc', h, hw => by cases h; exact hw
  | n + 1, [], l', fr, fr', aw, aw', acc, acc', h, hw => by cases h; exact hw
  | n + 1, d :: l, l', fr, fr', aw, aw', acc, acc', h, hw => by
    simp only [dRun0] at h
    split at h
    · rename_i h1
      split at h
      · rename_i h2; exact WDs_val h1 h2 (dRun0_ok n h hw)
      · rename_i h2; exact WDs_eff h1 h2 (dRun0_ok n h hw)
      · cases h; exact hw
    · rename_i h1; exact WDs_pass h1 (dRun0_ok n h hw)
    · cases h; exact hw
theorem dRunE_ex : ∃ f : Nat → List DOper → Fr → AW → List Stp → DS, f = dRun0 := ⟨_, rfl⟩
@[irreducible] noncomputable def dRunE : Nat → List DOper → Fr → AW → List Stp → DS := Classical.choose dRunE_ex
theorem dRunE_eq : dRunE = dRun0 := by unfold dRunE; exact Classical.choose_spec dRunE_ex
theorem WDs_run {K : List Stp → Fr → AW → Prop} (n : Nat) {l l' : List DOper} {fr fr' : Fr} {aw aw' : AW} {acc acc' : List Stp} (h : dRunE n l fr aw acc = .on l' fr' aw' acc') (hw : WDs tab l' fr' aw' acc' K) : WDs tab l fr aw acc K := by
  rw [dRunE_eq] at h; exact dRun0_ok n h hw
theorem dRunE_nil {n : Nat} {fr : Fr} {aw : AW} {acc : List Stp} : dRunE (n + 1) [] fr aw acc = .on [] fr aw acc := by rw [dRunE_eq]; rfl
theorem dRunE_cons {n : Nat} {d : DOper} {l : List DOper} {fr : Fr} {aw : AW} {acc : List Stp} : dRunE (n + 1) (d :: l) fr aw acc = match wanted (hideL fr d.hide) d.op.guard with
    | some true => match aop d.op.op (hideL fr d.hide) aw with
      | some (.val v, aw1) => dRunE n l (putO fr d.op.dst v) aw1 (mkStp fr d.hide v aw aw1 :: acc)
      | some (.skip, aw1) => dRunE n l (putO fr d.op.dst .undef) aw1 (mkStp fr d.hide .undef aw aw1 :: acc)
      | _ => .on (d :: l) fr aw acc
    | some false => dRunE n l (putO fr d.op.dst .undef) aw (mkStp fr d.hide .undef aw aw :: acc)
    | none => .on (d :: l) fr aw acc := by rw [dRunE_eq]; rfl
end
theorem over_cell : ∀ (l : List V) (i : Nat) (v : V), i < l.length → over l i [v] = some (l.set i v)
  | [], i, v, h => by simp at h
  | x :: l, 0, v, h => by simp [over]
  | x :: l, i + 1, v, h => by simp only [over, over_cell l i v (by simpa using h), List.set_cons_succ]
theorem store_cell {w : AW} {b i : Nat} {l : List V} {v : V} (hx : w.heap.get b = some (.cells l .own)) (hi : i < l.length) (hv : v.one = true) : w.store b i [v] = some (w.turn b (.cells (l.set i v) .own)) := by
  simp only [AW.store, hx, AW.alive, allOne, hv, over_cell l i v hi]
theorem cells_int {k : IntKind} {n : Int} : (V.int k n).cells = [.int k n] := rfl
theorem cells_bool {b : Bool} : (V.bool b).cells = [.bool b] := rfl
theorem cells_str {l : List Nat} : (V.str l).cells = [.str l] := rfl
theorem cells_agg {l : List V} : (V.agg l).cells = l := rfl
theorem cells_slice {b o n : Nat} {c : Cap} : (V.slice b o n c).cells = [.slice b o n c] := rfl
theorem cells_nilslice : V.nilslice.cells = [.nilslice] := rfl
theorem cells_ptr {b o : Nat} : (V.ptr b o).cells = [.ptr b o] := rfl
theorem cells_nilptr : V.nilptr.cells = [.nilptr] := rfl
theorem ne_ff : (false != false) = false := rfl
theorem ne_ft : (false != true) = true := rfl
theorem ne_tf : (true != false) = true := rfl
theorem ne_tt : (true != true) = false := rfl
attribute [go_sem] dRunE_nil dRunE_cons ne_ff ne_ft ne_tf ne_tt cells_int cells_bool cells_str cells_agg cells_slice cells_nilslice cells_ptr cells_nilptr
end Go.AE

set_option linter.unusedVariables false
set_option linter.unusedSimpArgs false
namespace Go.AE
end Go.AE

set_option linter.unusedVariables false
set_option linter.unusedSimpArgs false
open Go.RowKit Go.WideShapes Go.ChangeShapes
namespace Go.AE
def AllRo (aw : AW) (m : Map) : Prop := ∀ b e x, m b = some e → aw.heap.get b = some x → ∃ l, x = .cells l .ro
theorem R.addRo {aw : AW} {w : World} {m : Map} {base : Nat} (hR : R aw w m base) (hA : AllRo aw m) {c s lo hi : Nat} {cur : Array Value} {t : TypeId} {l : List V} (hc : w.heap[c]? = some (.cells cur t (lo, hi))) (hs : s + l.length ≤ cur.size) (hl : CR m l s cur) :
    R (aw.new (.cells l .ro)) w (m.set aw.next ⟨c, s, cur.size⟩) base ∧ m.le (m.set aw.next ⟨c, s, cur.size⟩) ∧ AllRo (aw.new (.cells l .ro)) (m.set aw.next ⟨c, s, cur.size⟩) := by
  have hnone : m aw.next = none := by
    cases h : m aw.next with
    | none => rfl
    | some e => exact absurd (hR.lt _ _ h).1 (by omega)
  have hle : m.le (m.set aw.next ⟨c, s, cur.size⟩) := Map.le_set hnone
  have hclt : c < w.heap.size := (Array.getElem?_eq_some_iff.1 hc).1
  -- what is mapped is old or the new one
  have old : ∀ {b : Nat} {e : Emb}, (m.set aw.next ⟨c, s, cur.size⟩) b = some e → (b = aw.next ∧ e = ⟨c, s, cur.size⟩) ∨ (b ≠ aw.next ∧ m b = some e) := by
    intro b e h
    by_cases hb : b = aw.next
    · subst hb; rw [Map.set_same] at h; exact .inl ⟨rfl, (Option.some.inj h).symm⟩
    · rw [Map.set_ne _ _ hb] at h; exact .inr ⟨hb, h⟩
  have hold : ∀ {b : Nat}, b ≠ aw.next → (aw.new (.cells l .ro)).heap.get b = aw.heap.get b := fun hb => T.get_put_ne hb
  have hnew : (aw.new (.cells l .ro)).heap.get aw.next = some (.cells l .ro) := T.get_put_same
  have hA' : AllRo (aw.new (.cells l .ro)) (m.set aw.next ⟨c, s, cur.size⟩) := by
    intro b e x hb hx
    rcases old hb with ⟨rfl, rfl⟩ | ⟨h1, h2⟩
    · rw [hnew] at hx; exact ⟨l, (Option.some.inj hx).symm⟩
    · rw [hold h1] at hx; exact hA b e x h2 hx
  refine ⟨⟨?_, hR.size, ?_, ?_, ?_, ?_, ?_⟩, hle, hA'⟩
  · intro b e l' f hb hx
    obtain ⟨l2, h2⟩ := hA' b e _ hb hx
    cases h2
  · intro b e hb
    rcases old hb with ⟨rfl, rfl⟩ | ⟨h1, h2⟩
    · exact ⟨Nat.lt_succ_self _, hclt⟩
    · exact ⟨Nat.lt_succ_of_lt (hR.lt b e h2).1, (hR.lt b e h2).2⟩
  · intro b e hb
    rcases old hb with ⟨rfl, rfl⟩ | ⟨h1, h2⟩
    · exact .inr ⟨l, hnew⟩
    · rw [hold h1]; exact hR.base b e h2
  · intro b e x hb hx
    rcases old hb with ⟨rfl, rfl⟩ | ⟨h1, h2⟩
    · rw [hnew] at hx
      cases hx
      exact fun _ => ⟨cur, t, lo, hi, hc, rfl, hs, .inl rfl, hl.mono hle⟩
    · rw [hold h1] at hx
      obtain ⟨l2, rfl⟩ := hA b e x h2 hx
      intro _
      obtain ⟨cur2, t2, lo2, hi2, p1, p2, p3, p4, p5⟩ := hR.blk b e _ h2 hx rfl
      exact ⟨cur2, t2, lo2, hi2, p1, p2, p3, p4, p5.mono hle⟩
  · intro b e x b' e' x' hb hx hb' hx' _ _ _ _
    obtain ⟨l1, rfl⟩ := hA' b e x hb hx
    obtain ⟨l2, rfl⟩ := hA' b' e' x' hb' hx'
    rfl
  · intro f F hF
    obtain ⟨h1, h2⟩ := hR.fam f F hF
    refine ⟨Nat.le_succ_of_le h1, fun b e l' e' l2 hb hx => ?_⟩
    obtain ⟨l3, h3⟩ := hA' b e _ hb hx
    cases h3
/-- nothing that was told is told otherwise. -/
structure RoExt (aw aw' : AW) : Prop where
  next : aw.next ≤ aw'.next
  heap : ∀ b, b < aw.next → aw'.heap.get b = aw.heap.get b
theorem RoExt.refl (aw : AW) : RoExt aw aw := ⟨Nat.le_refl _, fun _ _ => rfl⟩
theorem RoExt.trans {a b c : AW} (h : RoExt a b) (h' : RoExt b c) : RoExt a c := ⟨Nat.le_trans h.next h'.next, fun k hk => (h'.heap k (Nat.lt_of_lt_of_le hk h.next)).trans (h.heap k hk)⟩
theorem RoExt.new (aw : AW) (x : Blk) : RoExt aw (aw.new x) := ⟨Nat.le_succ _, fun b hb => T.get_put_ne (by omega)⟩
inductive All2 {α β : Type} (r : α → β → Prop) : List α → List β → Prop
  | nil : All2 r [] []
  | cons {a b l m} : r a b → All2 r l m → All2 r (a :: l) (b :: m)
theorem All2.imp {α β : Type} {r q : α → β → Prop} (h : ∀ a b, r a b → q a b) : ∀ {l : List α} {m : List β}, All2 r l m → All2 q l m
  | [], _, .nil => .nil
  | _ :: _, _, .cons h1 h2 => .cons (h _ _ h1) (All2.imp h h2)
theorem All2.len {α β : Type} {r : α → β → Prop} : ∀ {l : List α} {m : List β}, All2 r l m → l.length = m.length
  | [], _, .nil => rfl
  | _ :: _, _, .cons _ h2 => by simp [All2.len h2]
theorem All2.snoc {α β : Type} {r : α → β → Prop} {a : α} {b : β} (h : r a b) : ∀ {l : List α} {m : List β}, All2 r l m → All2 r (l ++ [a]) (m ++ [b])
  | [], _, .nil => .cons h .nil
  | _ :: _, _, .cons h1 h2 => .cons h1 (All2.snoc h h2)
theorem All2.get {α β : Type} {r : α → β → Prop} : ∀ {l : List α} {m : List β}, All2 r l m → ∀ {i : Nat} {a : α}, l[i]? = some a → ∃ b, m[i]? = some b ∧ r a b
  | [], _, .nil, i, a, h => by simp at h
  | x :: l, y :: m, .cons h1 h2, 0, a, h => by simp at h; subst h; exact ⟨y, rfl, h1⟩
  | x :: l, y :: m, .cons h1 h2, i + 1, a, h => by simpa using All2.get h2 (i := i) (by simpa using h)
section
variable {H : Type} {enc : TypeId × Value → H} {P : Program} {w : World}
/-- what values of a type come to. -/
structure Opens (enc : TypeId × Value → H) (P : Program) (w : World) (t : TypeId) (α : Type) (rel : AW → α → List V → Prop) : Prop where
  ext : ∀ {aw aw' : AW} {a : α} {xs : List V}, RoExt aw aw' → rel aw a xs → rel aw' a xs
  len : ∀ {aw : AW} {a : α} {xs : List V}, rel aw a xs → xs.length = P.cellsOf t
  go : ∀ {fuel : Nat} {cs : List Value} {y : DataW H × List MemPlace}, DataW.trod enc P w 0 (fun _ => true) true fuel t cs = some y → ∀ {aw : AW} {m : Map}, R aw w m w.heap.size → AllRo aw m →
    ∃ aw' m' a xs, R aw' w m' w.heap.size ∧ AllRo aw' m' ∧ m.le m' ∧ RoExt aw aw' ∧ VRs m' xs cs ∧ rel aw' a xs
theorem opens_bool {t : TypeId} (ht : P.underlying t = some .bool) (h1 : P.cellsOf t = 1) : Opens enc P w t Bool (fun _ n xs => xs = [.bool n]) where
  ext _ h := h
  len h := by rw [h, h1]; rfl
  go h aw m hR hA := by
    obtain ⟨n, rfl, rfl⟩ := DataW.trod_bool ht h
    exact ⟨aw, m, n, [.bool n], hR, hA, .refl _, .refl _, ⟨_, _, rfl, rfl, rfl⟩, rfl⟩
theorem cell_inv {w : World} {a : Addr} {v : Value} (h : w.cell? a = some v) : a = ⟨a.block, a.off, none⟩ ∧ ∃ cur t lo hi, w.heap[a.block]? = some (.cells cur t (lo, hi)) ∧ cur[a.off]? = some v := by
  have hs := World.cell?_spot h
  obtain ⟨b, o, sp⟩ := a
  simp only at hs
  subst hs
  refine ⟨rfl, ?_⟩
  unfold World.cell? at h
  split at h
  · rename_i c t fz hb
    simp at h
    obtain ⟨lo, hi⟩ := fz
    exact ⟨c, t, lo, hi, hb, h⟩
  · cases h
/-- a slice's room is not below its length. -/
def CapOk (n : Nat) : Cap → Prop
  | .known k => n ≤ k
  | .upTo _ => n = 0
/-- a slice: its elements, in one block for reading. -/
def SliceR {α : Type} (rel : AW → α → List V → Prop) (aw : AW) (l : List α) (xs : List V) : Prop :=
  (xs = [.nilslice] ∧ l = []) ∨ ∃ b c xss, xs = [.slice b 0 l.length c] ∧ b < aw.next ∧ aw.heap.get b = some (.cells (List.flatten xss) .ro) ∧ All2 (rel aw) l xss ∧ l.length ≤ maxLen ∧ CapOk l.length c
theorem opens_slice {t e : TypeId} {α : Type} {rel : AW → α → List V → Prop} (ht : P.underlying t = some (.slice e)) (h1 : P.cellsOf t = 1) (hp : 0 < P.cellsOf e) (he : Opens enc P w e α rel) (hdum : ∃ cur ty lo hi, w.heap[0]? = some (.cells cur ty (lo, hi))) :
    Opens enc P w t (List α) (SliceR rel) where
  ext hx h := by
    rcases h with h | ⟨b, c, xss, rfl, hb, hg, ha, hl⟩
    · exact .inl h
    · exact .inr ⟨b, c, xss, rfl, Nat.lt_of_lt_of_le hb hx.next, (hx.heap b hb).trans hg, ha.imp fun _ _ h => he.ext hx h, hl⟩
  len h := by
    rw [h1]
    rcases h with ⟨rfl, _⟩ | ⟨b, c, xss, rfl, _⟩ <;> rfl
  go h aw m hR hA := by
    rcases DataW.trod_slice ht h with ⟨rfl, rfl⟩ | ⟨a, len, cap, elems, rest, n, rfl, rfl, rfl, _, hlc, hcm, hel, hel2, hrest, _⟩
    · exact ⟨aw, m, [], [.nilslice], hR, hA, .refl _, .refl _, ⟨_, _, rfl, rfl, rfl⟩, .inl ⟨rfl, rfl⟩⟩
    · by_cases hc0 : cap = 0
      · subst hc0
        have hl0 : len = 0 := by omega
        subst hl0
        obtain ⟨cur, ty, lo, hi, hd⟩ := hdum
        obtain ⟨r1, r2, r3⟩ := hR.addRo hA (c := 0) (s := cur.size) (l := []) hd (by simp) (by intro i x hx; simp at hx)
        exact ⟨_, _, [], [.slice aw.next 0 0 (.upTo (P.cellsOf e))], r1, r3, r2, RoExt.new _ _, ⟨_, _, rfl, ⟨_, Map.set_same _ _ _, a, 0, rfl, Nat.le_refl _, .inr ⟨rfl, rfl⟩⟩, rfl⟩, .inr ⟨aw.next, .upTo (P.cellsOf e), [], rfl, Nat.lt_succ_self _, T.get_put_same, .nil, Nat.zero_le _, rfl⟩⟩
      · -- its first cell is there
        have hfirst : ∃ v, w.cell? (a.add 0) = some v := by
          by_cases hl0 : len = 0
          · have hrl := (hrest rfl).1
            have hr := (hrest rfl).2 0 (by omega)
            rw [List.getElem?_eq_getElem (by omega : 0 < rest.length), Option.bind_eq_some_iff] at hr
            obtain ⟨cs, hcs, _⟩ := hr
            obtain ⟨_, c2, c3⟩ := World.cells?_some hcs
            have := c3 0 hp
            rw [List.getElem?_eq_getElem (by rw [c2]; exact hp)] at this
            subst hl0
            simp only [Nat.add_zero, Nat.zero_mul] at this
            exact ⟨cs[0]'(by rw [c2]; exact hp), by rw [← this]; simp [Addr.add]⟩
          · have hr := hel2 0 (by omega)
            rw [List.getElem?_eq_getElem (by omega : 0 < elems.length), Option.bind_eq_some_iff] at hr
            obtain ⟨cs, hcs, _⟩ := hr
            obtain ⟨_, c2, c3⟩ := World.cells?_some hcs
            have := c3 0 hp
            rw [List.getElem?_eq_getElem (by rw [c2]; exact hp)] at this
            simp only [Nat.zero_mul] at this
            exact ⟨cs[0]'(by rw [c2]; exact hp), by rw [← this]; simp [Addr.add]⟩
        obtain ⟨v0, hv0⟩ := hfirst
        have ea : a.add 0 = a := by simp [Addr.add]
        rw [ea] at hv0
        obtain ⟨e0, cur, ty, lo, hi, hbl, hcur⟩ := cell_inv hv0
        obtain ⟨ab, ao, asp⟩ := a
        simp only [Addr.mk.injEq, true_and] at e0
        subst e0
        -- the elements, one by one
        have key : ∀ k, k ≤ len → ∃ aw' m' l xss, R aw' w m' w.heap.size ∧ AllRo aw' m' ∧ m.le m' ∧ RoExt aw aw' ∧ All2 (rel aw') l xss ∧ l.length = k ∧ (List.flatten xss).length = k * P.cellsOf e ∧
            (∀ (j : Nat) (x : V), (List.flatten xss)[j]? = some x → ∃ y, w.cell? ⟨ab, ao + j, none⟩ = some y ∧ VR m' x y) := by
          intro k
          induction k with
          | zero => intro _; exact ⟨aw, m, [], [], hR, hA, .refl _, .refl _, .nil, rfl, by simp, fun j x h => by simp at h⟩
          | succ k ih =>
            intro hk
            obtain ⟨aw1, m1, l, xss, i1, i2, i3, i4, i5, i6, i7, i8⟩ := ih (by omega)
            have hg := hel2 k (by omega)
            have hsome : elems[k]? = some (elems[k]'(by omega)) := List.getElem?_eq_getElem (by omega)
            rw [hsome, Option.bind_eq_some_iff] at hg
            obtain ⟨cs, hcs, hy⟩ := hg
            obtain ⟨_, c2, c3⟩ := World.cells?_some hcs
            obtain ⟨aw2, m2, a2, xs, j1, j2, j3, j4, j5, j6⟩ := he.go hy i1 i2
            have hxl := he.len j6
            refine ⟨aw2, m2, l ++ [a2], xss ++ [xs], j1, j2, i3.trans j3, i4.trans j4, (i5.imp fun _ _ h => he.ext j4 h).snoc j6, by simp [i6], ?_, ?_⟩
            · rw [List.flatten_append, List.length_append, i7, Nat.add_mul, Nat.one_mul]; simp [hxl]
            · intro j x hj
              have hfl : (xss ++ [xs]).flatten = xss.flatten ++ xs := by simp
              rw [hfl] at hj
              by_cases hjk : j < k * P.cellsOf e
              · rw [List.getElem?_append_left (by omega)] at hj
                obtain ⟨y, y1, y2⟩ := i8 j x hj
                exact ⟨y, y1, y2.mono j3⟩
              · rw [List.getElem?_append_right (by omega), i7] at hj
                obtain ⟨y, y1, y2⟩ := j5.get hj
                have hlt : j - k * P.cellsOf e < P.cellsOf e := by
                  have := (List.getElem?_eq_some_iff.1 hj).1; omega
                have h3 := c3 _ hlt
                rw [y1, add_plain, add_plain] at h3
                refine ⟨y, ?_, y2⟩
                rw [← h3]
                congr 2
                omega
        obtain ⟨aw1, m1, l, xss, i1, i2, i3, i4, i5, i6, i7, i8⟩ := key len (Nat.le_refl _)
        have hall : ∀ (j : Nat) (x : V), (List.flatten xss)[j]? = some x → ∃ y, cur[ao + j]? = some y ∧ VR m1 x y := by
          intro j x hj
          obtain ⟨y, y1, y2⟩ := i8 j x hj
          obtain ⟨_, cur2, ty2, lo2, hi2, hb2, hcur2⟩ := cell_inv y1
          simp only at hb2 hcur2 hbl
          rw [hbl] at hb2
          cases hb2
          exact ⟨y, hcur2, y2⟩
        have hroom : ao + (List.flatten xss).length ≤ cur.size := by
          cases hfl : (List.flatten xss).length with
          | zero =>
            have h0 : ao < cur.size := (Array.getElem?_eq_some_iff.1 hcur).1
            omega
          | succ q =>
            obtain ⟨y, y1, _⟩ := hall q _ (List.getElem?_eq_getElem (by omega))
            have := (Array.getElem?_eq_some_iff.1 y1).1
            omega
        obtain ⟨r1, r2, r3⟩ := i1.addRo i2 (c := ab) (s := ao) (l := xss.flatten) hbl hroom hall
        exact ⟨_, _, l, [.slice aw1.next 0 len (.known cap)], r1, r3, i3.trans r2, i4.trans (RoExt.new _ _), ⟨_, _, rfl, ⟨_, Map.set_same _ _ _, rfl⟩, rfl⟩, .inr ⟨aw1.next, .known cap, xss, by rw [i6], Nat.lt_succ_self _, T.get_put_same, i5.imp fun _ _ h => he.ext (RoExt.new _ _) h, by omega, by show l.length ≤ cap; omega⟩⟩
end
end Go.AE
namespace Go.AE
section
variable {H : Type} {enc : TypeId × Value → H} {P : Program} {w : World}
/-- an argument of one cell. -/
theorem opens_arg {t : TypeId} {α : Type} {rel : AW → α → List V → Prop} (h : Opens enc P w t α rel) {v : Value} {d : DataW H} {ps : List MemPlace} (hc : v.cells.toList = [v]) (ht : DataW.Trod enc P w 0 (fun _ => true) true t v d ps) {aw : AW} {m : Map} (hR : R aw w m w.heap.size) (hA : AllRo aw m) :
    ∃ aw' m' a x, R aw' w m' w.heap.size ∧ AllRo aw' m' ∧ m.le m' ∧ RoExt aw aw' ∧ VR m' x v ∧ rel aw' a [x] := by
  obtain ⟨fuel, hf⟩ := ht
  obtain ⟨aw', m', a, xs, h1, h2, h3, h4, h5, h6⟩ := h.go hf hR hA
  rw [hc] at h5
  cases xs with
  | nil => cases h5
  | cons x xs =>
    obtain ⟨y, ys, e, h7, h8⟩ := h5
    cases e
    cases xs with
    | nil => exact ⟨aw', m', a, x, h1, h2, h3, h4, h7, h6⟩
    | cons x2 xs => obtain ⟨y, ys, e, _⟩ := h8; cases e
end
end Go.AE

set_option linter.unusedVariables false
set_option linter.unusedSimpArgs false
namespace Go.AE
theorem resOne_nil : resOne [] = .tuple [] := rfl
attribute [go_sem] resOne_nil Nat.add_zero
/-- a loop that is left by its block's end alone: what holds at each round's head; what holds behind it. -/
theorem WS_loopJ {tab : Tab} {id : Nat} {b : ACode} {s : List SI} {Q : Fr → AW → Prop} (I : Nat → Fr → AW → Prop) (J : Fr → AW → Prop)
    (step : ∀ n f w, I n f w → (∀ n' f' w', n' < n → I n' f' w' → WS tab (.code (.loop b) :: .endB id :: s) f' w' Q) → (∀ s' f' w', J f' w' → popTo id s' = some s → WS tab (.code (.exit id) :: s') f' w' Q) → WS tab (.code b :: .code (.loop b) :: .endB id :: s) f w Q)
    (after : ∀ f w, J f w → WS tab s f w Q) (n : Nat) {fr : Fr} {aw : AW} (h : I n fr aw) : WS tab (.code (.loop b) :: .endB id :: s) fr aw Q :=
  WS_loop I (fun n f w hI ih => step n f w hI ih fun s' f' w' hJ hp => WS_exit hp (after f' w' hJ)) n h
/-- a block that is read: what keeps it. -/
def Al (T : Nat → Prop) (w : AW) (b : Nat) (sh : Share) : Prop :=
  sh = .own ∨ sh = .lax ∨ sh = .ro ∨ ∃ f F, sh = .fam f ∧ T f ∧ f < w.next ∧ w.fams.get f = some F ∧ w.alive b sh = true
theorem Al.alive {T : Nat → Prop} {w : AW} {b : Nat} {sh : Share} (h : Al T w b sh) : w.alive b sh = true := by
  rcases h with rfl | rfl | rfl | ⟨f, F, rfl, h1, h2, h3, h4⟩
  · rfl
  · rfl
  · rfl
  · exact h4
theorem Al.frm {T S : Nat → Prop} {w w' : AW} {b : Nat} {sh : Share} (h : Al T w b sh) (hf : Frm S w w') (hd : ∀ x, T x → ¬ S x) : Al T w' b sh := by
  rcases h with rfl | rfl | rfl | ⟨f, F, rfl, h1, h2, h3, h4⟩
  · exact .inl rfl
  · exact .inr (.inl rfl)
  · exact .inr (.inr (.inl rfl))
  · have e := hf.fams f h2 (hd f h1)
    refine .inr (.inr (.inr ⟨f, F, rfl, h1, Nat.lt_of_lt_of_le h2 hf.next, e.trans h3, ?_⟩))
    simp only [AW.alive, h3, e.trans h3] at h4 ⊢
    exact h4
theorem Al.mono {T T' : Nat → Prop} {w : AW} {b : Nat} {sh : Share} (h : Al T w b sh) (ht : ∀ x, T x → T' x) : Al T' w b sh := by
  rcases h with rfl | rfl | rfl | ⟨f, F, rfl, h1, h2⟩
  · exact .inl rfl
  · exact .inr (.inl rfl)
  · exact .inr (.inr (.inl rfl))
  · exact .inr (.inr (.inr ⟨f, F, rfl, ht f h1, h2⟩))
def CapFit (esz n : Nat) : Cap → Prop
  | .known k => n ≤ k
  | .upTo z => z = esz ∨ n = 0
inductive Rd (T : Nat → Prop) (w : AW) : V → Nat → Nat → List V → Prop
  | nil {esz : Nat} : Rd T w .nilslice esz 0 []
  | blk {b o n esz : Nat} {c : Cap} {l cs : List V} {sh : Share} (hT : T b) (hb : b < w.next) (hx : w.heap.get b = some (.cells l sh)) (ha : Al T w b sh) (hl : o + n * esz ≤ l.length) (hcs : cs = (l.drop o).take (n * esz)) (hc : CapFit esz n c) : Rd T w (.slice b o n c) esz n cs
theorem Rd.len {T : Nat → Prop} {w : AW} {v : V} {esz n : Nat} {cs : List V} (h : Rd T w v esz n cs) : cs.length = n * esz := by
  cases h with
  | nil => simp
  | blk hT hb hx ha hl hcs hc => rw [hcs, List.length_take, List.length_drop]; omega
theorem Rd.frm {T S : Nat → Prop} {w w' : AW} {v : V} {esz n : Nat} {cs : List V} (h : Rd T w v esz n cs) (hf : Frm S w w') (hd : ∀ x, T x → ¬ S x) : Rd T w' v esz n cs := by
  cases h with
  | nil => exact .nil
  | blk hT hb hx ha hl hcs hc => exact .blk hT (Nat.lt_of_lt_of_le hb hf.next) ((hf.heap _ hb (hd _ hT)).trans hx) (ha.frm hf hd) hl hcs hc
theorem Rd.mono {T T' : Nat → Prop} {w : AW} {v : V} {esz n : Nat} {cs : List V} (h : Rd T w v esz n cs) (ht : ∀ x, T x → T' x) : Rd T' w v esz n cs := by
  cases h with
  | nil => exact .nil
  | blk hT hb hx ha hl hcs hc => exact .blk (ht _ hT) hb hx (ha.mono ht) hl hcs hc
/-- what reading comes to. -/
structure RdB (T : Nat → Prop) (w : AW) (b o n esz : Nat) (c : Cap) (cs : List V) : Prop where
  own : T b
  lt : b < w.next
  fit : CapFit esz n c
  load : ∀ i k, i + k ≤ n * esz → w.load b (o + i) k = some ((cs.drop i).take k)
  get : ∃ l sh, w.heap.get b = some (.cells l sh) ∧ w.alive b sh = true
theorem Rd.inv {T : Nat → Prop} {w : AW} {v : V} {esz n : Nat} {cs : List V} (h : Rd T w v esz n cs) : (v = .nilslice ∧ n = 0 ∧ cs = []) ∨ ∃ b o c, v = .slice b o n c ∧ RdB T w b o n esz c cs := by
  cases h with
  | nil => exact .inl ⟨rfl, rfl, rfl⟩
  | @blk b o _ _ c l _ sh hT hb hx ha hl hcs hc =>
    refine .inr ⟨b, o, c, rfl, ⟨hT, hb, hc, fun i k hik => ?_, l, sh, hx, ha.alive⟩⟩
    simp only [AW.load, hx, ha.alive]
    rw [takeN_some _ _ (by simp; omega), hcs]
    congr 1
    rw [List.drop_take, List.take_take, List.drop_drop, Nat.min_eq_left (by omega)]
/-- a cell. -/
theorem RdB.cell {T : Nat → Prop} {w : AW} {b o n esz : Nat} {c : Cap} {cs : List V} (h : RdB T w b o n esz c cs) {i : Nat} {x : V} (hi : i < n * esz) (hx : cs[i]? = some x) : w.load b (o + i) 1 = some [x] := by
  rw [h.load i 1 (by omega)]
  have hlt : i < cs.length := (List.getElem?_eq_some_iff.1 hx).1
  rw [List.drop_eq_getElem_cons hlt]
  rw [List.getElem?_eq_getElem hlt] at hx
  rw [Option.some.inj hx]; rfl
/-- an element, of elements told one by one. -/
theorem flat_at {α : Type} {r : α → List V → Prop} {sz : Nat} (hsz : ∀ a xs, r a xs → xs.length = sz) : ∀ {l : List α} {xss : List (List V)}, All2 r l xss → ∀ {i : Nat} {a : α}, l[i]? = some a → ∃ xs, r a xs ∧ (xss.flatten.drop (i * sz)).take sz = xs
  | [], _, .nil, i, a, h => by simp at h
  | x :: l, y :: m, .cons h1 h2, 0, a, h => by
    simp at h; subst h
    refine ⟨y, h1, ?_⟩
    rw [Nat.zero_mul, List.drop_zero, List.flatten_cons, ← hsz _ _ h1, List.take_left']
    rfl
  | x :: l, y :: m, .cons h1 h2, i + 1, a, h => by
    obtain ⟨xs, q1, q2⟩ := flat_at hsz h2 (i := i) (a := a) (by simpa using h)
    refine ⟨xs, q1, ?_⟩
    have hy := hsz _ _ h1
    rw [List.flatten_cons, Nat.add_mul, Nat.one_mul, Nat.add_comm (i * sz), ← List.drop_drop, ← hy, List.drop_left' rfl, hy]
    exact q2
theorem flat_length {α : Type} {r : α → List V → Prop} {sz : Nat} (hsz : ∀ a xs, r a xs → xs.length = sz) : ∀ {l : List α} {xss : List (List V)}, All2 r l xss → xss.flatten.length = l.length * sz
  | [], _, .nil => by simp
  | x :: l, y :: m, .cons h1 h2 => by rw [List.flatten_cons, List.length_append, hsz _ _ h1, flat_length hsz h2, List.length_cons, Nat.add_mul, Nat.one_mul, Nat.add_comm]
/-- elements, each told by a relation. -/
def RdL {α : Type} (r : AW → α → List V → Prop) (T : Nat → Prop) (w : AW) (v : V) (esz : Nat) (l : List α) : Prop := ∃ xss, Rd T w v esz l.length xss.flatten ∧ All2 (r w) l xss
theorem RdL.inv {α : Type} {r : AW → α → List V → Prop} {T : Nat → Prop} {w : AW} {v : V} {esz : Nat} {l : List α} (h : RdL r T w v esz l) (hsz : ∀ a xs, r w a xs → xs.length = esz) :
    (v = .nilslice ∧ l = []) ∨ ∃ b o c, v = .slice b o l.length c ∧ T b ∧ b < w.next ∧ CapFit esz l.length c ∧ ∀ i a, l[i]? = some a → ∃ xs, r w a xs ∧ ∀ j k, j + k ≤ esz → w.load b (o + i * esz + j) k = some ((xs.drop j).take k) := by
  obtain ⟨xss, h1, h2⟩ := h
  rcases h1.inv with ⟨q1, q2, q3⟩ | ⟨b, o, c, rfl, hB⟩
  · exact .inl ⟨q1, List.length_eq_zero_iff.1 q2⟩
  · refine .inr ⟨b, o, c, rfl, hB.own, hB.lt, hB.fit, fun i a hi => ?_⟩
    obtain ⟨xs, q1, q2⟩ := flat_at hsz h2 hi
    refine ⟨xs, q1, fun j k hjk => ?_⟩
    have hlt : i < l.length := (List.getElem?_eq_some_iff.1 hi).1
    have hle : (i + 1) * esz ≤ l.length * esz := Nat.mul_le_mul_right _ hlt
    rw [Nat.add_mul, Nat.one_mul] at hle
    rw [Nat.add_assoc, hB.load (i * esz + j) k (by omega), ← q2, List.drop_take, List.take_take, Nat.min_eq_left (by omega), List.drop_drop]
theorem RdL.frm {α : Type} {r : AW → α → List V → Prop} {T S : Nat → Prop} {w w' : AW} {v : V} {esz : Nat} {l : List α} (h : RdL r T w v esz l) (hr : ∀ a xs, r w a xs → r w' a xs) (hf : Frm S w w') (hd : ∀ x, T x → ¬ S x) : RdL r T w' v esz l := by
  obtain ⟨xss, h1, h2⟩ := h
  exact ⟨xss, h1.frm hf hd, h2.imp hr⟩
theorem RdL.mono {α : Type} {r r' : AW → α → List V → Prop} {T T' : Nat → Prop} {w : AW} {v : V} {esz : Nat} {l : List α} (h : RdL r T w v esz l) (hr : ∀ a xs, r w a xs → r' w a xs) (ht : ∀ x, T x → T' x) : RdL r' T' w v esz l := by
  obtain ⟨xss, h1, h2⟩ := h
  exact ⟨xss, h1.mono ht, h2.imp hr⟩
/-- what was appended to is read. -/
theorem Buf.rd {S : Nat → Prop} {w : AW} {v : V} {esz n : Nat} {cs : List V} (h : Buf S w v esz n cs) : Rd S w v esz n cs := by
  cases h with
  | nil => exact .nil
  | @blk b _ _ r _ rest sh hS hb hx hl hr he hn hs =>
    refine .blk hS hb hx ?_ (by rw [List.length_append, hl]; omega) (by rw [List.drop_zero, List.take_append_of_le_length (by omega), List.take_of_length_le (by omega)]) (.inl rfl)
    rcases hs with rfl | rfl | ⟨f, F, rfl, h1, h2, h3, h4, h6, h5⟩
    · exact .inl rfl
    · exact .inr (.inl rfl)
    · exact .inr (.inr (.inr ⟨f, F, rfl, h1, h2, h3, h5⟩))
theorem Own.rd {N : Nat} {w : AW} {v : V} {esz n : Nat} {cs : List V} (h : Own N w v esz n cs) : Rd (fun b => N ≤ b ∧ b < w.next) w v esz n cs := by
  cases h with
  | nil => exact .nil
  | @blk b _ _ _ sh hN hb hx hl he hn hs =>
    refine .blk ⟨hN, hb⟩ hb hx ?_ (by omega) (by rw [List.drop_zero, List.take_of_length_le (by omega)]) (.inl rfl)
    rcases hs with rfl | rfl | ⟨f, F, rfl, h1, h2, h3, h4, h6, h5⟩
    · exact .inl rfl
    · exact .inr (.inl rfl)
    · exact .inr (.inr (.inr ⟨f, F, rfl, ⟨h1, h2⟩, h2, h3, h5⟩))
theorem Rd.elems {T : Nat → Prop} {w : AW} {v : V} {esz n : Nat} {cs : List V} (h : Rd T w v esz n cs) : w.elems esz v = some (n, cs) := by
  have hlen := h.len
  rcases h.inv with ⟨rfl, rfl, rfl⟩ | ⟨b, o, c, rfl, hB⟩
  · rfl
  · cases n with
    | zero =>
      have : cs = [] := List.length_eq_zero_iff.1 (by omega)
      subst this; rfl
    | succ n =>
      have := hB.load 0 ((n + 1) * esz) (by omega)
      rw [Nat.add_zero, List.drop_zero, List.take_of_length_le (by omega)] at this
      simp only [AW.elems, this]
theorem Rd.lenV {T : Nat → Prop} {w : AW} {v : V} {esz n : Nat} {cs : List V} (h : Rd T w v esz n cs) : lenV v = some n := by cases h <;> rfl
theorem Buf.lenV {S : Nat → Prop} {w : AW} {v : V} {esz n : Nat} {cs : List V} (h : Buf S w v esz n cs) : lenV v = some n := by cases h <;> rfl
/-- a block of one's own: its cells. -/
structure CB (w : AW) (b : Nat) (l : List V) : Prop where
  lt : b < w.next
  get : w.heap.get b = some (.cells l .own)
theorem CB.frm {S : Nat → Prop} {w w' : AW} {b : Nat} {l : List V} (h : CB w b l) (hf : Frm S w w') (hn : ¬ S b) : CB w' b l := ⟨Nat.lt_of_lt_of_le h.lt hf.next, (hf.heap b h.lt hn).trans h.get⟩
theorem CB.load {w : AW} {b : Nat} {l : List V} (h : CB w b l) (o n : Nat) : w.load b o n = takeN n (l.drop o) := by simp only [AW.load, h.get]; rfl
theorem CB.all {w : AW} {b n : Nat} {l : List V} (h : CB w b l) (hn : l.length = n) : w.load b 0 n = some l := by rw [h.load, List.drop_zero]; exact takeN_all _ _ hn
def AW.put (w : AW) (b : Nat) (l : List V) : AW := w.turn b (.cells l .own)
theorem CB.set {w : AW} {b i : Nat} {l : List V} {v : V} (h : CB w b l) (hi : i < l.length) (hv : v.one = true) : w.store b i [v] = some (w.put b (l.set i v)) := store_cell h.get hi hv
theorem CB.setAll {w : AW} {b : Nat} {l vs : List V} (h : CB w b l) (hl : l.length = vs.length) (h1 : allOne vs = true) : w.store b 0 vs = some (w.put b vs) := by
  have : over l 0 vs = some vs := by
    have := over_mid [] l [] vs hl.symm
    simpa using this
  exact store_shr h.get (.inl rfl : Shr (fun _ => True) w b .own) h1 this
theorem put_cb {w : AW} {b : Nat} {l : List V} (h : b < w.next) : CB (w.put b l) b l := ⟨h, T.get_put_same⟩
theorem put_frm {w : AW} {b : Nat} {l : List V} : Frm (fun x => x = b) w (w.put b l) := turn_frm (sh := .own) rfl (.inl rfl)
theorem fresh_cb (w : AW) (l : List V) : CB (w.fresh l) w.next l := ⟨Nat.lt_succ_self _, T.get_put_same⟩
theorem fresh_frm {S : Nat → Prop} (w : AW) (l : List V) : Frm S w (w.fresh l) := Frm.new w _
/-- a new block that is written at once. -/
theorem boxed (w : AW) {zs vs : List V} (hl : zs.length = vs.length) (h1 : allOne vs = true) : ∃ w2, (w.fresh zs).store w.next 0 vs = some w2 ∧ CB w2 w.next vs ∧ Frm (fun _ => False) w w2 ∧ w2.next = w.next + 1 := by
  refine ⟨_, (fresh_cb w zs).setAll hl h1, put_cb (Nat.lt_succ_self _), ?_, rfl⟩
  refine (fresh_frm (S := fun _ => False) w zs).trans (T := fun b => b = w.next) put_frm (fun _ _ h => h) ?_
  rintro y hy rfl; omega
theorem Frm.out {S : Nat → Prop} {w w1 w2 : AW} {b : Nat} {l : List V} (h : Frm S w w1) (hb : w.next ≤ b) (h2 : w2 = w1.put b l) : Frm S w w2 := by
  subst h2
  refine h.trans (T := fun x => x = b) put_frm (fun _ _ h => h) ?_
  rintro x hx rfl; omega
theorem Frm.tr {S : Nat → Prop} {a b c : AW} (h : Frm S a b) (h' : Frm S b c) : Frm S a c := h.trans h' (fun _ _ h => h) fun _ _ h => h
theorem Frm.no {S : Nat → Prop} {a b : AW} (h : Frm (fun _ => False) a b) : Frm S a b := h.mono fun _ _ h => h.elim
/-- one more, that a relation tells. -/
theorem All2.cells {α : Type} {r : α → List V → Prop} {l : List α} {xss : List (List V)} {a : α} {xs : List V} (h : All2 r l xss) (hx : r a xs) : All2 r (l ++ [a]) (xss ++ [xs]) ∧ (xss ++ [xs]).flatten = xss.flatten ++ xs := ⟨h.snoc hx, by simp⟩
end Go.AE

/- The reference's parser: words, signs, terms. -/
set_option linter.unusedVariables false
set_option maxRecDepth 10000
set_option linter.unusedSimpArgs false
namespace Go.Proofs.Ytjidefnbancmfaa
open Go.AE Delphi
variable {tab : Tab}
/-- a parser: its words, where it is, its error. -/
structure PSt (w : AW) (bp : Nat) (wv : V) (k e : Nat) : Prop where
  lt : bp < w.next
  get : w.heap.get bp = some (.cells [wv, .int .i64 (Int.ofNat k), .int .i64 (Int.ofNat e)] .own)
theorem PSt.frm {S : Nat → Prop} {w w' : AW} {bp : Nat} {wv : V} {k e : Nat} (h : PSt w bp wv k e) (hf : Frm S w w') (hn : ¬ S bp) : PSt w' bp wv k e := ⟨Nat.lt_of_lt_of_le h.lt hf.next, (hf.heap bp h.lt hn).trans h.get⟩
theorem PSt.l1 {w : AW} {bp k e : Nat} {wv : V} (h : PSt w bp wv k e) : w.load bp 1 1 = some [.int .i64 (Int.ofNat k)] := by simp only [AW.load, h.get]; rfl
theorem PSt.l2 {w : AW} {bp k e : Nat} {wv : V} (h : PSt w bp wv k e) : w.load bp 2 1 = some [.int .i64 (Int.ofNat e)] := by simp only [AW.load, h.get]; rfl
def PSt.mk' (w : AW) (bp : Nat) (wv : V) (k e : Nat) : AW := w.turn bp (.cells [wv, .int .i64 (Int.ofNat k), .int .i64 (Int.ofNat e)] .own)
theorem PSt.s1 {w : AW} {bp k e : Nat} {wv : V} (h : PSt w bp wv k e) (k' : Nat) : w.store bp 1 [.int .i64 (Int.ofNat k')] = some (PSt.mk' w bp wv k' e) := by
  have := store_cell (i := 1) (v := .int .i64 (Int.ofNat k')) h.get (by simp) rfl
  exact this
/-- its words. -/
structure Wds (Tw : Nat → Prop) (w : AW) (bp : Nat) (wv : V) (ws : List Wd) : Prop where
  rd : Rd Tw w wv 3 ws.length (wdsCells ws)
  no : ¬ Tw bp
  len : ws.length ≤ 4000
theorem Wds.frm {Tw S : Nat → Prop} {w w' : AW} {bp : Nat} {wv : V} {ws : List Wd} (h : Wds Tw w bp wv ws) (hf : Frm S w w') (hd : ∀ x, Tw x → ¬ S x) : Wds Tw w' bp wv ws := ⟨h.rd.frm hf hd, h.no, h.len⟩
theorem wdCells_len (w : Wd) : (wdCells w).length = 3 := rfl
theorem Wds.at {Tw : Nat → Prop} {w : AW} {bp : Nat} {wv : V} {ws : List Wd} (h : Wds Tw w bp wv ws) : (wv = .nilslice ∧ ws = []) ∨ ∃ b o c, wv = .slice b o ws.length c ∧ b ≠ bp ∧ b < w.next ∧
    ∀ i x, ws[i]? = some x → w.load b (o + i * 3) 1 = some [.int .i64 (Int.ofNat x.kind)] ∧ w.load b (o + i * 3 + 1) 1 = some [.str x.text] ∧ w.load b (o + i * 3) 3 = some (wdCells x) := by
  rcases h.rd.inv with ⟨q1, q2, _⟩ | ⟨b, o, c, rfl, hB⟩
  · exact .inl ⟨q1, List.length_eq_zero_iff.1 q2⟩
  · refine .inr ⟨b, o, c, rfl, fun he => h.no (he ▸ hB.own), hB.lt, fun i x hx => ?_⟩
    have hlt : i < ws.length := (List.getElem?_eq_some_iff.1 hx).1
    have part : ∀ j k, j + k ≤ 3 → w.load b (o + i * 3 + j) k = some (((wdCells x).drop j).take k) := by
      intro j k hjk
      have := hB.load (i * 3 + j) k (by omega)
      rw [Nat.add_assoc, this]
      have h2 := flat_part wdCells_len (i := i) (j := j) (k := k) hx hjk
      rw [Nat.zero_add] at h2
      exact congrArg some h2
    exact ⟨part 0 1 (by omega), part 1 1 (by omega), part 0 3 (by omega)⟩
end Go.Proofs.Ytjidefnbancmfaa

/- The reference's parser: terms. -/
set_option linter.unusedVariables false
set_option maxRecDepth 10000
set_option linter.unusedSimpArgs false
namespace Go.Proofs.Ytjidefnbancmfaa
open Go.AE Delphi
variable {tab : Tab}
def tmC (t : Tm) : List V := [.int .i64 (Int.ofNat t.kind), .str t.name, .int .i64 t.num]
end Go.Proofs.Ytjidefnbancmfaa

/- The reference's parser: atoms. -/
set_option linter.unusedVariables false
set_option maxRecDepth 10000
set_option linter.unusedSimpArgs false
namespace Go.Proofs.Ytjidefnbancmfaa
open Go.AE Delphi
variable {tab : Tab}
theorem PSt.cb {w : AW} {bp k e : Nat} {wv : V} (h : PSt w bp wv k e) : CB w bp [wv, .int .i64 (Int.ofNat k), .int .i64 (Int.ofNat e)] := ⟨h.lt, h.get⟩
def tmsC (l : List Tm) : List V := l.flatMap tmC
theorem tmC_len (t : Tm) : (tmC t).length = 3 := rfl
end Go.Proofs.Ytjidefnbancmfaa

/- The reference's parser: atoms, whole. -/
set_option linter.unusedVariables false
set_option maxRecDepth 10000
set_option linter.unusedSimpArgs false
namespace Go.Proofs.Ytjidefnbancmfaa
open Go.AE Delphi
variable {tab : Tab}
/-- a literal's cells. -/
def LtC (T : Nat → Prop) (w : AW) (l : Lt) (xs : List V) : Prop := ∃ v, xs = [.int .i64 (Int.ofNat l.kind), .str l.name, v] ∧ Rd T w v 3 l.args.length (tmsC l.args)
theorem LtC.frm {T S : Nat → Prop} {w w' : AW} {l : Lt} {xs : List V} (h : LtC T w l xs) (hf : Frm S w w') (hd : ∀ x, T x → ¬ S x) : LtC T w' l xs := by
  obtain ⟨v, h1, h2⟩ := h; exact ⟨v, h1, h2.frm hf hd⟩
theorem LtC.mono {T T' : Nat → Prop} {w : AW} {l : Lt} {xs : List V} (h : LtC T w l xs) (ht : ∀ x, T x → T' x) : LtC T' w l xs := by
  obtain ⟨v, h1, h2⟩ := h; exact ⟨v, h1, h2.mono ht⟩
theorem LtC.one {T : Nat → Prop} {w : AW} {l : Lt} {xs : List V} (h : LtC T w l xs) : xs.length = 3 ∧ allOne xs = true := by
  obtain ⟨v, rfl, h2⟩ := h
  refine ⟨rfl, ?_⟩
  rcases h2.inv with ⟨rfl, _⟩ | ⟨_, _, _, rfl, _⟩ <;> rfl
theorem LtC.zero {T : Nat → Prop} {w : AW} : LtC T w Lt.zero [.int .i64 0, .str [], .nilslice] := ⟨.nilslice, rfl, .nil⟩
end Go.Proofs.Ytjidefnbancmfaa

/- The reference's parser: literals. -/
set_option linter.unusedVariables false
set_option maxRecDepth 10000
set_option linter.unusedSimpArgs false
namespace Go.Proofs.Ytjidefnbancmfaa
open Go.AE Delphi
variable {tab : Tab}
theorem tms_of {T : Nat → Prop} {w : AW} {b : Nat} {l : List Tm} (hT : T b) (h : CB w b (tmsC l)) : Rd T w (.slice b 0 l.length (.known l.length)) 3 l.length (tmsC l) := by
  have hl : (tmsC l).length = l.length * 3 := flat_len tmC_len l
  exact .blk hT h.lt h.get (.inl rfl) (by omega) (by rw [List.drop_zero, List.take_of_length_le (by omega)]) (Nat.le_refl _)
end Go.Proofs.Ytjidefnbancmfaa

/- The reference's parser: bodies. -/
set_option linter.unusedVariables false
set_option maxRecDepth 10000
set_option linter.unusedSimpArgs false
namespace Go.Proofs.Ytjidefnbancmfaa
open Go.AE Delphi
variable {tab : Tab}
end Go.Proofs.Ytjidefnbancmfaa

/- The reference's parser: rules, programs. -/
set_option linter.unusedVariables false
set_option maxRecDepth 10000
set_option linter.unusedSimpArgs false
namespace Go.Proofs.Ytjidefnbancmfaa
open Go.AE Delphi
variable {tab : Tab}
/-- a rule's cells. -/
def RlC (T : Nat → Prop) (w : AW) (r : Rl) (xs : List V) : Prop := ∃ v u, xs = [.int .i64 (Int.ofNat r.head.kind), .str r.head.name, v, u] ∧ Rd T w v 3 r.head.args.length (tmsC r.head.args) ∧ RdL (LtC T) T w u 3 r.body
theorem RlC.frm {T S : Nat → Prop} {w w' : AW} {r : Rl} {xs : List V} (h : RlC T w r xs) (hf : Frm S w w') (hd : ∀ x, T x → ¬ S x) : RlC T w' r xs := by
  obtain ⟨v, u, h1, h2, h3⟩ := h
  exact ⟨v, u, h1, h2.frm hf hd, h3.frm (fun _ _ h => h.frm hf hd) hf hd⟩
theorem rdl_mono {T T' : Nat → Prop} {w : AW} {u : V} {l : List Lt} (h : RdL (LtC T) T w u 3 l) (ht : ∀ x, T x → T' x) : RdL (LtC T') T' w u 3 l := by
  obtain ⟨xss, h1, h2⟩ := h
  exact ⟨xss, h1.mono ht, h2.imp fun _ _ h => h.mono ht⟩
theorem RlC.mono {T T' : Nat → Prop} {w : AW} {r : Rl} {xs : List V} (h : RlC T w r xs) (ht : ∀ x, T x → T' x) : RlC T' w r xs := by
  obtain ⟨v, u, h1, h2, h3⟩ := h
  exact ⟨v, u, h1, h2.mono ht, rdl_mono h3 ht⟩
theorem RlC.one {T : Nat → Prop} {w : AW} {r : Rl} {xs : List V} (h : RlC T w r xs) : xs.length = 4 ∧ allOne xs = true := by
  obtain ⟨v, u, rfl, h2, xss, h3, _⟩ := h
  refine ⟨rfl, ?_⟩
  rcases h2.inv with ⟨rfl, _⟩ | ⟨_, _, _, rfl, _⟩ <;> rcases h3.inv with ⟨rfl, _⟩ | ⟨_, _, _, rfl, _⟩ <;> rfl
end Go.Proofs.Ytjidefnbancmfaa

/- Words as scanning gives them. -/
set_option linter.unusedVariables false
namespace Delphi
end Delphi

/- The reference's parser: programs. -/
set_option linter.unusedVariables false
set_option maxRecDepth 10000
set_option linter.unusedSimpArgs false
namespace Go.Proofs.Ytjidefnbancmfaa
open Go.AE Delphi
variable {tab : Tab}
structure RS (a0 w : AW) (bp : Nat) (wv : V) (rules : List Rl) (k e : Nat) (rv : V) (S T : Nat → Prop) (xss : List (List V)) : Prop where
  p : PSt w bp wv k e
  frm : Frm (fun b => b = bp) a0 w
  buf : Buf S w rv 4 rules.length xss.flatten
  rls : All2 (RlC T w) rules xss
  sepS : ∀ x, S x → a0.next ≤ x ∧ x < w.next ∧ ¬ T x
  sepT : ∀ x, T x → a0.next ≤ x ∧ x < w.next
end Go.Proofs.Ytjidefnbancmfaa

set_option linter.unusedVariables false
set_option linter.unusedSimpArgs false
set_option linter.unusedSectionVars false
namespace Go.AE
theorem cells_map {b : Nat} : (V.map b).cells = [.map b] := rfl
theorem cells_nilmap : V.nilmap.cells = [.nilmap] := rfl
theorem cells_func {f : Fn} {a c : List V} : (V.func f a c).cells = [.func f a c] := rfl
theorem cells_iface {t : Nat} {v : V} : (V.iface t v).cells = [.iface t v] := rfl
theorem cells_niliface : V.niliface.cells = [.niliface] := rfl
attribute [go_sem] cells_map cells_nilmap cells_func cells_iface cells_niliface
section
variable {α β : Type} [DecidableEq α]
/-- what stands at a key. -/
def aget : List (α × β) → α → Option β
  | [], _ => none
  | (a, b) :: l, k => if k = a then some b else aget l k
/-- a value put at a key: in its place, or behind. -/
def aput : List (α × β) → α → β → List (α × β)
  | [], k, v => [(k, v)]
  | (a, b) :: l, k, v => if k = a then (a, v) :: l else (a, b) :: aput l k v
theorem aget_put_same : ∀ (l : List (α × β)) (k : α) (v : β), aget (aput l k v) k = some v
  | [], k, v => by simp [aput, aget]
  | (a, b) :: l, k, v => by
    by_cases h : k = a
    · simp [aput, aget, h]
    · simp only [aput, if_neg h, aget]; exact aget_put_same l k v
theorem aget_put_ne : ∀ (l : List (α × β)) (k k' : α) (v : β), k' ≠ k → aget (aput l k v) k' = aget l k'
  | [], k, k', v, h => by simp [aput, aget, h]
  | (a, b) :: l, k, k', v, h => by
    by_cases hk : k = a
    · subst hk; simp [aput, aget, h]
    · simp only [aput, if_neg hk, aget, aget_put_ne l k k' v h]
/-- how keys stand as values. -/
structure KeyE (t : KeyTy) (ke : α → V) : Prop where
  eq : ∀ a b, eqKey t (ke a) (ke b) = some (decide (a = b))
  ok : ∀ a, keyOk t (ke a) = true
def MRel (ke : α → V) (ve : β → V) (p : α × β) (e : V × V × Nat) : Prop := e.1 = ke p.1 ∧ e.2.1 = ve p.2
/-- a map's block. -/
structure MB (ke : α → V) (ve : β → V) (w : AW) (b : Nat) (M : List (α × β)) : Prop where
  lt : b < w.next
  get : ∃ es ck, w.heap.get b = some (.map es ck) ∧ All2 (MRel ke ve) M es
variable {ke : α → V} {ve : β → V} {t : KeyTy}
/-- what a look comes to. -/
def mres (ve : β → V) (zero : V) : Option β → V × Bool
  | some v => (ve v, true)
  | none => (zero, false)
theorem MB.frm {S : Nat → Prop} {w w' : AW} {b : Nat} {M : List (α × β)} (h : MB ke ve w b M) (hf : Frm S w w') (hn : ¬ S b) : MB ke ve w' b M := by
  obtain ⟨es, ck, h1, h2⟩ := h.get
  exact ⟨Nat.lt_of_lt_of_le h.lt hf.next, es, ck, (hf.heap b h.lt hn).trans h1, h2⟩
theorem findE_map (hk : KeyE t ke) {k : α} : ∀ {M : List (α × β)} {es : List (V × V × Nat)} (i : Nat), All2 (MRel ke ve) M es →
    (aget M k = none → findE t (ke k) es i = some none) ∧ ∀ v, aget M k = some v → ∃ j n, findE t (ke k) es i = some (some (i + j, ve v, n)) ∧ ∀ v', All2 (MRel ke ve) (aput M k v') (setE j (ke k) (ve v') es)
  | [], _, i, .nil => ⟨fun _ => rfl, fun v h => by simp [aget] at h⟩
  | (a, b) :: M, (x, y, n) :: es, i, .cons h1 h2 => by
    obtain ⟨q1, q2⟩ := h1
    simp only at q1 q2
    subst q1; subst q2
    by_cases h : k = a
    · subst h
      refine ⟨fun hn => by simp [aget] at hn, fun v hv => ?_⟩
      simp only [aget, if_true, Option.some.injEq] at hv
      subst hv
      refine ⟨0, n, by simp only [findE, hk.eq, decide_true, Nat.add_zero], fun v' => ?_⟩
      simp only [aput, if_true, setE, List.getElem?_cons_zero, List.set_cons_zero]
      exact .cons ⟨rfl, rfl⟩ h2
    · obtain ⟨r1, r2⟩ := findE_map hk (k := k) (i + 1) h2
      refine ⟨fun hn => ?_, fun v hv => ?_⟩
      · simp only [aget, if_neg h] at hn
        simp only [findE, hk.eq, decide_eq_false h]
        exact r1 hn
      · simp only [aget, if_neg h] at hv
        obtain ⟨j, m, s1, s2⟩ := r2 v hv
        refine ⟨j + 1, m, ?_, fun v' => ?_⟩
        · simp only [findE, hk.eq, decide_eq_false h]
          rw [s1]; congr 3; omega
        · have := s2 v'
          simp only [aput, if_neg h]
          have e : setE (j + 1) (ke k) (ve v') ((ke a, ve b, n) :: es) = (ke a, ve b, n) :: setE j (ke k) (ve v') es := by
            simp only [setE, List.getElem?_cons_succ]
            split <;> simp
          rw [e]
          exact .cons ⟨rfl, rfl⟩ this
theorem MB.look (hk : KeyE t ke) {w : AW} {b : Nat} {M : List (α × β)} (h : MB ke ve w b M) (zero : V) (k : α) : w.lookV t zero (.map b) (ke k) = some (mres ve zero (aget M k)) := by
  obtain ⟨es, ck, h1, h2⟩ := h.get
  obtain ⟨r1, r2⟩ := findE_map hk (k := k) 0 h2
  simp only [AW.lookV, AW.entries, h1, hk.ok]
  cases hg : aget M k with
  | none => simp only [r1 hg, mres]
  | some v => obtain ⟨j, n, s1, _⟩ := r2 v hg; simp only [s1, mres]
theorem aput_none : ∀ {M : List (α × β)} {k : α}, aget M k = none → ∀ v, aput M k v = M ++ [(k, v)]
  | [], k, _, v => rfl
  | (a, b) :: M, k, h, v => by
    simp only [aget] at h
    split at h
    · cases h
    · rename_i hn
      simp only [aput, if_neg hn, aput_none h v, List.cons_append]
theorem mturn_frm {w : AW} {b : Nat} {es : List (V × V × Nat)} {ck : Nat} : Frm (fun x => x = b) w (w.turn b (.map es ck)) :=
  ⟨Nat.le_refl _, fun c hc hn => T.get_put_ne hn, fun c hc hn => rfl⟩
theorem MB.put (hk : KeyE t ke) {w : AW} {b : Nat} {M : List (α × β)} (h : MB ke ve w b M) (k : α) (v : β) : ∃ w', w.putV t (.map b) (ke k) (ve v) = some w' ∧ MB ke ve w' b (aput M k v) ∧ Frm (fun x => x = b) w w' ∧ w'.next = w.next := by
  obtain ⟨es, ck, h1, h2⟩ := h.get
  obtain ⟨r1, r2⟩ := findE_map hk (k := k) 0 h2
  simp only [AW.putV, AW.entries, h1, hk.ok]
  cases hg : aget M k with
  | none =>
    refine ⟨w.turn b (.map (es ++ [(ke k, ve v, ck)]) (ck + 1)), by simp only [r1 hg], ⟨h.lt, _, _, T.get_put_same, ?_⟩, mturn_frm, rfl⟩
    rw [aput_none hg]
    exact h2.snoc ⟨rfl, rfl⟩
  | some u =>
    obtain ⟨j, n, s1, s2⟩ := r2 u hg
    refine ⟨w.turn b (.map (setE j (ke k) (ve v) es) ck), ?_, ⟨h.lt, _, _, T.get_put_same, s2 v⟩, mturn_frm, rfl⟩
    simp only [s1, Nat.zero_add]
theorem MB.len {w : AW} {b : Nat} {M : List (α × β)} (h : MB ke ve w b M) : ∃ es ck, w.entries (.map b) = some (some b, es, ck) ∧ es.length = M.length := by
  obtain ⟨es, ck, h1, h2⟩ := h.get
  exact ⟨es, ck, by simp only [AW.entries, h1], h2.len.symm⟩
theorem MB.new (w : AW) : MB ke ve (w.new (.map [] 0)) w.next ([] : List (α × β)) := ⟨Nat.lt_succ_self _, [], 0, T.get_put_same, .nil⟩
end
theorem mnew_frm {S : Nat → Prop} (w : AW) : Frm S w (w.new (.map [] 0)) := Frm.new w _
theorem strKey : KeyE (.scalar .str) V.str := ⟨fun a b => by
  show some (eqL a b) = _
  congr 1
  by_cases h : a = b
  · rw [decide_eq_true h]; exact eqL_iff.2 h
  · rw [decide_eq_false h]
    cases hc : eqL a b with
    | false => rfl
    | true => exact absurd (eqL_iff.1 hc) h, fun _ => rfl⟩
/-- a slice of one's own that fills its block. -/
inductive Bt (S : Nat → Prop) (w : AW) : V → Nat → Nat → List V → Prop
  | nil {esz : Nat} : Bt S w .nilslice esz 0 []
  | blk {b n esz : Nat} {cs : List V} {sh : Share} (hS : S b) (hb : b < w.next) (hx : w.heap.get b = some (.cells cs sh)) (hl : cs.length = n * esz) (he : 0 < esz) (hn : 0 < n) (hs : Shr S w b sh) : Bt S w (.slice b 0 n (.upTo esz)) esz n cs
theorem Bt.buf {S : Nat → Prop} {w : AW} {v : V} {esz n : Nat} {cs : List V} (h : Bt S w v esz n cs) : Buf S w v esz n cs := by
  cases h with
  | nil => exact .nil
  | blk hS hb hx hl he hn hs => exact .blk (r := 0) (rest := []) hS hb (by rw [List.append_nil]; exact hx) hl (by simp) he (by omega) hs
theorem Bt.mono {S S' : Nat → Prop} {w : AW} {v : V} {esz n : Nat} {cs : List V} (h : Bt S w v esz n cs) (hs : ∀ x, S x → S' x) : Bt S' w v esz n cs := by
  cases h with
  | nil => exact .nil
  | blk hS hb hx hl he hn hsh => exact .blk (hs _ hS) hb hx hl he hn (hsh.mono hs)
theorem Bt.frm {S T : Nat → Prop} {w w' : AW} {v : V} {esz n : Nat} {cs : List V} (h : Bt S w v esz n cs) (hf : Frm T w w') (hd : ∀ x, S x → ¬ T x) : Bt S w' v esz n cs := by
  cases h with
  | nil => exact .nil
  | blk hS hb hx hl he hn hsh => exact .blk hS (Nat.lt_of_lt_of_le hb hf.next) ((hf.heap _ hb (hd _ hS)).trans hx) hl he hn (hsh.frm hf hd)
theorem Bt.len {S : Nat → Prop} {w : AW} {v : V} {esz n : Nat} {cs : List V} (h : Bt S w v esz n cs) : cs.length = n * esz := h.buf.len
theorem Bt.rd {S : Nat → Prop} {w : AW} {v : V} {esz n : Nat} {cs : List V} (h : Bt S w v esz n cs) : Rd S w v esz n cs := h.buf.rd
theorem Bt.lenV {S : Nat → Prop} {w : AW} {v : V} {esz n : Nat} {cs : List V} (h : Bt S w v esz n cs) : lenV v = some n := h.buf.lenV
theorem Bt.one {S : Nat → Prop} {w : AW} {v : V} {esz n : Nat} {cs : List V} (h : Bt S w v esz n cs) : v.one = true ∧ v.cells = [v] := by cases h <;> exact ⟨rfl, rfl⟩
theorem Bt.inv {S : Nat → Prop} {w : AW} {v : V} {esz n : Nat} {cs : List V} (h : Bt S w v esz n cs) : (v = .nilslice ∧ n = 0 ∧ cs = []) ∨ ∃ b, v = .slice b 0 n (.upTo esz) ∧ S b ∧ b < w.next := h.buf.inv
/-- some more elements. -/
theorem Bt.addN {S : Nat → Prop} {w : AW} {v : V} {esz n k bytes : Nat} {cs news : List V} (h : Bt S w v esz n cs) (he : 0 < esz) (hl : news.length = k * esz) (h1 : allOne news = true) (hb : (n + k) * bytes ≤ 70368744177664) (hb' : n + k ≤ 70368744177664) :
    ∃ v' w' S', w.appendV esz bytes v k news = some (v', w') ∧ Bt S' w' v' esz (n + k) (cs ++ news) ∧ Frm S w w' ∧ Grown S S' w w' := by
  cases k with
  | zero =>
    have : news = [] := List.length_eq_zero_iff.1 (by simpa using hl)
    subst this
    refine ⟨v, w, fun x => S x ∧ x < w.next, ?_, ?_, Frm.refl _, fun b hb => ⟨hb.2, .inl hb.1⟩⟩
    · cases h <;> rfl
    · rw [List.append_nil, Nat.add_zero]
      cases h with
      | nil => exact .nil
      | blk hS hbw hx hlen he' hn hs =>
        refine .blk ⟨hS, hbw⟩ hbw hx hlen he' hn ?_
        rcases hs with rfl | rfl | ⟨f, F, rfl, q1, q2, q3⟩
        · exact .inl rfl
        · exact .inr (.inl rfl)
        · exact .inr (.inr ⟨f, F, rfl, ⟨q1, q2⟩, q2, q3⟩)
  | succ k =>
    cases h with
    | nil =>
      refine ⟨.slice w.next 0 (k + 1) (.upTo esz), w.fresh news, fun b => b = w.next, ?_, ?_, Frm.new _ _, ?_⟩
      · simp only [AW.appendV]; rw [if_pos ⟨by simpa using hb, by omega⟩]
      · rw [Nat.zero_add]; exact .blk rfl (Nat.lt_succ_self _) T.get_put_same (by simpa using hl) he (by omega) (.inl rfl)
      · rintro b rfl; exact ⟨Nat.lt_succ_self _, .inr (Nat.le_refl _)⟩
    | @blk b _ _ _ sh hS hbw hx hlen he' hn hs =>
      have happ : w.appendV esz bytes (.slice b 0 n (.upTo esz)) (k + 1) news = w.appendUp esz b 0 n (k + 1) news := if_pos ⟨rfl, hb, hb', h1, he⟩
      rw [happ]
      have hbeq : Nat.beq (0 + n * esz) cs.length = true := by rw [Nat.zero_add, hlen, Nat.beq_refl]
      have fam : ∀ (u : AW) (f : Nat) (F : Fam), w.next ≤ u.next → Frm S w u → u.heap.get b = some (.cells cs (.fam f)) → (S f ∨ w.next ≤ f) → f < u.next → b < u.next → u.fams.get f = some F → F.last = b → F.floor ≤ u.next → u.alive b (.fam f) = true →
          ∃ v' w' S', u.appendFam esz b 0 n (k + 1) news = some (v', w') ∧ Bt S' w' v' esz (n + (k + 1)) (cs ++ news) ∧ Frm S w w' ∧ Grown S S' w w' := by
        intro u f F hle hfu hx hSf hfl hbu hF hlast hflo hal
        refine ⟨.slice u.next 0 (n + (k + 1)) (.upTo esz), u.grow b f F (cs.drop 0 ++ news), fun x => x = u.next ∨ x = f, ?_, ?_, ?_, ?_⟩
        · simp only [AW.appendFam, hx, hal, hF, hbeq]
        · have hg : (u.grow b f F (cs.drop 0 ++ news)).fams.get f = some ⟨F.keep, F.floor, u.next⟩ := by
            simp only [AW.grow, T.get_putk, if_true, hlast, Nat.beq_refl]
          refine .blk (sh := .fam f) (.inl rfl) (Nat.lt_succ_self _) ?_ ?_ he (by omega) (.inr (.inr ⟨f, ⟨F.keep, F.floor, u.next⟩, rfl, .inr rfl, Nat.lt_succ_of_lt hfl, hg, rfl, Nat.le_succ_of_le hflo, ?_⟩))
          · simp only [AW.grow, T.get_putk, if_true, List.drop_zero]
          · rw [List.length_append, hlen, hl, Nat.add_mul n]
          · simp only [AW.alive, hg, Bool.or_eq_true]
            exact .inr (Nat.ble_eq_true_of_le hflo)
        · refine hfu.trans (T := fun x => x = f ∨ u.next ≤ x) ⟨Nat.le_succ _, fun c hc hn => T.get_put_ne (by omega), fun c hc hn => T.get_put_ne fun e => hn (.inl e)⟩ (fun x hx h => h) ?_
          rintro x hx (rfl | h)
          · rcases hSf with h | h
            · exact h
            · omega
          · omega
        · rintro x (rfl | rfl)
          · exact ⟨Nat.lt_succ_self _, .inr hle⟩
          · exact ⟨Nat.lt_succ_of_lt hfl, hSf⟩
      have fnd : sh = .own ∨ sh = .lax → ∃ v' w' S', (w.found b cs).appendFam esz b 0 n (k + 1) news = some (v', w') ∧ Bt S' w' v' esz (n + (k + 1)) (cs ++ news) ∧ Frm S w w' ∧ Grown S S' w w' := by
        intro _
        refine fam (w.found b cs) w.next ⟨b, w.next + 1, b⟩ (Nat.le_succ _) ⟨Nat.le_succ _, fun c hc hn => T.get_put_ne fun e => hn (e ▸ hS), fun c hc hn => T.get_put_ne (by omega)⟩ T.get_put_same (.inr (Nat.le_refl _)) (Nat.lt_succ_self _) (Nat.lt_succ_of_lt hbw) T.get_put_same rfl (Nat.le_refl _) ?_
        simp only [AW.alive, AW.found, T.get_putk, if_true, Nat.beq_refl, Bool.true_or]
      simp only [AW.appendUp, hx, hbeq]
      rcases hs with rfl | rfl | ⟨f, F, rfl, g1, g2, g3, g4, g6, g5⟩
      · exact fnd (.inl rfl)
      · exact fnd (.inr rfl)
      · exact fam w f F (Nat.le_refl _) (Frm.refl _) hx (.inl g1) g2 hbw g3 g4 g6 g5
theorem Bt.push {S : Nat → Prop} {w : AW} {v : V} {esz n bytes : Nat} {cs news : List V} (h : Bt S w v esz n cs) (hS : ∀ b, S b → b < w.next) (he : 0 < esz) (hl : news.length = esz) (h1 : allOne news = true) (hb : (n + 1) * bytes ≤ 70368744177664) (hb' : n + 1 ≤ 70368744177664) :
    ∃ v' w' S', (w.fresh news).appendV esz bytes v 1 news = some (v', w') ∧ Bt S' w' v' esz (n + 1) (cs ++ news) ∧ Frm S w w' ∧ Grown S S' w w' := by
  have hx : Frm (fun _ => False) w (w.fresh news) := Frm.new _ _
  obtain ⟨v', w', S', h2, h3, h4, h5⟩ := (h.frm hx fun _ _ h => h).addN (news := news) (k := 1) (bytes := bytes) he (by omega) h1 hb hb'
  refine ⟨v', w', S', h2, h3, hx.trans h4 (fun _ _ h => h.elim) fun _ _ h => h, fun b hb => ?_⟩
  obtain ⟨q1, q2⟩ := h5 b hb
  exact ⟨q1, q2.imp id fun h => Nat.le_trans hx.next h⟩
end Go.AE

/- check.Vars: the variables of terms, each once. -/
set_option linter.unusedVariables false
set_option maxRecDepth 10000
set_option linter.unusedSimpArgs false
namespace Delphi
/-- the variables of terms, from the left, each once. -/
def addVar (out : List (List Nat)) (t : Tm) : List (List Nat) := if t.kind = 1 ∧ t.name ∉ out then out ++ [t.name] else out
def cVars (l : List Tm) : List (List Nat) := l.foldl addVar []
theorem addVar_len (out : List (List Nat)) (t : Tm) : (addVar out t).length ≤ out.length + 1 := by
  unfold addVar; split <;> simp
theorem cVars_len (l : List Tm) : (cVars l).length ≤ l.length := by
  have : ∀ (l : List Tm) (out : List (List Nat)), (l.foldl addVar out).length ≤ out.length + l.length := by
    intro l
    induction l with
    | nil => intro out; simp
    | cons t l ih =>
      intro out
      rw [List.foldl_cons, List.length_cons]
      have := ih (addVar out t)
      have := addVar_len out t
      omega
  simpa [cVars] using this l []
end Delphi
namespace Go.Proofs.Ytjidefnbancmfaa
open Go.AE Delphi
variable {tab : Tab}
theorem tms_at {T : Nat → Prop} {w : AW} {v : V} {l : List Tm} (h : Rd T w v 3 l.length (tmsC l)) {i : Nat} {t : Tm} (hi : l[i]? = some t) : ∃ b o c, v = .slice b o l.length c ∧ T b ∧ b < w.next ∧ w.load b (o + i * 3) 3 = some (tmC t) ∧ w.load b (o + i * 3) 1 = some [.int .i64 (Int.ofNat t.kind)] ∧ w.load b (o + i * 3 + 1) 1 = some [.str t.name] := by
  have hlt : i < l.length := (List.getElem?_eq_some_iff.1 hi).1
  rcases h.inv with ⟨_, q2, _⟩ | ⟨b, o, c, rfl, hB⟩
  · omega
  · have part : ∀ j k, j + k ≤ 3 → w.load b (o + i * 3 + j) k = some (((tmC t).drop j).take k) := by
      intro j k hjk
      rw [Nat.add_assoc, hB.load (i * 3 + j) k (by omega)]
      have h2 := flat_part tmC_len (i := i) (j := j) (k := k) hi hjk
      rw [Nat.zero_add] at h2
      exact congrArg some h2
    exact ⟨b, o, c, rfl, hB.own, hB.lt, part 0 3 (by omega), part 0 1 (by omega), part 1 1 (by omega)⟩
theorem lits_at {T : Nat → Prop} {w : AW} {v : V} {l : List Lt} (h : RdL (LtC T) T w v 3 l) {i : Nat} {t : Lt} (hi : l[i]? = some t) : ∃ b o c u, v = .slice b o l.length c ∧ T b ∧ b < w.next ∧ w.load b (o + i * 3) 3 = some [.int .i64 (Int.ofNat t.kind), .str t.name, u] ∧ w.load b (o + i * 3) 1 = some [.int .i64 (Int.ofNat t.kind)] ∧ w.load b (o + i * 3 + 1) 1 = some [.str t.name] ∧ w.load b (o + i * 3 + 2) 1 = some [u] ∧ Rd T w u 3 t.args.length (tmsC t.args) := by
  have hlt : i < l.length := (List.getElem?_eq_some_iff.1 hi).1
  rcases h.inv (fun a xs hx => (LtC.one hx).1) with ⟨_, q2⟩ | ⟨b, o, c, rfl, hT, hb, _, hat⟩
  · rw [q2] at hlt; simp at hlt
  · obtain ⟨xs, ⟨u, rfl, hu⟩, hp⟩ := hat i t hi
    exact ⟨b, o, c, u, rfl, hT, hb, hp 0 3 (by omega), hp 0 1 (by omega), hp 1 1 (by omega), hp 2 1 (by omega), hu⟩
theorem rdL_lenV {α : Type} {r : AW → α → List V → Prop} {T : Nat → Prop} {w : AW} {v : V} {esz : Nat} {l : List α} (h : RdL r T w v esz l) : lenV v = some l.length := by
  obtain ⟨xss, h1, _⟩ := h; exact h1.lenV
def strsC (l : List (List Nat)) : List V := l.map V.str
theorem strsC_len (l : List (List Nat)) : (strsC l).length = l.length := by simp [strsC]
abbrev SM := MB (α := List Nat) (β := Int) V.str (V.int .i64)
/-- what is seen, how often. -/
def Seen (M : List (List Nat × Int)) (out : List (List Nat)) (i : Nat) : Prop := ∀ x, (aget M x = none ↔ x ∉ out) ∧ ∀ c, aget M x = some c → 1 ≤ c ∧ c ≤ i
def VarI (T : Nat → Prop) (aw : AW) (lv : V) (l : List Tm) (q : Nat) (f : Fr) (w : AW) : Prop :=
  ∃ i bm M out ov S, f.get 3 = some ov ∧ f.get 4 = some (.map bm) ∧ f.get 8 = some lv ∧ f.get 9 = some (.int .i64 (Int.ofNat l.length)) ∧ f.get 10 = some (.int .i64 (Int.ofNat i)) ∧ i ≤ l.length ∧ q = l.length - i ∧
    SM w bm M ∧ aw.next ≤ bm ∧ Seen M out i ∧ cVars l = (l.drop i).foldl addVar out ∧ out.length ≤ i ∧ Bt S w ov 1 out.length (strsC out) ∧ (∀ x, S x → aw.next ≤ x ∧ x < w.next ∧ x ≠ bm) ∧ Frm (fun _ => False) aw w
def VarJ (aw : AW) (l : List Tm) (f : Fr) (w : AW) : Prop := ∃ ov S, f.get 3 = some ov ∧ Bt S w ov 1 (cVars l).length (strsC (cVars l)) ∧ (∀ x, S x → aw.next ≤ x ∧ x < w.next) ∧ Frm (fun _ => False) aw w
/-- Vars. -/
theorem vars_ok (C : Codes tab) {T : Nat → Prop} {aw : AW} {lv : V} {l : List Tm} {K : V → AW → Prop} (hl : Rd T aw lv 3 l.length (tmsC l)) (hn : l.length ≤ 100000)
    (h : ∀ v w S, Bt S w v 1 (cVars l).length (strsC (cVars l)) → Frm (fun _ => False) aw w → (∀ x, S x → aw.next ≤ x ∧ x < w.next) → K v w) : WF tab n_check_Vars [lv] aw K := by
  refine WF_of C.c_check_Vars rfl ?_
  have hlv := hl.lenV
  refine WS_run 1000 (by simp only [go_sem, eRun_exit, Nat.reduceAdd, Nat.reduceLT, Nat.reduceEqDiff, reduceIte, reduceCtorEq, Int.reduceBEq, Int.reduceBNe, Int.reduceLT, Int.reduceLE, Int.reduceGT, Int.reduceGE, Int.reduceEq, Int.reduceAdd, Int.reduceSub, Int.reduceMul, Nat.reduceMul, Nat.reduceSub, Nat.reduceLeDiff, k_check_Vars, k_check_Vars_p5, hlv]; rfl) ?_
  refine WS_loopJ (VarI T aw lv l) (VarJ aw l) ?_ ?_ l.length ⟨0, aw.next, [], [], .nilslice, fun _ => False, (by simp only [go_sem, eRun_exit, Nat.reduceAdd, Nat.reduceLT, Nat.reduceEqDiff, reduceIte, reduceCtorEq, Int.reduceBEq, Int.reduceBNe, Int.reduceLT, Int.reduceLE, Int.reduceGT, Int.reduceGE, Int.reduceEq, Int.reduceAdd, Int.reduceSub, Int.reduceMul, Nat.reduceMul, Nat.reduceSub, Nat.reduceLeDiff] <;> rfl), (by simp only [go_sem, eRun_exit, Nat.reduceAdd, Nat.reduceLT, Nat.reduceEqDiff, reduceIte, reduceCtorEq, Int.reduceBEq, Int.reduceBNe, Int.reduceLT, Int.reduceLE, Int.reduceGT, Int.reduceGE, Int.reduceEq, Int.reduceAdd, Int.reduceSub, Int.reduceMul, Nat.reduceMul, Nat.reduceSub, Nat.reduceLeDiff] <;> rfl), (by simp only [go_sem, eRun_exit, Nat.reduceAdd, Nat.reduceLT, Nat.reduceEqDiff, reduceIte, reduceCtorEq, Int.reduceBEq, Int.reduceBNe, Int.reduceLT, Int.reduceLE, Int.reduceGT, Int.reduceGE, Int.reduceEq, Int.reduceAdd, Int.reduceSub, Int.reduceMul, Nat.reduceMul, Nat.reduceSub, Nat.reduceLeDiff] <;> rfl), (by simp only [go_sem, eRun_exit, Nat.reduceAdd, Nat.reduceLT, Nat.reduceEqDiff, reduceIte, reduceCtorEq, Int.reduceBEq, Int.reduceBNe, Int.reduceLT, Int.reduceLE, Int.reduceGT, Int.reduceGE, Int.reduceEq, Int.reduceAdd, Int.reduceSub, Int.reduceMul, Nat.reduceMul, Nat.reduceSub, Nat.reduceLeDiff] <;> rfl), (by simp only [go_sem, eRun_exit, Nat.reduceAdd, Nat.reduceLT, Nat.reduceEqDiff, reduceIte, reduceCtorEq, Int.reduceBEq, Int.reduceBNe, Int.reduceLT, Int.reduceLE, Int.reduceGT, Int.reduceGE, Int.reduceEq, Int.reduceAdd, Int.reduceSub, Int.reduceMul, Nat.reduceMul, Nat.reduceSub, Nat.reduceLeDiff] <;> rfl), by omega, by omega, MB.new aw, Nat.le_refl _, fun x => ⟨by simp [aget], fun c hc => by simp [aget] at hc⟩, rfl, by simp, .nil, fun _ h => h.elim, mnew_frm aw⟩
  · rintro q f w ⟨i, bm, M, out, ov, S, f3, f4, f8, f9, f10, hi, rfl, hM, hbm, hseen, hfold, hol, hb, hS, hf⟩ ih exit
    by_cases hlt : i < l.length
    case neg =>
      rw [List.drop_eq_nil_of_le (by omega : l.length ≤ i)] at hfold
      have hfold : cVars l = out := hfold
      refine WS_runB 1000 (by simp only [go_sem, Nat.reduceAdd, Nat.reduceLT, Nat.reduceEqDiff, reduceIte, reduceCtorEq, Int.reduceBEq, Int.reduceBNe, Int.reduceLT, Int.reduceLE, Int.reduceGT, Int.reduceGE, Int.reduceEq, Int.reduceAdd, Int.reduceSub, Int.reduceMul, Nat.reduceMul, Nat.reduceSub, Nat.reduceLeDiff, k_check_Vars_p4, f9, f10, hlt]; rfl) ?_
      exact exit _ _ _ ⟨ov, S, (by simp only [go_sem, eRun_exit, Nat.reduceAdd, Nat.reduceLT, Nat.reduceEqDiff, reduceIte, reduceCtorEq, Int.reduceBEq, Int.reduceBNe, Int.reduceLT, Int.reduceLE, Int.reduceGT, Int.reduceGE, Int.reduceEq, Int.reduceAdd, Int.reduceSub, Int.reduceMul, Nat.reduceMul, Nat.reduceSub, Nat.reduceLeDiff, f3] <;> rfl), by rw [hfold]; exact hb, fun x hx => ⟨(hS x hx).1, (hS x hx).2.1⟩, hf⟩ rfl
    obtain ⟨t, ht⟩ : ∃ t, l[i]? = some t := ⟨_, List.getElem?_eq_getElem hlt⟩
    obtain ⟨b, o, c, rfl, hTb, hbl, a3, a1, a2⟩ := tms_at (hl.frm hf fun _ _ h => h) ht
    have hd : l.drop i = t :: l.drop (i + 1) := by
      rw [List.drop_eq_getElem_cons hlt]; rw [List.getElem?_eq_getElem hlt] at ht; rw [Option.some.inj ht]
    rw [hd, List.foldl_cons] at hfold
    have hwr : IntKind.wrap .i64 (Int.ofNat i + 1) = Int.ofNat (i + 1) := wrap_succ (by omega)
    obtain ⟨w2, s2, c2, r2, n2⟩ := boxed w (zs := [V.int .i64 0, V.str [], V.int .i64 0]) (vs := tmC t) rfl rfl
    have k0 : w2.load w.next 0 1 = some [.int .i64 (Int.ofNat t.kind)] := by rw [c2.load]; rfl
    have k1 : w2.load w.next 1 1 = some [.str t.name] := by rw [c2.load]; rfl
    have hM2 := hM.frm r2 fun h => h
    have hb2 := hb.frm r2 fun _ _ h => h
    have hf2 := hf.tr r2
    have nw := hf.next
    by_cases hk : t.kind = 1
    case neg =>
      have he : addVar out t = out := if_neg fun h => hk h.1
      rw [he] at hfold
      refine WS_run 1000 (by simp only [go_sem, eRun_exit, Nat.reduceAdd, Nat.reduceLT, Nat.reduceEqDiff, reduceIte, reduceCtorEq, Int.reduceBEq, Int.reduceBNe, Int.reduceLT, Int.reduceLE, Int.reduceGT, Int.reduceGE, Int.reduceEq, Int.reduceAdd, Int.reduceSub, Int.reduceMul, Nat.reduceMul, Nat.reduceSub, Nat.reduceLeDiff, k_check_Vars_p4, k_check_Vars_p3, f3, f4, f8, f9, f10, hlt, a3, s2, tmC_len, k0, hk, hwr]; rfl) ?_
      exact ih _ _ _ (by omega) ⟨i + 1, bm, M, out, ov, S, (by simp only [go_sem, eRun_exit, Nat.reduceAdd, Nat.reduceLT, Nat.reduceEqDiff, reduceIte, reduceCtorEq, Int.reduceBEq, Int.reduceBNe, Int.reduceLT, Int.reduceLE, Int.reduceGT, Int.reduceGE, Int.reduceEq, Int.reduceAdd, Int.reduceSub, Int.reduceMul, Nat.reduceMul, Nat.reduceSub, Nat.reduceLeDiff, f3] <;> rfl), (by simp only [go_sem, eRun_exit, Nat.reduceAdd, Nat.reduceLT, Nat.reduceEqDiff, reduceIte, reduceCtorEq, Int.reduceBEq, Int.reduceBNe, Int.reduceLT, Int.reduceLE, Int.reduceGT, Int.reduceGE, Int.reduceEq, Int.reduceAdd, Int.reduceSub, Int.reduceMul, Nat.reduceMul, Nat.reduceSub, Nat.reduceLeDiff, f4] <;> rfl), (by simp only [go_sem, eRun_exit, Nat.reduceAdd, Nat.reduceLT, Nat.reduceEqDiff, reduceIte, reduceCtorEq, Int.reduceBEq, Int.reduceBNe, Int.reduceLT, Int.reduceLE, Int.reduceGT, Int.reduceGE, Int.reduceEq, Int.reduceAdd, Int.reduceSub, Int.reduceMul, Nat.reduceMul, Nat.reduceSub, Nat.reduceLeDiff, f8] <;> rfl), (by simp only [go_sem, eRun_exit, Nat.reduceAdd, Nat.reduceLT, Nat.reduceEqDiff, reduceIte, reduceCtorEq, Int.reduceBEq, Int.reduceBNe, Int.reduceLT, Int.reduceLE, Int.reduceGT, Int.reduceGE, Int.reduceEq, Int.reduceAdd, Int.reduceSub, Int.reduceMul, Nat.reduceMul, Nat.reduceSub, Nat.reduceLeDiff, f9] <;> rfl), (by simp only [go_sem, eRun_exit, Nat.reduceAdd, Nat.reduceLT, Nat.reduceEqDiff, reduceIte, reduceCtorEq, Int.reduceBEq, Int.reduceBNe, Int.reduceLT, Int.reduceLE, Int.reduceGT, Int.reduceGE, Int.reduceEq, Int.reduceAdd, Int.reduceSub, Int.reduceMul, Nat.reduceMul, Nat.reduceSub, Nat.reduceLeDiff] <;> rfl), by omega, rfl, hM2, hbm, fun x => ⟨(hseen x).1, fun c hc => by have := (hseen x).2 c hc; omega⟩, hfold, by omega, hb2, fun x hx => by have := hS x hx; exact ⟨this.1, by omega, this.2.2⟩, hf2⟩
    -- how often it was seen
    obtain ⟨n, hn0, hn1, hgn⟩ : ∃ n : Nat, n ≤ i ∧ (n = 0 ↔ t.name ∉ out) ∧ mres (V.int .i64) (V.int .i64 0) (aget M t.name) = (V.int .i64 (Int.ofNat n), decide (n ≠ 0)) := by
      cases hg : aget M t.name with
      | none => exact ⟨0, by omega, by simp [(hseen t.name).1.1 hg], rfl⟩
      | some c =>
        have hc := (hseen t.name).2 c hg
        have hin : ¬ t.name ∉ out := fun h => by have := (hseen t.name).1.2 h; rw [this] at hg; cases hg
        refine ⟨c.toNat, by omega, ⟨fun h => by omega, fun h => absurd h hin⟩, ?_⟩
        have e1 : Int.ofNat c.toNat = c := by simp; omega
        have e2 : decide (c.toNat ≠ 0) = true := decide_eq_true (by omega)
        show (V.int .i64 c, true) = _
        rw [e1, e2]
    have look := hM2.look strKey (.int .i64 0) t.name
    rw [hgn] at look
    obtain ⟨w3, p3, hM3, r3, n3⟩ := hM2.put strKey t.name (Int.ofNat (n + 1))
    have hw3 : IntKind.wrap .i64 (Int.ofNat n + 1) = Int.ofNat (n + 1) := wrap_succ (by omega)
    have k3 : w3.load w.next 1 1 = some [.str t.name] := by rw [(c2.frm r3 (by have := hM.lt; omega)).load]; rfl
    have look3 := hM3.look strKey (.int .i64 0) t.name
    rw [aget_put_same] at look3
    simp only [mres] at look3
    have hb3 := hb2.frm r3 fun x hx he => (hS x hx).2.2 he
    have hf3 : Frm (fun _ => False) aw w3 := hf2.trans r3 (fun _ _ h => h) (by rintro x hx rfl; omega)
    have seen3 : ∀ out', (∀ x, x ∈ out' ↔ x ∈ out ∨ x = t.name) → Seen (aput M t.name (Int.ofNat (n + 1))) out' (i + 1) := by
      intro out' ho x
      by_cases hx : x = t.name
      · subst hx
        rw [aget_put_same]
        refine ⟨⟨fun h => (by cases h), fun h => absurd ((ho t.name).2 (.inr rfl)) h⟩, fun c hc => ?_⟩
        cases hc
        constructor
        · show (1 : Int) ≤ ((n + 1 : Nat) : Int); omega
        · show ((n + 1 : Nat) : Int) ≤ _; omega
      · rw [aget_put_ne _ _ _ _ hx]
        refine ⟨?_, fun c hc => by have := (hseen x).2 c hc; omega⟩
        rw [(hseen x).1, ho x]
        simp [hx]
    by_cases hn : n = 0
    · have hno := hn1.1 hn
      have he : addVar out t = out ++ [t.name] := if_pos ⟨hk, hno⟩
      rw [he] at hfold
      subst hn
      have hS3 : ∀ b, S b → b < w3.next := fun b hb => by have := (hS b hb).2; omega
      obtain ⟨v', w5, S5, u1, u2, u3, u4⟩ := hb3.push (news := [V.str t.name]) (bytes := 16) hS3 (by omega) rfl rfl (by omega) (by omega)
      have b4 := elems_fresh (w := w3) (esz := 1) (n := 1) (cs := [V.str t.name]) (c := .known 1) (by omega) rfl
      have hov : over [V.str []] 0 [V.str t.name] = some [V.str t.name] := rfl
      refine WS_run 1000 (by simp only [go_sem, eRun_exit, Nat.reduceAdd, Nat.reduceLT, Nat.reduceEqDiff, reduceIte, reduceCtorEq, Int.reduceBEq, Int.reduceBNe, Int.reduceLT, Int.reduceLE, Int.reduceGT, Int.reduceGE, Int.reduceEq, Int.reduceAdd, Int.reduceSub, Int.reduceMul, Nat.reduceMul, Nat.reduceSub, Nat.reduceLeDiff, k_check_Vars_p4, k_check_Vars_p3, k_check_Vars_p2, k_check_Vars_p1, k_check_Vars_p0, f3, f4, f8, f9, f10, hlt, a3, s2, tmC_len, k0, k1, k3, hk, hwr, look, hw3, p3, look3, evParts, fillV, hov, u1, b4, List.length_cons, List.length_nil]; rfl) ?_
      refine ih _ _ _ (by omega) ⟨i + 1, bm, _, out ++ [t.name], v', S5, (by simp only [go_sem, eRun_exit, Nat.reduceAdd, Nat.reduceLT, Nat.reduceEqDiff, reduceIte, reduceCtorEq, Int.reduceBEq, Int.reduceBNe, Int.reduceLT, Int.reduceLE, Int.reduceGT, Int.reduceGE, Int.reduceEq, Int.reduceAdd, Int.reduceSub, Int.reduceMul, Nat.reduceMul, Nat.reduceSub, Nat.reduceLeDiff] <;> rfl), (by simp only [go_sem, eRun_exit, Nat.reduceAdd, Nat.reduceLT, Nat.reduceEqDiff, reduceIte, reduceCtorEq, Int.reduceBEq, Int.reduceBNe, Int.reduceLT, Int.reduceLE, Int.reduceGT, Int.reduceGE, Int.reduceEq, Int.reduceAdd, Int.reduceSub, Int.reduceMul, Nat.reduceMul, Nat.reduceSub, Nat.reduceLeDiff, f4] <;> rfl), (by simp only [go_sem, eRun_exit, Nat.reduceAdd, Nat.reduceLT, Nat.reduceEqDiff, reduceIte, reduceCtorEq, Int.reduceBEq, Int.reduceBNe, Int.reduceLT, Int.reduceLE, Int.reduceGT, Int.reduceGE, Int.reduceEq, Int.reduceAdd, Int.reduceSub, Int.reduceMul, Nat.reduceMul, Nat.reduceSub, Nat.reduceLeDiff, f8] <;> rfl), (by simp only [go_sem, eRun_exit, Nat.reduceAdd, Nat.reduceLT, Nat.reduceEqDiff, reduceIte, reduceCtorEq, Int.reduceBEq, Int.reduceBNe, Int.reduceLT, Int.reduceLE, Int.reduceGT, Int.reduceGE, Int.reduceEq, Int.reduceAdd, Int.reduceSub, Int.reduceMul, Nat.reduceMul, Nat.reduceSub, Nat.reduceLeDiff, f9] <;> rfl), (by simp only [go_sem, eRun_exit, Nat.reduceAdd, Nat.reduceLT, Nat.reduceEqDiff, reduceIte, reduceCtorEq, Int.reduceBEq, Int.reduceBNe, Int.reduceLT, Int.reduceLE, Int.reduceGT, Int.reduceGE, Int.reduceEq, Int.reduceAdd, Int.reduceSub, Int.reduceMul, Nat.reduceMul, Nat.reduceSub, Nat.reduceLeDiff] <;> rfl), by omega, rfl, hM3.frm u3 fun h => (hS _ h).2.2 rfl, hbm, seen3 _ (by simp), hfold, by simp; omega, ?_, fun x hx => ?_, hf3.trans u3 (fun _ _ h => h) fun x hx h => by have := (hS x h).1; omega⟩
      · rw [List.length_append, List.length_singleton]
        have : strsC (out ++ [t.name]) = strsC out ++ [V.str t.name] := by simp [strsC]
        rw [this]; exact u2
      · obtain ⟨m1, m2⟩ := u4 x hx
        have := hM.lt
        rcases m2 with m2 | m2
        · exact ⟨(hS x m2).1, m1, (hS x m2).2.2⟩
        · exact ⟨by omega, m1, by omega⟩
    · have hin : t.name ∈ out := Classical.byContradiction fun h => hn (hn1.2 h)
      have he : addVar out t = out := if_neg fun h => h.2 hin
      rw [he] at hfold
      have hne : ¬ n + 1 = 1 := by omega
      refine WS_run 1000 (by simp only [go_sem, eRun_exit, Nat.reduceAdd, Nat.reduceLT, Nat.reduceEqDiff, reduceIte, reduceCtorEq, Int.reduceBEq, Int.reduceBNe, Int.reduceLT, Int.reduceLE, Int.reduceGT, Int.reduceGE, Int.reduceEq, Int.reduceAdd, Int.reduceSub, Int.reduceMul, Nat.reduceMul, Nat.reduceSub, Nat.reduceLeDiff, k_check_Vars_p4, k_check_Vars_p3, k_check_Vars_p2, k_check_Vars_p1, f3, f4, f8, f9, f10, hlt, a3, s2, tmC_len, k0, k1, k3, hk, hwr, look, hw3, p3, look3, hne]; rfl) ?_
      exact ih _ _ _ (by omega) ⟨i + 1, bm, _, out, ov, S, (by simp only [go_sem, eRun_exit, Nat.reduceAdd, Nat.reduceLT, Nat.reduceEqDiff, reduceIte, reduceCtorEq, Int.reduceBEq, Int.reduceBNe, Int.reduceLT, Int.reduceLE, Int.reduceGT, Int.reduceGE, Int.reduceEq, Int.reduceAdd, Int.reduceSub, Int.reduceMul, Nat.reduceMul, Nat.reduceSub, Nat.reduceLeDiff, f3] <;> rfl), (by simp only [go_sem, eRun_exit, Nat.reduceAdd, Nat.reduceLT, Nat.reduceEqDiff, reduceIte, reduceCtorEq, Int.reduceBEq, Int.reduceBNe, Int.reduceLT, Int.reduceLE, Int.reduceGT, Int.reduceGE, Int.reduceEq, Int.reduceAdd, Int.reduceSub, Int.reduceMul, Nat.reduceMul, Nat.reduceSub, Nat.reduceLeDiff, f4] <;> rfl), (by simp only [go_sem, eRun_exit, Nat.reduceAdd, Nat.reduceLT, Nat.reduceEqDiff, reduceIte, reduceCtorEq, Int.reduceBEq, Int.reduceBNe, Int.reduceLT, Int.reduceLE, Int.reduceGT, Int.reduceGE, Int.reduceEq, Int.reduceAdd, Int.reduceSub, Int.reduceMul, Nat.reduceMul, Nat.reduceSub, Nat.reduceLeDiff, f8] <;> rfl), (by simp only [go_sem, eRun_exit, Nat.reduceAdd, Nat.reduceLT, Nat.reduceEqDiff, reduceIte, reduceCtorEq, Int.reduceBEq, Int.reduceBNe, Int.reduceLT, Int.reduceLE, Int.reduceGT, Int.reduceGE, Int.reduceEq, Int.reduceAdd, Int.reduceSub, Int.reduceMul, Nat.reduceMul, Nat.reduceSub, Nat.reduceLeDiff, f9] <;> rfl), (by simp only [go_sem, eRun_exit, Nat.reduceAdd, Nat.reduceLT, Nat.reduceEqDiff, reduceIte, reduceCtorEq, Int.reduceBEq, Int.reduceBNe, Int.reduceLT, Int.reduceLE, Int.reduceGT, Int.reduceGE, Int.reduceEq, Int.reduceAdd, Int.reduceSub, Int.reduceMul, Nat.reduceMul, Nat.reduceSub, Nat.reduceLeDiff] <;> rfl), by omega, rfl, hM3, hbm, seen3 _ (fun x => ⟨.inl, fun h => h.elim id fun h => h ▸ hin⟩), hfold, by omega, hb3, fun x hx => by have := hS x hx; exact ⟨this.1, by omega, this.2.2⟩, hf3⟩
  · rintro f w ⟨ov, S, f3, hb, hS, hf⟩
    refine WS_run 1000 (by simp only [go_sem, eRun_exit, Nat.reduceAdd, Nat.reduceLT, Nat.reduceEqDiff, reduceIte, reduceCtorEq, Int.reduceBEq, Int.reduceBNe, Int.reduceLT, Int.reduceLE, Int.reduceGT, Int.reduceGE, Int.reduceEq, Int.reduceAdd, Int.reduceSub, Int.reduceMul, Nat.reduceMul, Nat.reduceSub, Nat.reduceLeDiff, f3]; rfl) ?_
    refine WS_ret ⟨_, by simp only [go_sem, eRun_exit, Nat.reduceAdd, Nat.reduceLT, Nat.reduceEqDiff, reduceIte, reduceCtorEq, Int.reduceBEq, Int.reduceBNe, Int.reduceLT, Int.reduceLE, Int.reduceGT, Int.reduceGE, Int.reduceEq, Int.reduceAdd, Int.reduceSub, Int.reduceMul, Nat.reduceMul, Nat.reduceSub, Nat.reduceLeDiff, k_check_Vars]; rfl, ?_⟩
    exact h ov w S hb hf hS
end Go.Proofs.Ytjidefnbancmfaa

/- check.Safe. -/
set_option linter.unusedVariables false
set_option maxRecDepth 10000
set_option linter.unusedSimpArgs false
namespace Delphi
/-- what must be bound, what is. -/
def rNeed (r : Rl) : List (List Nat) := r.body.foldl (fun acc l => if l.kind = 1 then acc else acc ++ cVars l.args) (cVars r.head.args)
def rBound (r : Rl) : List (List Nat) := r.body.foldl (fun acc l => if l.kind = 1 then acc ++ cVars l.args else acc) []
def cSafe (r : Rl) : Bool := (rNeed r).all fun v => decide (v ∈ rBound r)
structure RBd (r : Rl) : Prop where
  head : r.head.args.length ≤ 1000
  body : r.body.length ≤ 1000
  args : ∀ l ∈ r.body, l.args.length ≤ 1000
end Delphi
namespace Go.Proofs.Ytjidefnbancmfaa
open Go.AE Delphi
variable {tab : Tab}
theorem seen_look {M : List (List Nat × Int)} {out : List (List Nat)} {i : Nat} (h : Seen M out i) (k : List Nat) : ∃ n : Nat, n ≤ i ∧ (n = 0 ↔ k ∉ out) ∧ mres (V.int .i64) (V.int .i64 0) (aget M k) = (V.int .i64 (Int.ofNat n), decide (n ≠ 0)) := by
  cases hg : aget M k with
  | none => exact ⟨0, by omega, by simp [(h k).1.1 hg], rfl⟩
  | some c =>
    have hc := (h k).2 c hg
    have hin : ¬ k ∉ out := fun hh => by have := (h k).1.2 hh; rw [this] at hg; cases hg
    refine ⟨c.toNat, by omega, ⟨fun h => by omega, fun h => absurd h hin⟩, ?_⟩
    have e1 : Int.ofNat c.toNat = c := by simp; omega
    have e2 : decide (c.toNat ≠ 0) = true := decide_eq_true (by omega)
    show (V.int .i64 c, true) = _
    rw [e1, e2]
theorem seen_put {M : List (List Nat × Int)} {out out' : List (List Nat)} {i n : Nat} {k : List Nat} (h : Seen M out i) (hn : n ≤ i) (ho : ∀ x, x ∈ out' ↔ x ∈ out ∨ x = k) : Seen (aput M k (Int.ofNat (n + 1))) out' (i + 1) := by
  intro x
  by_cases hx : x = k
  · subst hx
    rw [aget_put_same]
    refine ⟨⟨fun h => (by cases h), fun h => absurd ((ho x).2 (.inr rfl)) h⟩, fun c hc => ?_⟩
    cases hc
    constructor
    · show (1 : Int) ≤ ((n + 1 : Nat) : Int); omega
    · show ((n + 1 : Nat) : Int) ≤ _; omega
  · rw [aget_put_ne _ _ _ _ hx]
    refine ⟨?_, fun c hc => by have := (h x).2 c hc; omega⟩
    rw [(h x).1, ho x]
    simp [hx]
theorem strs_at {T : Nat → Prop} {w : AW} {v : V} {l : List (List Nat)} (h : Rd T w v 1 l.length (strsC l)) {i : Nat} {s : List Nat} (hi : l[i]? = some s) : ∃ b o c, v = .slice b o l.length c ∧ T b ∧ b < w.next ∧ w.load b (o + i * 1) 1 = some [.str s] := by
  have hlt : i < l.length := (List.getElem?_eq_some_iff.1 hi).1
  rcases h.inv with ⟨_, q2, _⟩ | ⟨b, o, c, rfl, hB⟩
  · omega
  · refine ⟨b, o, c, rfl, hB.own, hB.lt, hB.cell (by omega) ?_⟩
    simp only [strsC, List.getElem?_map, Nat.mul_one, hi, Option.map_some]
/-- names counted, one by one. -/
def CntI (a : AW) (bm : Nat) (lv : V) (vs bnd : List (List Nat)) (N : Nat) (f0 : Fr) (q : Nat) (f : Fr) (w : AW) : Prop :=
  ∃ j M bnd', f.get 3 = some (.map bm) ∧ f.get 33 = some lv ∧ f.get 34 = some (.int .i64 (Int.ofNat vs.length)) ∧ f.get 35 = some (.int .i64 (Int.ofNat j)) ∧ (∀ y, y = 1 ∨ y = 2 ∨ y = 4 ∨ y = 17 ∨ y = 18 ∨ y = 19 → f.get y = f0.get y) ∧ j ≤ vs.length ∧ q = vs.length - j ∧
    SM w bm M ∧ Seen M bnd' (N + j) ∧ (∀ x, x ∈ bnd' ↔ x ∈ bnd ∨ x ∈ vs.take j) ∧ Frm (fun b => b = bm) a w ∧ w.next = a.next
def CntJ (a : AW) (bm : Nat) (vs bnd : List (List Nat)) (N : Nat) (f0 : Fr) (f : Fr) (w : AW) : Prop :=
  ∃ M bnd', f.get 3 = some (.map bm) ∧ (∀ y, y = 1 ∨ y = 2 ∨ y = 4 ∨ y = 17 ∨ y = 18 ∨ y = 19 → f.get y = f0.get y) ∧ SM w bm M ∧ Seen M bnd' (N + vs.length) ∧ (∀ x, x ∈ bnd' ↔ x ∈ bnd ∨ x ∈ vs) ∧ Frm (fun b => b = bm) a w ∧ w.next = a.next
theorem cnt_step {T : Nat → Prop} {a w : AW} {bm : Nat} {lv : V} {vs bnd : List (List Nat)} {N : Nat} {f0 f : Fr} {q : Nat} {s : List SI} {Q : Fr → AW → Prop} (hl : Rd T a lv 1 vs.length (strsC vs)) (hT : ∀ x, T x → x ≠ bm) (hN : N + vs.length ≤ 1000000000)
    (hI : CntI a bm lv vs bnd N f0 q f w) (ih : ∀ n' f' w', n' < q → CntI a bm lv vs bnd N f0 n' f' w' → WS tab (.code (.loop k_check_Safe_p3) :: .endB 2 :: s) f' w' Q)
    (out : ∀ s' f' w', CntJ a bm vs bnd N f0 f' w' → popTo 2 s' = some s → WS tab (.code (.exit 2) :: s') f' w' Q) : WS tab (.code k_check_Safe_p3 :: .code (.loop k_check_Safe_p3) :: .endB 2 :: s) f w Q := by
  obtain ⟨j, M, bnd', f3, f33, f34, f35, hold, hj, rfl, hM, hseen, hbnd, hf, hn⟩ := hI
  by_cases hlt : j < vs.length
  case neg =>
    have : j = vs.length := by omega
    subst this
    rw [List.take_length] at hbnd
    refine WS_runB 1000 (by simp only [go_sem, Nat.reduceAdd, Nat.reduceLT, Nat.reduceEqDiff, reduceIte, reduceCtorEq, Int.reduceBEq, Int.reduceBNe, Int.reduceLT, Int.reduceLE, Int.reduceGT, Int.reduceGE, Int.reduceEq, Int.reduceAdd, Int.reduceSub, Int.reduceMul, Nat.reduceMul, Nat.reduceSub, Nat.reduceLeDiff, k_check_Safe_p3, f34, f35, hlt]; rfl) ?_
    refine out _ _ _ ⟨M, bnd', (by simp only [go_sem, eRun_exit, Nat.reduceAdd, Nat.reduceLT, Nat.reduceEqDiff, reduceIte, reduceCtorEq, Int.reduceBEq, Int.reduceBNe, Int.reduceLT, Int.reduceLE, Int.reduceGT, Int.reduceGE, Int.reduceEq, Int.reduceAdd, Int.reduceSub, Int.reduceMul, Nat.reduceMul, Nat.reduceSub, Nat.reduceLeDiff, f3] <;> rfl), ?_, hM, hseen, hbnd, hf, hn⟩ rfl
    rintro y hy
    rw [← hold y hy]
    rcases hy with rfl | rfl | rfl | rfl | rfl | rfl <;> exact (by simp only [go_sem, eRun_exit, Nat.reduceAdd, Nat.reduceLT, Nat.reduceEqDiff, reduceIte, reduceCtorEq, Int.reduceBEq, Int.reduceBNe, Int.reduceLT, Int.reduceLE, Int.reduceGT, Int.reduceGE, Int.reduceEq, Int.reduceAdd, Int.reduceSub, Int.reduceMul, Nat.reduceMul, Nat.reduceSub, Nat.reduceLeDiff] <;> rfl)
  obtain ⟨v, hv⟩ : ∃ v, vs[j]? = some v := ⟨_, List.getElem?_eq_getElem hlt⟩
  obtain ⟨b, o, c, rfl, hTb, hbl, a1⟩ := strs_at (hl.frm hf fun x hx he => hT x hx he) hv
  obtain ⟨n, hn0, hn1, hgn⟩ := seen_look hseen v
  have look := hM.look strKey (.int .i64 0) v
  rw [hgn] at look
  obtain ⟨w3, p3, hM3, r3, n3⟩ := hM.put strKey v (Int.ofNat (n + 1))
  have hw3 : IntKind.wrap .i64 (Int.ofNat n + 1) = Int.ofNat (n + 1) := wrap_succ (by omega)
  have hwr : IntKind.wrap .i64 (Int.ofNat j + 1) = Int.ofNat (j + 1) := wrap_succ (by omega)
  refine WS_run 1000 (by simp only [go_sem, eRun_exit, Nat.reduceAdd, Nat.reduceLT, Nat.reduceEqDiff, reduceIte, reduceCtorEq, Int.reduceBEq, Int.reduceBNe, Int.reduceLT, Int.reduceLE, Int.reduceGT, Int.reduceGE, Int.reduceEq, Int.reduceAdd, Int.reduceSub, Int.reduceMul, Nat.reduceMul, Nat.reduceSub, Nat.reduceLeDiff, k_check_Safe_p3, k_check_Safe_p2, k_check_Safe_p1, f3, f33, f34, f35, hlt, a1, look, hw3, p3, hwr]; rfl) ?_
  refine ih _ _ _ (by omega) ⟨j + 1, _, v :: bnd', (by simp only [go_sem, eRun_exit, Nat.reduceAdd, Nat.reduceLT, Nat.reduceEqDiff, reduceIte, reduceCtorEq, Int.reduceBEq, Int.reduceBNe, Int.reduceLT, Int.reduceLE, Int.reduceGT, Int.reduceGE, Int.reduceEq, Int.reduceAdd, Int.reduceSub, Int.reduceMul, Nat.reduceMul, Nat.reduceSub, Nat.reduceLeDiff, f3] <;> rfl), (by simp only [go_sem, eRun_exit, Nat.reduceAdd, Nat.reduceLT, Nat.reduceEqDiff, reduceIte, reduceCtorEq, Int.reduceBEq, Int.reduceBNe, Int.reduceLT, Int.reduceLE, Int.reduceGT, Int.reduceGE, Int.reduceEq, Int.reduceAdd, Int.reduceSub, Int.reduceMul, Nat.reduceMul, Nat.reduceSub, Nat.reduceLeDiff, f33] <;> rfl), (by simp only [go_sem, eRun_exit, Nat.reduceAdd, Nat.reduceLT, Nat.reduceEqDiff, reduceIte, reduceCtorEq, Int.reduceBEq, Int.reduceBNe, Int.reduceLT, Int.reduceLE, Int.reduceGT, Int.reduceGE, Int.reduceEq, Int.reduceAdd, Int.reduceSub, Int.reduceMul, Nat.reduceMul, Nat.reduceSub, Nat.reduceLeDiff, f34] <;> rfl), (by simp only [go_sem, eRun_exit, Nat.reduceAdd, Nat.reduceLT, Nat.reduceEqDiff, reduceIte, reduceCtorEq, Int.reduceBEq, Int.reduceBNe, Int.reduceLT, Int.reduceLE, Int.reduceGT, Int.reduceGE, Int.reduceEq, Int.reduceAdd, Int.reduceSub, Int.reduceMul, Nat.reduceMul, Nat.reduceSub, Nat.reduceLeDiff] <;> rfl), ?_, by omega, rfl, hM3, seen_put hseen hn0 (by intro x; simp [or_comm]), fun x => ?_, hf.tr r3, n3.trans hn⟩
  · rintro y hy
    rw [← hold y hy]
    rcases hy with rfl | rfl | rfl | rfl | rfl | rfl <;> exact (by simp only [go_sem, eRun_exit, Nat.reduceAdd, Nat.reduceLT, Nat.reduceEqDiff, reduceIte, reduceCtorEq, Int.reduceBEq, Int.reduceBNe, Int.reduceLT, Int.reduceLE, Int.reduceGT, Int.reduceGE, Int.reduceEq, Int.reduceAdd, Int.reduceSub, Int.reduceMul, Nat.reduceMul, Nat.reduceSub, Nat.reduceLeDiff] <;> rfl)
  · have ht : vs.take (j + 1) = vs.take j ++ [v] := by
      rw [List.take_add_one, hv]; rfl
    rw [List.mem_cons, hbnd, ht, List.mem_append, List.mem_singleton]
    constructor
    · rintro (h | h | h)
      · exact .inr (.inr h)
      · exact .inl h
      · exact .inr (.inl h)
    · rintro (h | h | h)
      · exact .inr (.inl h)
      · exact .inr (.inr h)
      · exact .inl h
end Go.Proofs.Ytjidefnbancmfaa
