/- A part of the proof: W8, XVal, PVal1, PVal2, PVal3, PVal4, PVal5, PPar1, PPar2, PPar3. -/
import Derived.Test.YtpbdojjfokelaaaDoorSeJ
import Derived.Test.YtpbdojjfokelaaaDoorSeH
import Derived.Test.YtpbdojjfokelaaaDoorSeG
import Derived.Test.YtpbdojjfokelaaaDoorSeK
set_option linter.unusedVariables false
set_option linter.unusedSectionVars false
set_option linter.unusedSimpArgs false
set_option linter.unusedSectionVars false
namespace Go.AE
variable [Globs]
theorem cells_map {b : Nat} : (V.map b).cells = [.map b] := rfl
theorem cells_nilmap : V.nilmap.cells = [.nilmap] := rfl
theorem cells_func {f : Fn} {a c : List V} : (V.func f a c).cells = [.func f a c] := rfl
theorem cells_iface {t : Nat} {v : V} : (V.iface t v).cells = [.iface t v] := rfl
theorem cells_niliface : V.niliface.cells = [.niliface] := rfl
attribute [go_sem] cells_map cells_nilmap cells_func cells_iface cells_niliface
section
variable {α β : Type} [DecidableEq α]
def aget : List (α × β) → α → Option β
  | [], _ => none
  | (a, b) :: l, k => if k = a then some b else aget l k
def aput : List (α × β) → α → β → List (α × β)
  | [], k, v => [(k, v)]
  | (a, b) :: l, k, v => if k = a then (a, v) :: l else (a, b) :: aput l k v
structure KeyE (t : KeyTy) (ke : α → V) : Prop where
  eq : ∀ a b, eqKey t (ke a) (ke b) = some (decide (a = b))
  ok : ∀ a, keyOk t (ke a) = true
def MRel (ke : α → V) (ve : β → V) (p : α × β) (e : V × V × Nat) : Prop := e.1 = ke p.1 ∧ e.2.1 = ve p.2
structure MB (ke : α → V) (ve : β → V) (w : AW) (b : Nat) (M : List (α × β)) : Prop where
  lt : b < w.next
  get : ∃ es ck, w.heap.get b = some (.map es ck) ∧ All2 (MRel ke ve) M es
variable {ke : α → V} {ve : β → V} {t : KeyTy}
theorem MB.frm {S : Nat → Prop} {w w' : AW} {b : Nat} {M : List (α × β)} (h : MB ke ve w b M) (hf : Frm S w w') (hn : ¬ S b) : MB ke ve w' b M := by
  obtain ⟨es, ck, h1, h2⟩ := h.get
  exact ⟨Nat.lt_of_lt_of_le h.lt hf.next, es, ck, (hf.heap b h.lt hn).trans h1, h2⟩
theorem findE_map (hk : KeyE t ke) {k : α} : ∀ {M : List (α × β)} {es : List (V × V × Nat)} (i : Nat), All2 (MRel ke ve) M es →
    (aget M k = none → findE t (ke k) es i = some none) ∧ ∀ v, aget M k = some v → ∃ j n, findE t (ke k) es i = some (some (i + j, ve v, n)) ∧ ∀ v', All2 (MRel ke ve) (aput M k v') (setE j (ke k) (ve v') es)
  | [], _, i, .nil => ⟨fun _ => rfl, fun v h => by simp [aget] at h⟩
  | (a, b) :: M, (x, y, n) :: es, i, .cons h1 h2 => by
    obtain ⟨q1, q2⟩ := h1
    simp only at q1 q2
    subst q1; subst q2
    by_cases h : k = a
    · subst h
      refine ⟨fun hn => by simp [aget] at hn, fun v hv => ?_⟩
      simp only [aget, if_true, Option.some.injEq] at hv
      subst hv
      refine ⟨0, n, by simp only [findE, hk.eq, decide_true, Nat.add_zero], fun v' => ?_⟩
      simp only [aput, if_true, setE, List.getElem?_cons_zero, List.set_cons_zero]
      exact .cons ⟨rfl, rfl⟩ h2
    · obtain ⟨r1, r2⟩ := findE_map hk (k := k) (i + 1) h2
      refine ⟨fun hn => ?_, fun v hv => ?_⟩
      · simp only [aget, if_neg h] at hn
        simp only [findE, hk.eq, decide_eq_false h]
        exact r1 hn
      · simp only [aget, if_neg h] at hv
        obtain ⟨j, m, s1, s2⟩ := r2 v hv
        refine ⟨j + 1, m, ?_, fun v' => ?_⟩
        · simp only [findE, hk.eq, decide_eq_false h]
          rw [s1]; congr 3; omega
        · have := s2 v'
          simp only [aput, if_neg h]
          have e : setE (j + 1) (ke k) (ve v') ((ke a, ve b, n) :: es) = (ke a, ve b, n) :: setE j (ke k) (ve v') es := by
            simp only [setE, List.getElem?_cons_succ]
            split <;> simp
          rw [e]
          exact .cons ⟨rfl, rfl⟩ this
theorem aput_none : ∀ {M : List (α × β)} {k : α}, aget M k = none → ∀ v, aput M k v = M ++ [(k, v)]
  | [], k, _, v => rfl
  | (a, b) :: M, k, h, v => by
    simp only [aget] at h
    split at h
    · cases h
    · rename_i hn
      simp only [aput, if_neg hn, aput_none h v, List.cons_append]
theorem mturn_frm {w : AW} {b : Nat} {es : List (V × V × Nat)} {ck : Nat} : Frm (fun x => x = b) w (w.turn b (.map es ck)) :=
  ⟨Nat.le_refl _, fun c hc hn => T.get_put_ne hn, fun c hc hn => rfl⟩
theorem MB.put (hk : KeyE t ke) {w : AW} {b : Nat} {M : List (α × β)} (h : MB ke ve w b M) (k : α) (v : β) : ∃ w', w.putV t (.map b) (ke k) (ve v) = some w' ∧ MB ke ve w' b (aput M k v) ∧ Frm (fun x => x = b) w w' ∧ w'.next = w.next := by
  obtain ⟨es, ck, h1, h2⟩ := h.get
  obtain ⟨r1, r2⟩ := findE_map hk (k := k) 0 h2
  simp only [AW.putV, AW.entries, h1, hk.ok]
  cases hg : aget M k with
  | none =>
    refine ⟨w.turn b (.map (es ++ [(ke k, ve v, ck)]) (ck + 1)), by simp only [r1 hg], ⟨h.lt, _, _, T.get_put_same, ?_⟩, mturn_frm, rfl⟩
    rw [aput_none hg]
    exact h2.snoc ⟨rfl, rfl⟩
  | some u =>
    obtain ⟨j, n, s1, s2⟩ := r2 u hg
    refine ⟨w.turn b (.map (setE j (ke k) (ve v) es) ck), ?_, ⟨h.lt, _, _, T.get_put_same, s2 v⟩, mturn_frm, rfl⟩
    simp only [s1, Nat.zero_add]
theorem MB.len {w : AW} {b : Nat} {M : List (α × β)} (h : MB ke ve w b M) : ∃ es ck, w.entries (.map b) = some (some b, es, ck) ∧ es.length = M.length := by
  obtain ⟨es, ck, h1, h2⟩ := h.get
  exact ⟨es, ck, by simp only [AW.entries, h1], h2.len.symm⟩
theorem MB.new (w : AW) : MB ke ve (w.new (.map [] 0)) w.next ([] : List (α × β)) := ⟨Nat.lt_succ_self _, [], 0, T.get_put_same, .nil⟩
end
inductive Bt (S : Nat → Prop) (w : AW) : V → Nat → Nat → List V → Prop
  | nil {esz : Nat} : Bt S w .nilslice esz 0 []
  | blk {b n esz : Nat} {cs : List V} {sh : Share} (hS : S b) (hb : b < w.next) (hx : w.heap.get b = some (.cells cs sh)) (hl : cs.length = n * esz) (he : 0 < esz) (hn : 0 < n) (hs : Shr S w b sh) : Bt S w (.slice b 0 n (.upTo esz)) esz n cs
theorem Bt.buf {S : Nat → Prop} {w : AW} {v : V} {esz n : Nat} {cs : List V} (h : Bt S w v esz n cs) : Buf S w v esz n cs := by
  cases h with
  | nil => exact .nil
  | blk hS hb hx hl he hn hs => exact .blk (r := 0) (rest := []) hS hb (by rw [List.append_nil]; exact hx) hl (by simp) he (by omega) hs
theorem Bt.mono {S S' : Nat → Prop} {w : AW} {v : V} {esz n : Nat} {cs : List V} (h : Bt S w v esz n cs) (hs : ∀ x, S x → S' x) : Bt S' w v esz n cs := by
  cases h with
  | nil => exact .nil
  | blk hS hb hx hl he hn hsh => exact .blk (hs _ hS) hb hx hl he hn (hsh.mono hs)
theorem Bt.frm {S T : Nat → Prop} {w w' : AW} {v : V} {esz n : Nat} {cs : List V} (h : Bt S w v esz n cs) (hf : Frm T w w') (hd : ∀ x, S x → ¬ T x) : Bt S w' v esz n cs := by
  cases h with
  | nil => exact .nil
  | blk hS hb hx hl he hn hsh => exact .blk hS (Nat.lt_of_lt_of_le hb hf.next) ((hf.heap _ hb (hd _ hS)).trans hx) hl he hn (hsh.frm hf hd)
theorem Bt.len {S : Nat → Prop} {w : AW} {v : V} {esz n : Nat} {cs : List V} (h : Bt S w v esz n cs) : cs.length = n * esz := h.buf.len
theorem Bt.rd {S : Nat → Prop} {w : AW} {v : V} {esz n : Nat} {cs : List V} (h : Bt S w v esz n cs) : Rd S w v esz n cs := h.buf.rd
theorem Bt.lenV {S : Nat → Prop} {w : AW} {v : V} {esz n : Nat} {cs : List V} (h : Bt S w v esz n cs) : lenV v = some n := h.buf.lenV
theorem Bt.one {S : Nat → Prop} {w : AW} {v : V} {esz n : Nat} {cs : List V} (h : Bt S w v esz n cs) : v.one = true ∧ v.cells = [v] := by cases h <;> exact ⟨rfl, rfl⟩
theorem Bt.inv {S : Nat → Prop} {w : AW} {v : V} {esz n : Nat} {cs : List V} (h : Bt S w v esz n cs) : (v = .nilslice ∧ n = 0 ∧ cs = []) ∨ ∃ b, v = .slice b 0 n (.upTo esz) ∧ S b ∧ b < w.next := h.buf.inv
theorem Bt.addN {S : Nat → Prop} {w : AW} {v : V} {esz n k bytes : Nat} {cs news : List V} (h : Bt S w v esz n cs) (he : 0 < esz) (hl : news.length = k * esz) (h1 : allOne news = true) (hb : (n + k) * bytes ≤ 70368744177664) (hb' : n + k ≤ 70368744177664) :
    ∃ v' w' S', w.appendV esz bytes v k news = some (v', w') ∧ Bt S' w' v' esz (n + k) (cs ++ news) ∧ Frm S w w' ∧ Grown S S' w w' := by
  cases k with
  | zero =>
    have : news = [] := List.length_eq_zero_iff.1 (by simpa using hl)
    subst this
    refine ⟨v, w, fun x => S x ∧ x < w.next, ?_, ?_, Frm.refl _, fun b hb => ⟨hb.2, .inl hb.1⟩⟩
    · cases h <;> rfl
    · rw [List.append_nil, Nat.add_zero]
      cases h with
      | nil => exact .nil
      | blk hS hbw hx hlen he' hn hs =>
        refine .blk ⟨hS, hbw⟩ hbw hx hlen he' hn ?_
        rcases hs with rfl | rfl | ⟨f, F, rfl, q1, q2, q3⟩
        · exact .inl rfl
        · exact .inr (.inl rfl)
        · exact .inr (.inr ⟨f, F, rfl, ⟨q1, q2⟩, q2, q3⟩)
  | succ k =>
    cases h with
    | nil =>
      refine ⟨.slice w.next 0 (k + 1) (.upTo esz), w.fresh news, fun b => b = w.next, ?_, ?_, Frm.new _ _, ?_⟩
      · simp only [AW.appendV]; rw [if_pos ⟨by simpa using hb, by omega⟩]
      · rw [Nat.zero_add]; exact .blk rfl (Nat.lt_succ_self _) T.get_put_same (by simpa using hl) he (by omega) (.inl rfl)
      · rintro b rfl; exact ⟨Nat.lt_succ_self _, .inr (Nat.le_refl _)⟩
    | @blk b _ _ _ sh hS hbw hx hlen he' hn hs =>
      have happ : w.appendV esz bytes (.slice b 0 n (.upTo esz)) (k + 1) news = w.appendUp esz b 0 n (k + 1) news := if_pos ⟨rfl, hb, hb', h1, he⟩
      rw [happ]
      have hbeq : Nat.beq (0 + n * esz) cs.length = true := by rw [Nat.zero_add, hlen, Nat.beq_refl]
      have fam : ∀ (u : AW) (f : Nat) (F : Fam), w.next ≤ u.next → Frm S w u → u.heap.get b = some (.cells cs (.fam f)) → (S f ∨ w.next ≤ f) → f < u.next → b < u.next → u.fams.get f = some F → F.last = b → F.floor ≤ u.next → u.alive b (.fam f) = true →
          ∃ v' w' S', u.appendFam esz b 0 n (k + 1) news = some (v', w') ∧ Bt S' w' v' esz (n + (k + 1)) (cs ++ news) ∧ Frm S w w' ∧ Grown S S' w w' := by
        intro u f F hle hfu hx hSf hfl hbu hF hlast hflo hal
        refine ⟨.slice u.next 0 (n + (k + 1)) (.upTo esz), u.grow b f F (cs.drop 0 ++ news), fun x => x = u.next ∨ x = f, ?_, ?_, ?_, ?_⟩
        · simp only [AW.appendFam, hx, hal, hF, hbeq]
        · have hg : (u.grow b f F (cs.drop 0 ++ news)).fams.get f = some ⟨F.keep, F.floor, u.next⟩ := by
            simp only [AW.grow, T.get_putk, if_true, hlast, Nat.beq_refl]
          refine .blk (sh := .fam f) (.inl rfl) (Nat.lt_succ_self _) ?_ ?_ he (by omega) (.inr (.inr ⟨f, ⟨F.keep, F.floor, u.next⟩, rfl, .inr rfl, Nat.lt_succ_of_lt hfl, hg, rfl, Nat.le_succ_of_le hflo, ?_⟩))
          · simp only [AW.grow, T.get_putk, if_true, List.drop_zero]
          · rw [List.length_append, hlen, hl, Nat.add_mul n]
          · simp only [AW.alive, hg, Bool.or_eq_true]
            exact .inr (Nat.ble_eq_true_of_le hflo)
        · refine hfu.trans (T := fun x => x = f ∨ u.next ≤ x) ⟨Nat.le_succ _, fun c hc hn => T.get_put_ne (by omega), fun c hc hn => T.get_put_ne fun e => hn (.inl e)⟩ (fun x hx h => h) ?_
          rintro x hx (rfl | h)
          · rcases hSf with h | h
            · exact h
            · omega
          · omega
        · rintro x (rfl | rfl)
          · exact ⟨Nat.lt_succ_self _, .inr hle⟩
          · exact ⟨Nat.lt_succ_of_lt hfl, hSf⟩
      have fnd : sh = .own ∨ sh = .lax → ∃ v' w' S', (w.found b cs).appendFam esz b 0 n (k + 1) news = some (v', w') ∧ Bt S' w' v' esz (n + (k + 1)) (cs ++ news) ∧ Frm S w w' ∧ Grown S S' w w' := by
        intro _
        refine fam (w.found b cs) w.next ⟨b, w.next + 1, b⟩ (Nat.le_succ _) ⟨Nat.le_succ _, fun c hc hn => T.get_put_ne fun e => hn (e ▸ hS), fun c hc hn => T.get_put_ne (by omega)⟩ T.get_put_same (.inr (Nat.le_refl _)) (Nat.lt_succ_self _) (Nat.lt_succ_of_lt hbw) T.get_put_same rfl (Nat.le_refl _) ?_
        simp only [AW.alive, AW.found, T.get_putk, if_true, Nat.beq_refl, Bool.true_or]
      simp only [AW.appendUp, hx, hbeq]
      rcases hs with rfl | rfl | ⟨f, F, rfl, g1, g2, g3, g4, g6, g5⟩
      · exact fnd (.inl rfl)
      · exact fnd (.inr rfl)
      · exact fam w f F (Nat.le_refl _) (Frm.refl _) hx (.inl g1) g2 hbw g3 g4 g6 g5
theorem Bt.push {S : Nat → Prop} {w : AW} {v : V} {esz n bytes : Nat} {cs news : List V} (h : Bt S w v esz n cs) (hS : ∀ b, S b → b < w.next) (he : 0 < esz) (hl : news.length = esz) (h1 : allOne news = true) (hb : (n + 1) * bytes ≤ 70368744177664) (hb' : n + 1 ≤ 70368744177664) :
    ∃ v' w' S', (w.fresh news).appendV esz bytes v 1 news = some (v', w') ∧ Bt S' w' v' esz (n + 1) (cs ++ news) ∧ Frm S w w' ∧ Grown S S' w w' := by
  have hx : Frm (fun _ => False) w (w.fresh news) := Frm.new _ _
  obtain ⟨v', w', S', h2, h3, h4, h5⟩ := (h.frm hx fun _ _ h => h).addN (news := news) (k := 1) (bytes := bytes) he (by omega) h1 hb hb'
  refine ⟨v', w', S', h2, h3, hx.trans h4 (fun _ _ h => h.elim) fun _ _ h => h, fun b hb => ?_⟩
  obtain ⟨q1, q2⟩ := h5 b hb
  exact ⟨q1, q2.imp id fun h => Nat.le_trans hx.next h⟩
end Go.AE
set_option linter.unusedVariables false
namespace Delphi
def okc (i c : Nat) : Bool := (decide (97 ≤ c) && decide (c ≤ 122)) || (decide (i ≠ 0) && ((decide (48 ≤ c) && decide (c ≤ 57)) || decide (c = 95)))
def okAll : Nat → List Nat → Bool
  | _, [] => true
  | i, c :: s => okc i c && okAll (i + 1) s
def wordB (s : List Nat) : Bool := okAll 0 s && (decide (1 ≤ s.length) && decide (s.length ≤ 16))
theorem okAll_snoc : ∀ (s : List Nat) (i c : Nat), okAll i (s ++ [c]) = (okAll i s && okc (i + s.length) c)
  | [], i, c => by simp [okAll]
  | x :: s, i, c => by
    simp only [List.cons_append, okAll, okAll_snoc s (i + 1) c, List.length_cons, Bool.and_assoc]
    congr 3; omega
theorem okAll_bad : ∀ {s : List Nat} {i k c : Nat}, s[k]? = some c → okc (i + k) c = false → okAll i s = false
  | [], i, k, c, h, _ => by simp at h
  | x :: s, i, 0, c, h, hb => by simp at h; subst h; simp only [okAll]; rw [show okc i x = false from hb]; rfl
  | x :: s, i, k + 1, c, h, hb => by
    simp only [okAll]
    rw [okAll_bad (s := s) (i := i + 1) (k := k) (c := c) (by simpa using h) (by rw [← hb]; congr 1; omega), Bool.and_false]
structure Tk where
  k : Int
  s : List Nat
  n : Int
def tkMay (t : Tk) : Bool :=
  if t.k = 3 then decide (t.s = []) && (decide (-2147483648 ≤ t.n) && decide (t.n ≤ 2147483648))
  else if t.k = 2 then decide (t.n = 0) && wordB t.s else false
end Delphi
set_option linter.unusedVariables false
set_option maxRecDepth 10000
set_option linter.unusedSimpArgs false
namespace Go.Proofs.YtpbdojjfokelaaaDoor.Val
open Go.AE Delphi
variable {tab : Tab}
def WdI (s : List Nat) (fi : Nat) (aw : AW) (q : Nat) (f : Fr) (w : AW) : Prop :=
  ∃ i, f.get 0 = some (.str s) ∧ f.get fi = some (.int .i64 (Int.ofNat i)) ∧ i ≤ s.length ∧ q = s.length - i ∧ okAll 0 (s.take i) = true ∧ w = aw
theorem take_ok {s : List Nat} {i c : Nat} (h : s[i]? = some c) (ho : okAll 0 (s.take i) = true) (hc : okc i c = true) : okAll 0 (s.take (i + 1)) = true := by
  have hl : i < s.length := (List.getElem?_eq_some_iff.1 h).1
  have e : s.take (i + 1) = s.take i ++ [c] := by rw [List.take_add_one, h]; rfl
  rw [e, okAll_snoc, ho, List.length_take, Nat.min_eq_left (by omega), Nat.zero_add, hc]; rfl
theorem word_ok (C : Codes tab) {s : List Nat} {aw : AW} {K : V → AW → Prop} (hn : s.length ≤ 1000000) (hb : ∀ c ∈ s, c < 256) (h : K (.bool (wordB s)) aw) : WF tab n_value_Word [.str s] aw K := by
  refine WF_of C.c_value_Word rfl ?_
  refine WS_run 1000 (by simp only [go_sem, eRun_exit, Nat.reduceAdd, Nat.reduceLT, Nat.reduceEqDiff, reduceIte, reduceCtorEq, Nat.reduceLeDiff, k_value_Word]; rfl) ?_
  refine WS_loopJ (fun q f w => WdI s 8 aw q f w ∧ f.get 7 = some (.int .i64 (Int.ofNat s.length))) (fun f w => f.get 0 = some (.str s) ∧ okAll 0 s = true ∧ w = aw) ?_ ?_ s.length ⟨⟨0, (by simp only [go_sem, eRun_exit, Nat.reduceAdd, Nat.reduceLT, Nat.reduceEqDiff, reduceIte, reduceCtorEq, Nat.reduceLeDiff] <;> rfl), (by simp only [go_sem, eRun_exit, Nat.reduceAdd, Nat.reduceLT, Nat.reduceEqDiff, reduceIte, reduceCtorEq, Nat.reduceLeDiff] <;> rfl), by omega, rfl, by simp [okAll], rfl⟩, (by simp only [go_sem, eRun_exit, Nat.reduceAdd, Nat.reduceLT, Nat.reduceEqDiff, reduceIte, reduceCtorEq, Nat.reduceLeDiff] <;> rfl)⟩
  · rintro q f w ⟨⟨i, f0, f8, hi, rfl, hok, rfl⟩, f7⟩ ih exit
    by_cases hlt : i < s.length
    case neg =>
      rw [List.take_of_length_le (by omega)] at hok
      refine WS_runB 1000 (by simp only [go_sem, Nat.reduceAdd, Nat.reduceLT, Nat.reduceEqDiff, reduceIte, reduceCtorEq, Nat.reduceLeDiff, k_value_Word_p1, f7, f8, hlt]; rfl) ?_
      exact exit _ _ _ ⟨(by simp only [go_sem, eRun_exit, Nat.reduceAdd, Nat.reduceLT, Nat.reduceEqDiff, reduceIte, reduceCtorEq, Nat.reduceLeDiff, f0] <;> rfl), hok, rfl⟩ rfl
    obtain ⟨c, hc⟩ : ∃ c, s[i]? = some c := ⟨_, List.getElem?_eq_getElem hlt⟩
    have hwr : IntKind.wrap .i64 (Int.ofNat i + 1) = Int.ofNat (i + 1) := wrap_succ (by omega)
    have bad : okc i c = false → wordB s = false := fun hk => by
      have := okAll_bad (i := 0) hc (by rw [Nat.zero_add]; exact hk)
      simp only [wordB, this, Bool.false_and]
    by_cases a : 97 ≤ c
    · by_cases b : c ≤ 122
      · refine WS_run 1000 (by simp only [go_sem, eRun_exit, Nat.reduceAdd, Nat.reduceLT, Nat.reduceEqDiff, reduceIte, reduceCtorEq, Nat.reduceLeDiff, k_value_Word_p1, k_value_Word_p0, f0, f7, f8, hlt, hc, hwr, a, b]; rfl) ?_
        exact ih (s.length - (i + 1)) _ _ (by omega) ⟨⟨i + 1, (by simp only [go_sem, eRun_exit, Nat.reduceAdd, Nat.reduceLT, Nat.reduceEqDiff, reduceIte, reduceCtorEq, Nat.reduceLeDiff, f0] <;> rfl), (by simp only [go_sem, eRun_exit, Nat.reduceAdd, Nat.reduceLT, Nat.reduceEqDiff, reduceIte, reduceCtorEq, Nat.reduceLeDiff] <;> rfl), by omega, rfl, take_ok hc hok (by simp [okc, a, b]), rfl⟩, (by simp only [go_sem, eRun_exit, Nat.reduceAdd, Nat.reduceLT, Nat.reduceEqDiff, reduceIte, reduceCtorEq, Nat.reduceLeDiff, f7] <;> rfl)⟩
      · by_cases z : i = 0
        · subst z
          refine WS_run 1000 (by simp only [go_sem, eRun_exit, Nat.reduceAdd, Nat.reduceLT, Nat.reduceEqDiff, reduceIte, reduceCtorEq, Nat.reduceLeDiff, k_value_Word_p1, k_value_Word_p0, f0, f7, f8, hlt, hc, hwr, a, b]; rfl) ?_
          rw [bad (by simp [okc, a, b])] at h
          refine WS_ret ⟨_, by simp only [go_sem, eRun_exit, Nat.reduceAdd, Nat.reduceLT, Nat.reduceEqDiff, reduceIte, reduceCtorEq, Nat.reduceLeDiff, k_value_Word]; rfl, ?_⟩
          exact h
        · by_cases d : c < 48
          · have d9 : ¬ 48 ≤ c := by omega
            have n9 : c ≠ 95 := by omega
            refine WS_run 1000 (by simp only [go_sem, eRun_exit, Nat.reduceAdd, Nat.reduceLT, Nat.reduceEqDiff, reduceIte, reduceCtorEq, Nat.reduceLeDiff, k_value_Word_p1, k_value_Word_p0, f0, f7, f8, hlt, hc, hwr, a, b, z, d, d9, n9]; rfl) ?_
            rw [bad (by simp [okc, a, b, z, d, d9, n9])] at h
            refine WS_ret ⟨_, by simp only [go_sem, eRun_exit, Nat.reduceAdd, Nat.reduceLT, Nat.reduceEqDiff, reduceIte, reduceCtorEq, Nat.reduceLeDiff, k_value_Word]; rfl, ?_⟩
            exact h
          · have d9 : 48 ≤ c := by omega
            by_cases e : 57 < c
            · have e9 : ¬ c ≤ 57 := by omega
              by_cases n9 : c = 95
              · refine WS_run 1000 (by simp only [go_sem, eRun_exit, Nat.reduceAdd, Nat.reduceLT, Nat.reduceEqDiff, reduceIte, reduceCtorEq, Nat.reduceLeDiff, k_value_Word_p1, k_value_Word_p0, f0, f7, f8, hlt, hc, hwr, a, b, z, d, d9, e, e9, n9]; rfl) ?_
                exact ih (s.length - (i + 1)) _ _ (by omega) ⟨⟨i + 1, (by simp only [go_sem, eRun_exit, Nat.reduceAdd, Nat.reduceLT, Nat.reduceEqDiff, reduceIte, reduceCtorEq, Nat.reduceLeDiff, f0] <;> rfl), (by simp only [go_sem, eRun_exit, Nat.reduceAdd, Nat.reduceLT, Nat.reduceEqDiff, reduceIte, reduceCtorEq, Nat.reduceLeDiff] <;> rfl), by omega, rfl, take_ok hc hok (by simp [okc, a, b, z, d, d9, e, e9, n9]), rfl⟩, (by simp only [go_sem, eRun_exit, Nat.reduceAdd, Nat.reduceLT, Nat.reduceEqDiff, reduceIte, reduceCtorEq, Nat.reduceLeDiff, f7] <;> rfl)⟩
              · refine WS_run 1000 (by simp only [go_sem, eRun_exit, Nat.reduceAdd, Nat.reduceLT, Nat.reduceEqDiff, reduceIte, reduceCtorEq, Nat.reduceLeDiff, k_value_Word_p1, k_value_Word_p0, f0, f7, f8, hlt, hc, hwr, a, b, z, d, d9, e, e9, n9]; rfl) ?_
                rw [bad (by simp [okc, a, b, z, d, d9, e, e9, n9])] at h
                refine WS_ret ⟨_, by simp only [go_sem, eRun_exit, Nat.reduceAdd, Nat.reduceLT, Nat.reduceEqDiff, reduceIte, reduceCtorEq, Nat.reduceLeDiff, k_value_Word]; rfl, ?_⟩
                exact h
            · have e9 : c ≤ 57 := by omega
              refine WS_run 1000 (by simp only [go_sem, eRun_exit, Nat.reduceAdd, Nat.reduceLT, Nat.reduceEqDiff, reduceIte, reduceCtorEq, Nat.reduceLeDiff, k_value_Word_p1, k_value_Word_p0, f0, f7, f8, hlt, hc, hwr, a, b, z, d, d9, e, e9]; rfl) ?_
              exact ih (s.length - (i + 1)) _ _ (by omega) ⟨⟨i + 1, (by simp only [go_sem, eRun_exit, Nat.reduceAdd, Nat.reduceLT, Nat.reduceEqDiff, reduceIte, reduceCtorEq, Nat.reduceLeDiff, f0] <;> rfl), (by simp only [go_sem, eRun_exit, Nat.reduceAdd, Nat.reduceLT, Nat.reduceEqDiff, reduceIte, reduceCtorEq, Nat.reduceLeDiff] <;> rfl), by omega, rfl, take_ok hc hok (by simp [okc, a, b, z, d, d9, e, e9]), rfl⟩, (by simp only [go_sem, eRun_exit, Nat.reduceAdd, Nat.reduceLT, Nat.reduceEqDiff, reduceIte, reduceCtorEq, Nat.reduceLeDiff, f7] <;> rfl)⟩
    · by_cases z : i = 0
      · subst z
        refine WS_run 1000 (by simp only [go_sem, eRun_exit, Nat.reduceAdd, Nat.reduceLT, Nat.reduceEqDiff, reduceIte, reduceCtorEq, Nat.reduceLeDiff, k_value_Word_p1, k_value_Word_p0, f0, f7, f8, hlt, hc, hwr, a]; rfl) ?_
        rw [bad (by simp [okc, a])] at h
        refine WS_ret ⟨_, by simp only [go_sem, eRun_exit, Nat.reduceAdd, Nat.reduceLT, Nat.reduceEqDiff, reduceIte, reduceCtorEq, Nat.reduceLeDiff, k_value_Word]; rfl, ?_⟩
        exact h
      · by_cases d : c < 48
        · have d9 : ¬ 48 ≤ c := by omega
          have n9 : c ≠ 95 := by omega
          refine WS_run 1000 (by simp only [go_sem, eRun_exit, Nat.reduceAdd, Nat.reduceLT, Nat.reduceEqDiff, reduceIte, reduceCtorEq, Nat.reduceLeDiff, k_value_Word_p1, k_value_Word_p0, f0, f7, f8, hlt, hc, hwr, a, z, d, d9, n9]; rfl) ?_
          rw [bad (by simp [okc, a, z, d, d9, n9])] at h
          refine WS_ret ⟨_, by simp only [go_sem, eRun_exit, Nat.reduceAdd, Nat.reduceLT, Nat.reduceEqDiff, reduceIte, reduceCtorEq, Nat.reduceLeDiff, k_value_Word]; rfl, ?_⟩
          exact h
        · have d9 : 48 ≤ c := by omega
          by_cases e : 57 < c
          · have e9 : ¬ c ≤ 57 := by omega
            by_cases n9 : c = 95
            · refine WS_run 1000 (by simp only [go_sem, eRun_exit, Nat.reduceAdd, Nat.reduceLT, Nat.reduceEqDiff, reduceIte, reduceCtorEq, Nat.reduceLeDiff, k_value_Word_p1, k_value_Word_p0, f0, f7, f8, hlt, hc, hwr, a, z, d, d9, e, e9, n9]; rfl) ?_
              exact ih (s.length - (i + 1)) _ _ (by omega) ⟨⟨i + 1, (by simp only [go_sem, eRun_exit, Nat.reduceAdd, Nat.reduceLT, Nat.reduceEqDiff, reduceIte, reduceCtorEq, Nat.reduceLeDiff, f0] <;> rfl), (by simp only [go_sem, eRun_exit, Nat.reduceAdd, Nat.reduceLT, Nat.reduceEqDiff, reduceIte, reduceCtorEq, Nat.reduceLeDiff] <;> rfl), by omega, rfl, take_ok hc hok (by simp [okc, a, z, d, d9, e, e9, n9]), rfl⟩, (by simp only [go_sem, eRun_exit, Nat.reduceAdd, Nat.reduceLT, Nat.reduceEqDiff, reduceIte, reduceCtorEq, Nat.reduceLeDiff, f7] <;> rfl)⟩
            · refine WS_run 1000 (by simp only [go_sem, eRun_exit, Nat.reduceAdd, Nat.reduceLT, Nat.reduceEqDiff, reduceIte, reduceCtorEq, Nat.reduceLeDiff, k_value_Word_p1, k_value_Word_p0, f0, f7, f8, hlt, hc, hwr, a, z, d, d9, e, e9, n9]; rfl) ?_
              rw [bad (by simp [okc, a, z, d, d9, e, e9, n9])] at h
              refine WS_ret ⟨_, by simp only [go_sem, eRun_exit, Nat.reduceAdd, Nat.reduceLT, Nat.reduceEqDiff, reduceIte, reduceCtorEq, Nat.reduceLeDiff, k_value_Word]; rfl, ?_⟩
              exact h
          · have e9 : c ≤ 57 := by omega
            refine WS_run 1000 (by simp only [go_sem, eRun_exit, Nat.reduceAdd, Nat.reduceLT, Nat.reduceEqDiff, reduceIte, reduceCtorEq, Nat.reduceLeDiff, k_value_Word_p1, k_value_Word_p0, f0, f7, f8, hlt, hc, hwr, a, z, d, d9, e, e9]; rfl) ?_
            exact ih (s.length - (i + 1)) _ _ (by omega) ⟨⟨i + 1, (by simp only [go_sem, eRun_exit, Nat.reduceAdd, Nat.reduceLT, Nat.reduceEqDiff, reduceIte, reduceCtorEq, Nat.reduceLeDiff, f0] <;> rfl), (by simp only [go_sem, eRun_exit, Nat.reduceAdd, Nat.reduceLT, Nat.reduceEqDiff, reduceIte, reduceCtorEq, Nat.reduceLeDiff] <;> rfl), by omega, rfl, take_ok hc hok (by simp [okc, a, z, d, d9, e, e9]), rfl⟩, (by simp only [go_sem, eRun_exit, Nat.reduceAdd, Nat.reduceLT, Nat.reduceEqDiff, reduceIte, reduceCtorEq, Nat.reduceLeDiff, f7] <;> rfl)⟩
  · rintro f w ⟨f0, hok, rfl⟩
    cases s with
    | nil =>
      refine WS_run 1000 (by simp only [go_sem, eRun_exit, Nat.reduceAdd, Nat.reduceLT, Nat.reduceEqDiff, reduceIte, reduceCtorEq, Nat.reduceLeDiff, f0]; rfl) ?_
      refine WS_ret ⟨_, by simp only [go_sem, eRun_exit, Nat.reduceAdd, Nat.reduceLT, Nat.reduceEqDiff, reduceIte, reduceCtorEq, Nat.reduceLeDiff, k_value_Word]; rfl, ?_⟩
      exact h
    | cons x t =>
      refine WS_run 1000 (by simp only [go_sem, eRun_exit, Nat.reduceAdd, Nat.reduceLT, Nat.reduceEqDiff, reduceIte, reduceCtorEq, Nat.reduceLeDiff, f0]; rfl) ?_
      refine WS_ret ⟨_, by simp only [go_sem, eRun_exit, Nat.reduceAdd, Nat.reduceLT, Nat.reduceEqDiff, reduceIte, reduceCtorEq, Nat.reduceLeDiff, k_value_Word]; rfl, ?_⟩
      rw [show wordB (x :: t) = decide ((x :: t).length ≤ 16) by simp [wordB, hok]] at h
      exact h
end Go.Proofs.YtpbdojjfokelaaaDoor.Val
set_option linter.unusedVariables false
set_option maxRecDepth 10000
set_option linter.unusedSimpArgs false
namespace Go.Proofs.YtpbdojjfokelaaaDoor.Val
open Go.AE Delphi
variable {tab : Tab}
end Go.Proofs.YtpbdojjfokelaaaDoor.Val
set_option linter.unusedVariables false
set_option maxRecDepth 10000
set_option linter.unusedSimpArgs false
namespace Go.Proofs.YtpbdojjfokelaaaDoor.Val
open Go.AE Delphi
variable {tab : Tab}
def tkC (t : Tk) : List V := [.int .i64 t.k, .str t.s, .int .i64 t.n]
structure TkOk (t : Tk) : Prop where
  len : t.s.length ≤ 1000000
  byt : ∀ c ∈ t.s, c < 256
theorem box1 (aw : AW) (l : List V) : ∃ w, aw.fresh l = w ∧ CB w aw.next l ∧ Frm (fun _ => False) aw w ∧ w.next = aw.next + 1 :=
  ⟨_, rfl, fresh_cb aw l, fresh_frm aw l, rfl⟩
theorem CB.ld {w : AW} {b : Nat} {l : List V} (c : CB w b l) (o n : Nat) (r : List V) (h : takeN n (l.drop o) = some r) : w.load b o n = some r := by rw [c.load]; exact h
theorem may_ok (C : Codes tab) {t : Tk} {aw : AW} {K : V → AW → Prop} (ht : TkOk t) (h : ∀ w, Frm (fun _ => False) aw w → K (.bool (tkMay t)) w) : WF tab n_value_May [.agg (tkC t)] aw K := by
  refine WF_of C.c_value_May rfl ?_
  obtain ⟨k, s, n⟩ := t
  obtain ⟨w1, e1, c1, r1, m1⟩ := box1 aw [.int .i64 k, .str s, .int .i64 n]
  have l0 := CB.ld c1 0 1 _ rfl
  have l1 := CB.ld c1 1 1 _ rfl
  have l2 := CB.ld c1 2 1 _ rfl
  have h := h w1 r1
  by_cases k3 : k = 3
  · subst k3
    cases s with
    | cons x z =>
      refine WS_run 1000 (by simp only [go_sem, eRun_exit, Nat.reduceAdd, Nat.reduceLT, Nat.reduceEqDiff, reduceIte, reduceCtorEq, Nat.reduceLeDiff, k_value_May, k_value_May_p2, k_value_May_p1, tkC, e1, l0, l1, l2]; rfl) ?_
      refine WS_ret ⟨_, by simp only [go_sem, eRun_exit, Nat.reduceAdd, Nat.reduceLT, Nat.reduceEqDiff, reduceIte, reduceCtorEq, Nat.reduceLeDiff, k_value_May]; rfl, ?_⟩
      exact h
    | nil =>
      have hs : strS BinOp.eql [] [] = some (.bool true) := rfl
      by_cases a : -2147483648 ≤ n
      · by_cases b : n ≤ 2147483648
        · rw [show tkMay ⟨3, [], n⟩ = true by simp [tkMay, a, b]] at h
          refine WS_run 1000 (by simp only [go_sem, eRun_exit, Nat.reduceAdd, Nat.reduceLT, Nat.reduceEqDiff, reduceIte, reduceCtorEq, Nat.reduceLeDiff, k_value_May, k_value_May_p2, k_value_May_p1, tkC, e1, l0, l1, l2, hs, a, b]; rfl) ?_
          refine WS_ret ⟨_, by simp only [go_sem, eRun_exit, Nat.reduceAdd, Nat.reduceLT, Nat.reduceEqDiff, reduceIte, reduceCtorEq, Nat.reduceLeDiff, k_value_May]; rfl, ?_⟩
          exact h
        · rw [show tkMay ⟨3, [], n⟩ = false by simp [tkMay, a, b]] at h
          refine WS_run 1000 (by simp only [go_sem, eRun_exit, Nat.reduceAdd, Nat.reduceLT, Nat.reduceEqDiff, reduceIte, reduceCtorEq, Nat.reduceLeDiff, k_value_May, k_value_May_p2, k_value_May_p1, tkC, e1, l0, l1, l2, hs, a, b]; rfl) ?_
          refine WS_ret ⟨_, by simp only [go_sem, eRun_exit, Nat.reduceAdd, Nat.reduceLT, Nat.reduceEqDiff, reduceIte, reduceCtorEq, Nat.reduceLeDiff, k_value_May]; rfl, ?_⟩
          exact h
      · rw [show tkMay ⟨3, [], n⟩ = false by simp [tkMay, a]] at h
        refine WS_run 1000 (by simp only [go_sem, eRun_exit, Nat.reduceAdd, Nat.reduceLT, Nat.reduceEqDiff, reduceIte, reduceCtorEq, Nat.reduceLeDiff, k_value_May, k_value_May_p2, k_value_May_p1, tkC, e1, l0, l1, l2, hs, a]; rfl) ?_
        refine WS_ret ⟨_, by simp only [go_sem, eRun_exit, Nat.reduceAdd, Nat.reduceLT, Nat.reduceEqDiff, reduceIte, reduceCtorEq, Nat.reduceLeDiff, k_value_May]; rfl, ?_⟩
        exact h
  · by_cases k2 : k = 2
    · subst k2
      by_cases z : n = 0
      · subst z
        rw [show tkMay ⟨2, s, 0⟩ = wordB s by simp [tkMay]] at h
        refine WS_run 1000 (by simp only [go_sem, eRun_exit, Nat.reduceAdd, Nat.reduceLT, Nat.reduceEqDiff, reduceIte, reduceCtorEq, Nat.reduceLeDiff, k_value_May, k_value_May_p2, k_value_May_p0, tkC, e1, l0, l1, l2]; rfl) ?_
        refine WS_call (by simp only [go_sem, eRun_exit, Nat.reduceAdd, Nat.reduceLT, Nat.reduceEqDiff, reduceIte, reduceCtorEq, Nat.reduceLeDiff]) (by simp only [go_sem, eRun_exit, Nat.reduceAdd, Nat.reduceLT, Nat.reduceEqDiff, reduceIte, reduceCtorEq, Nat.reduceLeDiff]; rfl) ?_
        refine word_ok C ht.len ht.byt ?_
        refine WS_run 1000 (by simp only [go_sem, eRun_exit, Nat.reduceAdd, Nat.reduceLT, Nat.reduceEqDiff, reduceIte, reduceCtorEq, Nat.reduceLeDiff]; rfl) ?_
        refine WS_ret ⟨_, by simp only [go_sem, eRun_exit, Nat.reduceAdd, Nat.reduceLT, Nat.reduceEqDiff, reduceIte, reduceCtorEq, Nat.reduceLeDiff, k_value_May]; rfl, ?_⟩
        exact h
      · rw [show tkMay ⟨2, s, n⟩ = false by simp [tkMay, z]] at h
        have z' : (n == 0) = false := by simpa using z
        refine WS_run 1000 (by simp only [go_sem, eRun_exit, Nat.reduceAdd, Nat.reduceLT, Nat.reduceEqDiff, reduceIte, reduceCtorEq, Nat.reduceLeDiff, k_value_May, k_value_May_p2, k_value_May_p0, tkC, e1, l0, l1, l2, z']; rfl) ?_
        refine WS_ret ⟨_, by simp only [go_sem, eRun_exit, Nat.reduceAdd, Nat.reduceLT, Nat.reduceEqDiff, reduceIte, reduceCtorEq, Nat.reduceLeDiff, k_value_May]; rfl, ?_⟩
        exact h
    · rw [show tkMay ⟨k, s, n⟩ = false by simp [tkMay, k3, k2]] at h
      have k3' : (k == 3) = false := by simpa using k3
      have k2' : (k == 2) = false := by simpa using k2
      refine WS_run 1000 (by simp only [go_sem, eRun_exit, Nat.reduceAdd, Nat.reduceLT, Nat.reduceEqDiff, reduceIte, reduceCtorEq, Nat.reduceLeDiff, k_value_May, k_value_May_p2, tkC, e1, l0, l1, l2, k3', k2']; rfl) ?_
      refine WS_ret ⟨_, by simp only [go_sem, eRun_exit, Nat.reduceAdd, Nat.reduceLT, Nat.reduceEqDiff, reduceIte, reduceCtorEq, Nat.reduceLeDiff, k_value_May]; rfl, ?_⟩
      exact h
end Go.Proofs.YtpbdojjfokelaaaDoor.Val
set_option linter.unusedVariables false
set_option maxRecDepth 10000
set_option linter.unusedSimpArgs false
namespace Go.Proofs.YtpbdojjfokelaaaDoor.Val
open Go.AE Delphi
variable {tab : Tab}
def tkSame (a b : Tk) : Bool := (a.k == b.k) && (eqL a.s b.s && (a.n == b.n))
theorem box2 (aw : AW) (l l' : List V) : ∃ w, (aw.fresh l).fresh l' = w ∧ CB w aw.next l ∧ CB w (aw.next + 1) l' ∧ Frm (fun _ => False) aw w ∧ w.next = aw.next + 2 := by
  have f1 := fresh_frm (S := fun _ => False) aw l
  have f2 := fresh_frm (S := fun _ => False) (aw.fresh l) l'
  have n1 : (aw.fresh l).next = aw.next + 1 := rfl
  refine ⟨_, rfl, (fresh_cb aw l).frm f2 (fun h => h), ?_, f1.tr f2, rfl⟩
  have := fresh_cb (aw.fresh l) l'
  rwa [n1] at this
theorem rEq_ok (C : Codes tab) {a b : Tk} {aw : AW} {K : V → AW → Prop} (h : ∀ w, Frm (fun _ => False) aw w → K (.bool (tkSame a b)) w) : WF tab n_ref8_Eq [.agg (tkC a), .agg (tkC b)] aw K := by
  refine WF_of C.c_ref8_Eq rfl ?_
  obtain ⟨k, s, n⟩ := a
  obtain ⟨k', s', n'⟩ := b
  obtain ⟨w1, e1, c1, c2, r1, m1⟩ := box2 aw [.int .i64 k, .str s, .int .i64 n] [.int .i64 k', .str s', .int .i64 n']
  have l0 := CB.ld c1 0 1 _ rfl
  have l1 := CB.ld c1 1 1 _ rfl
  have l2 := CB.ld c1 2 1 _ rfl
  have q0 := CB.ld c2 0 1 _ rfl
  have q1 := CB.ld c2 1 1 _ rfl
  have q2 := CB.ld c2 2 1 _ rfl
  have h := h w1 r1
  have nn : ∀ l, (aw.fresh l).next = aw.next + 1 := fun _ => rfl
  cases h1 : (k == k') with
  | false =>
    rw [show tkSame ⟨k, s, n⟩ ⟨k', s', n'⟩ = false by simp only [tkSame, h1, Bool.false_and]] at h
    refine WS_run 1000 (by simp only [go_sem, eRun_exit, Nat.reduceAdd, Nat.reduceLT, Nat.reduceEqDiff, reduceIte, reduceCtorEq, Nat.reduceLeDiff, k_ref8_Eq, tkC, nn, e1, l0, l1, l2, q0, q1, q2, h1]; rfl) ?_
    refine WS_ret ⟨_, by simp only [go_sem, eRun_exit, Nat.reduceAdd, Nat.reduceLT, Nat.reduceEqDiff, reduceIte, reduceCtorEq, Nat.reduceLeDiff, k_ref8_Eq]; rfl, ?_⟩
    exact h
  | true =>
    cases h2 : eqL s s' with
    | false =>
      rw [show tkSame ⟨k, s, n⟩ ⟨k', s', n'⟩ = false by simp only [tkSame, h1, h2, Bool.false_and, Bool.and_false]] at h
      refine WS_run 1000 (by simp only [go_sem, eRun_exit, Nat.reduceAdd, Nat.reduceLT, Nat.reduceEqDiff, reduceIte, reduceCtorEq, Nat.reduceLeDiff, k_ref8_Eq, tkC, nn, e1, l0, l1, l2, q0, q1, q2, h1, strS, h2]; rfl) ?_
      refine WS_ret ⟨_, by simp only [go_sem, eRun_exit, Nat.reduceAdd, Nat.reduceLT, Nat.reduceEqDiff, reduceIte, reduceCtorEq, Nat.reduceLeDiff, k_ref8_Eq]; rfl, ?_⟩
      exact h
    | true =>
      rw [show tkSame ⟨k, s, n⟩ ⟨k', s', n'⟩ = (n == n') by simp only [tkSame, h1, h2, Bool.true_and]] at h
      refine WS_run 1000 (by simp only [go_sem, eRun_exit, Nat.reduceAdd, Nat.reduceLT, Nat.reduceEqDiff, reduceIte, reduceCtorEq, Nat.reduceLeDiff, k_ref8_Eq, tkC, nn, e1, l0, l1, l2, q0, q1, q2, h1, strS, h2]; rfl) ?_
      refine WS_ret ⟨_, by simp only [go_sem, eRun_exit, Nat.reduceAdd, Nat.reduceLT, Nat.reduceEqDiff, reduceIte, reduceCtorEq, Nat.reduceLeDiff, k_ref8_Eq]; rfl, ?_⟩
      exact h
end Go.Proofs.YtpbdojjfokelaaaDoor.Val
set_option linter.unusedVariables false
set_option maxRecDepth 10000
set_option linter.unusedSimpArgs false
namespace Go.Proofs.YtpbdojjfokelaaaDoor.Val
open Go.AE Delphi
variable {tab : Tab}
def Formats (tab : Tab) : Prop := ∀ n aw, -9223372036854775808 ≤ n → n ≤ 9223372036854775807 → CallR tab n_strconv_FormatInt [.int .i64 n, .int .i64 10] aw (.str (fmtI n)) aw
theorem print_ok (C : Codes tab) (F : Formats tab) {t : Tk} (hn : t.n.natAbs ≤ 2147483648) {aw : AW} {K : V → AW → Prop} (h : ∀ w, Frm (fun _ => False) aw w → K (.str (if t.k = 3 then fmtI t.n else t.s)) w) : WF tab n_value_Print [.agg (tkC t)] aw K := by
  refine WF_of C.c_value_Print rfl ?_
  obtain ⟨k, s, n⟩ := t
  obtain ⟨w1, e1, c1, r1, m1⟩ := box1 aw [.int .i64 k, .str s, .int .i64 n]
  have l0 := CB.ld c1 0 1 _ rfl
  have l1 := CB.ld c1 1 1 _ rfl
  have l2 := CB.ld c1 2 1 _ rfl
  have h := h w1 r1
  by_cases h1 : k = 3
  · subst h1
    rw [if_pos rfl] at h
    refine WS_run 1000 (by simp only [go_sem, eRun_exit, Nat.reduceAdd, Nat.reduceLT, Nat.reduceEqDiff, reduceIte, reduceCtorEq, Nat.reduceLeDiff, k_value_Print, tkC, e1, l0, l1, l2]; rfl) ?_
    refine WS_call (by simp only [go_sem, eRun_exit, Nat.reduceAdd, Nat.reduceLT, Nat.reduceEqDiff, reduceIte, reduceCtorEq, Nat.reduceLeDiff]) (by simp only [go_sem, eRun_exit, Nat.reduceAdd, Nat.reduceLT, Nat.reduceEqDiff, reduceIte, reduceCtorEq, Nat.reduceLeDiff]; rfl) ?_
    refine ⟨_, _, F n w1 (by have : n.natAbs ≤ 2147483648 := hn; omega) (by have : n.natAbs ≤ 2147483648 := hn; omega), ?_⟩
    refine WS_run 1000 (by simp only [go_sem, eRun_exit, Nat.reduceAdd, Nat.reduceLT, Nat.reduceEqDiff, reduceIte, reduceCtorEq, Nat.reduceLeDiff]; rfl) ?_
    refine WS_ret ⟨_, by simp only [go_sem, eRun_exit, Nat.reduceAdd, Nat.reduceLT, Nat.reduceEqDiff, reduceIte, reduceCtorEq, Nat.reduceLeDiff, k_value_Print]; rfl, ?_⟩
    exact h
  · have h1' : (k == 3) = false := by simpa using h1
    rw [if_neg h1] at h
    refine WS_run 1000 (by simp only [go_sem, eRun_exit, Nat.reduceAdd, Nat.reduceLT, Nat.reduceEqDiff, reduceIte, reduceCtorEq, Nat.reduceLeDiff, k_value_Print, tkC, e1, l0, l1, l2, h1']; rfl) ?_
    refine WS_ret ⟨_, by simp only [go_sem, eRun_exit, Nat.reduceAdd, Nat.reduceLT, Nat.reduceEqDiff, reduceIte, reduceCtorEq, Nat.reduceLeDiff, k_value_Print]; rfl, ?_⟩
    exact h
end Go.Proofs.YtpbdojjfokelaaaDoor.Val
set_option linter.unusedVariables false
set_option maxRecDepth 10000
set_option linter.unusedSimpArgs false
namespace Go.Proofs.YtpbdojjfokelaaaDoor
open Go.AE Delphi Val
variable {tab : Tab}
structure PgS (Tw : Nat → Prop) (w : AW) (bp : Nat) (ws : List Wd) (v : V) (k : Nat) (wh : Bool) (e : Nat) : Prop where
  cb : CB w bp [v, .bool wh, .int .i64 (Int.ofNat e)]
  kle : k ≤ ws.length
  rd : (ws = [] ∧ v = .nilslice) ∨ ∃ b, v = .slice b (k * 3) (ws.length - k) (.upTo 3) ∧ Rd Tw w (.slice b 0 ws.length (.upTo 3)) 3 ws.length (wdsCells ws)
  no : ¬ Tw bp
  len : ws.length ≤ 4000
theorem PgS.frm {Tw S : Nat → Prop} {w w' : AW} {bp : Nat} {ws : List Wd} {v : V} {k e : Nat} {wh : Bool} (h : PgS Tw w bp ws v k wh e) (hf : Frm S w w') (hn : ¬ S bp) (hd : ∀ x, Tw x → ¬ S x) : PgS Tw w' bp ws v k wh e := by
  refine ⟨h.cb.frm hf hn, h.kle, ?_, h.no, h.len⟩
  rcases h.rd with h1 | ⟨b, h1, h2⟩
  · exact .inl h1
  · exact .inr ⟨b, h1, h2.frm hf hd⟩
theorem PgS.frm0 {Tw : Nat → Prop} {w w' : AW} {bp : Nat} {ws : List Wd} {v : V} {k e : Nat} {wh : Bool} (h : PgS Tw w bp ws v k wh e) (hf : Frm (fun _ => False) w w') : PgS Tw w' bp ws v k wh e := h.frm hf (fun h => h) fun _ _ h => h
theorem PgS.inv {Tw : Nat → Prop} {w : AW} {bp : Nat} {ws : List Wd} {v : V} {k e : Nat} {wh : Bool} (h : PgS Tw w bp ws v k wh e) : lenV v = some (ws.length - k) ∧ v.one = true ∧ v.cells = [v] ∧ ((ws = [] ∧ v = .nilslice) ∨ ∃ b, v = .slice b (k * 3) (ws.length - k) (.upTo 3) ∧
    ∀ i x, ws[k + i]? = some x → w.load b (k * 3 + i * 3) 3 = some (wdCells x)) := by
  rcases h.rd with ⟨rfl, rfl⟩ | ⟨b, rfl, h2⟩
  · exact ⟨by simp [lenV], rfl, rfl, .inl ⟨rfl, rfl⟩⟩
  · refine ⟨rfl, rfl, rfl, .inr ⟨b, rfl, fun i x hx => ?_⟩⟩
    have hw : Wds Tw w bp (.slice b 0 ws.length (.upTo 3)) ws := ⟨h2, h.no, h.len⟩
    rcases hw.at with ⟨h1, _⟩ | ⟨b', o, c, h1, _, _, hat⟩
    · cases h1
    · cases h1
      have := (hat (k + i) x hx).2.2
      rw [Nat.zero_add, Nat.add_mul] at this
      exact this
theorem PgS.l0 {Tw : Nat → Prop} {w : AW} {bp : Nat} {ws : List Wd} {v : V} {k e : Nat} {wh : Bool} (h : PgS Tw w bp ws v k wh e) : w.load bp 0 1 = some [v] := CB.ld h.cb 0 1 _ rfl
theorem PgS.l1 {Tw : Nat → Prop} {w : AW} {bp : Nat} {ws : List Wd} {v : V} {k e : Nat} {wh : Bool} (h : PgS Tw w bp ws v k wh e) : w.load bp 1 1 = some [.bool wh] := CB.ld h.cb 1 1 _ rfl
theorem PgS.l2 {Tw : Nat → Prop} {w : AW} {bp : Nat} {ws : List Wd} {v : V} {k e : Nat} {wh : Bool} (h : PgS Tw w bp ws v k wh e) : w.load bp 2 1 = some [.int .i64 (Int.ofNat e)] := CB.ld h.cb 2 1 _ rfl
theorem PgS.err {Tw : Nat → Prop} {w : AW} {bp : Nat} {ws : List Wd} {v : V} {k e : Nat} {wh : Bool} (h : PgS Tw w bp ws v k wh e) (e' : Nat) : ∃ w', w.store bp 2 [.int .i64 (Int.ofNat e')] = some w' ∧ PgS Tw w' bp ws v k wh e' ∧ Frm (fun x => x = bp) w w' ∧ w'.next = w.next := by
  have hf := put_frm (w := w) (b := bp) (l := [v, V.bool wh, .int .i64 (Int.ofNat e')])
  refine ⟨w.put bp [v, .bool wh, .int .i64 (Int.ofNat e')], h.cb.set (i := 2) (v := .int .i64 (Int.ofNat e')) (by simp) rfl, ⟨put_cb h.cb.lt, h.kle, ?_, h.no, h.len⟩, hf, rfl⟩
  rcases h.rd with h1 | ⟨b, h1, h2⟩
  · exact .inl h1
  · exact .inr ⟨b, h1, h2.frm hf fun x hx he => h.no (he ▸ hx)⟩
theorem PgS.take {Tw : Nat → Prop} {w : AW} {bp : Nat} {ws : List Wd} {v : V} {k e : Nat} {wh : Bool} (h : PgS Tw w bp ws v k wh e) (hk : k < ws.length) : ∃ b v' w', v = .slice b (k * 3) (ws.length - k) (.upTo 3) ∧ w.sliceW 3 b (k * 3) (ws.length - k) (.upTo 3) (some 1) none none = some v' ∧ w.store bp 0 [v'] = some w' ∧ PgS Tw w' bp ws v' (k + 1) wh e ∧ Frm (fun x => x = bp) w w' ∧ v'.cells = [v'] := by
  rcases h.rd with ⟨rfl, _⟩ | ⟨b, h1, h2⟩
  · simp at hk
  have hf := put_frm (w := w) (b := bp) (l := [V.slice b ((k + 1) * 3) (ws.length - (k + 1)) (.upTo 3), V.bool wh, .int .i64 (Int.ofNat e)])
  refine ⟨b, .slice b ((k + 1) * 3) (ws.length - (k + 1)) (.upTo 3), w.put bp [.slice b ((k + 1) * 3) (ws.length - (k + 1)) (.upTo 3), .bool wh, .int .i64 (Int.ofNat e)], h1, ?_, h.cb.set (i := 0) (by simp) rfl, ⟨put_cb h.cb.lt, hk, .inr ⟨b, rfl, h2.frm hf fun x hx he => h.no (he ▸ hx)⟩, h.no, h.len⟩, hf, rfl⟩
  have e1 : sliceV 3 b (k * 3) (ws.length - k) (.upTo 3) (some 1) none none = some (.slice b ((k + 1) * 3) (ws.length - (k + 1)) (.upTo 3)) := by
    simp only [sliceV, Option.getD_none, Option.getD_some]
    rw [if_pos ⟨Nat.le_refl _, by omega, trivial⟩]
    congr 2
    omega
  simp only [AW.sliceW, e1]
theorem pfail_ok (C : Codes tab) {Tw : Nat → Prop} {bp k e x : Nat} {wh : Bool} {v : V} {ws : List Wd} {aw : AW} {K : V → AW → Prop} (hp : PgS Tw aw bp ws v k wh e)
    (h : ∀ w, PgS Tw w bp ws v k wh (rBad e x) → Frm (fun b => b = bp) aw w → K (.tuple []) w) : WF tab n_syntax_parser_fail [.ptr bp 0, .int .i64 (Int.ofNat x)] aw K := by
  refine WF_of C.c_syntax_parser_fail rfl ?_
  have l2 := hp.l2
  by_cases he : e = 0
  · subst he
    obtain ⟨w1, s1, p1, f1, _⟩ := hp.err x
    refine WS_run 1000 (by simp only [go_sem, eRun_exit, Nat.reduceAdd, Nat.reduceLT, Nat.reduceEqDiff, reduceIte, reduceCtorEq, Nat.reduceLeDiff, k_syntax_parser_fail_p0, k_syntax_parser_fail, l2, s1]; rfl) ?_
    refine WS_nil ⟨_, by simp only [go_sem, eRun_exit, Nat.reduceAdd, Nat.reduceLT, Nat.reduceEqDiff, reduceIte, reduceCtorEq, Nat.reduceLeDiff, k_syntax_parser_fail]; rfl, ?_⟩
    exact h _ p1 f1
  · have : rBad e x = e := if_neg he
    rw [this] at h
    refine WS_run 1000 (by simp only [go_sem, eRun_exit, Nat.reduceAdd, Nat.reduceLT, Nat.reduceEqDiff, reduceIte, reduceCtorEq, Nat.reduceLeDiff, k_syntax_parser_fail_p0, k_syntax_parser_fail, l2, he]; rfl) ?_
    refine WS_nil ⟨_, by simp only [go_sem, eRun_exit, Nat.reduceAdd, Nat.reduceLT, Nat.reduceEqDiff, reduceIte, reduceCtorEq, Nat.reduceLeDiff, k_syntax_parser_fail]; rfl, ?_⟩
    exact h _ hp (Frm.refl _)
def peekW (ws : List Wd) (k e : Nat) : Wd := (rNext ws k e).getD ⟨0, [], 0⟩
theorem peek_ok (C : Codes tab) {Tw : Nat → Prop} {bp k e j : Nat} {wh : Bool} {v : V} {ws : List Wd} {aw : AW} {K : V → AW → Prop} (hp : PgS Tw aw bp ws v k wh e)
    (h : ∀ w, Frm (fun _ => False) aw w → K (.agg (wdCells (peekW ws (k + j) e))) w) : WF tab n_syntax_parser_peek [.ptr bp 0, .int .i64 (Int.ofNat j)] aw K := by
  refine WF_of C.c_syntax_parser_peek rfl ?_
  obtain ⟨w1, e1, c1, r1, m1⟩ := box1 aw [.int .i64 0, .str [], .int .i64 0]
  have hp1 := hp.frm0 r1
  obtain ⟨hlv, ho, hc, hi⟩ := hp1.inv
  have l2 := hp1.l2
  have l0 := hp1.l0
  have fin : ∀ x : Wd, ∃ w2, w1.store aw.next 0 (wdCells x) = some w2 ∧ w2.load aw.next 0 3 = some (wdCells x) ∧ Frm (fun _ => False) aw w2 := fun x =>
    ⟨_, c1.setAll (vs := wdCells x) rfl rfl, (put_cb (l := wdCells x) c1.lt).all (n := 3) rfl, r1.trans put_frm (fun _ _ h => h) (by rintro y hy rfl; omega)⟩
  obtain ⟨w2, s2, k2, f2⟩ := fin ⟨0, [], 0⟩
  have s2 : w1.store aw.next 0 [.int .i64 0, .str [], .int .i64 0] = some w2 := s2
  have k2 : w2.load aw.next 0 3 = some [.int .i64 0, .str [], .int .i64 0] := k2
  by_cases he : e = 0
  case neg =>
    have hw : peekW ws (k + j) e = ⟨0, [], 0⟩ := by simp [peekW, rNext, he]
    rw [hw] at h
    refine WS_run 1000 (by simp only [go_sem, eRun_exit, Nat.reduceAdd, Nat.reduceLT, Nat.reduceEqDiff, reduceIte, reduceCtorEq, Nat.reduceLeDiff, k_syntax_parser_peek_p0, k_syntax_parser_peek_p1, k_syntax_parser_peek_p2, k_syntax_parser_peek, e1, l2, he, evParts, fillV, over, List.length_cons, List.length_nil, s2]; rfl) ?_
    refine WS_ret ⟨_, by simp only [go_sem, eRun_exit, Nat.reduceAdd, Nat.reduceLT, Nat.reduceEqDiff, reduceIte, reduceCtorEq, Nat.reduceLeDiff, k_syntax_parser_peek, k2]; rfl, ?_⟩
    exact h w2 f2
  subst he
  by_cases hj : ws.length - k ≤ j
  · have hw : peekW ws (k + j) 0 = ⟨0, [], 0⟩ := by simp only [peekW, rNext, if_true]; rw [List.getElem?_eq_none (by omega)]; rfl
    rw [hw] at h
    refine WS_run 1000 (by simp only [go_sem, eRun_exit, Nat.reduceAdd, Nat.reduceLT, Nat.reduceEqDiff, reduceIte, reduceCtorEq, Nat.reduceLeDiff, k_syntax_parser_peek_p0, k_syntax_parser_peek_p1, k_syntax_parser_peek_p2, k_syntax_parser_peek, e1, l2, l0, hlv, hj, evParts, fillV, over, List.length_cons, List.length_nil, s2]; rfl) ?_
    refine WS_ret ⟨_, by simp only [go_sem, eRun_exit, Nat.reduceAdd, Nat.reduceLT, Nat.reduceEqDiff, reduceIte, reduceCtorEq, Nat.reduceLeDiff, k_syntax_parser_peek, k2]; rfl, ?_⟩
    exact h w2 f2
  have hlt : k + j < ws.length := by omega
  obtain ⟨x, hx⟩ : ∃ x, ws[k + j]? = some x := ⟨_, List.getElem?_eq_getElem hlt⟩
  have hw : peekW ws (k + j) 0 = x := by simp only [peekW, rNext, if_true]; rw [hx]; rfl
  rw [hw] at h
  rcases hi with ⟨rfl, _⟩ | ⟨b, rfl, hat⟩
  · simp at hlt
  obtain ⟨w3, s3, k3, f3⟩ := fin x
  have a3 := hat j x hx
  have hj' : j < ws.length - k := by omega
  refine WS_run 1000 (by simp only [go_sem, eRun_exit, Nat.reduceAdd, Nat.reduceLT, Nat.reduceEqDiff, reduceIte, reduceCtorEq, Nat.reduceLeDiff, k_syntax_parser_peek_p0, k_syntax_parser_peek_p1, k_syntax_parser_peek_p2, k_syntax_parser_peek, e1, l2, l0, hj, hj', a3, wdCells_len, s3]; rfl) ?_
  refine WS_ret ⟨_, by simp only [go_sem, eRun_exit, Nat.reduceAdd, Nat.reduceLT, Nat.reduceEqDiff, reduceIte, reduceCtorEq, Nat.reduceLeDiff, k_syntax_parser_peek, k3]; rfl, ?_⟩
  exact h w3 f3
def pSign (ws : List Wd) (k e : Nat) (s : List Nat) : Bool := decide (e = 0) && rSign ws k s
theorem pSign_0 {ws : List Wd} {k : Nat} {s : List Nat} : pSign ws k 0 s = rSign ws k s := rfl
theorem eqLd (s g : List Nat) : eqL s g = decide (s = g) := by
  by_cases hh : s = g
  · rw [decide_eq_true hh]; exact eqL_iff.2 hh
  · rw [decide_eq_false hh]
    cases hc : eqL s g with
    | false => rfl
    | true => exact absurd (eqL_iff.1 hc) hh
theorem peekW_sign {ws : List Wd} {k e : Nat} {s : List Nat} : pSign ws k e s = (decide ((peekW ws k e).kind = 4) && decide ((peekW ws k e).text = s)) := by
  unfold pSign peekW rNext rSign
  by_cases he : e = 0
  · subst he
    simp only [decide_true, Bool.true_and, if_true]
    cases ws[k]? with
    | none => simp
    | some x => rfl
  · simp [he]
theorem is_ok (C : Codes tab) {Tw : Nat → Prop} {bp k e : Nat} {wh : Bool} {v : V} {ws : List Wd} {s : List Nat} {aw : AW} {K : V → AW → Prop} (hp : PgS Tw aw bp ws v k wh e)
    (h : ∀ w, Frm (fun _ => False) aw w → K (.bool (pSign ws k e s)) w) : WF tab n_syntax_parser_is [.ptr bp 0, .str s] aw K := by
  refine WF_of C.c_syntax_parser_is rfl ?_
  rw [peekW_sign] at h
  refine WS_run 1000 (by simp only [go_sem, eRun_exit, Nat.reduceAdd, Nat.reduceLT, Nat.reduceEqDiff, reduceIte, reduceCtorEq, Nat.reduceLeDiff, k_syntax_parser_is_p0, k_syntax_parser_is_p1, k_syntax_parser_is]; rfl) ?_
  refine WS_call (by simp only [go_sem, eRun_exit, Nat.reduceAdd, Nat.reduceLT, Nat.reduceEqDiff, reduceIte, reduceCtorEq, Nat.reduceLeDiff]) (by simp only [go_sem, eRun_exit, Nat.reduceAdd, Nat.reduceLT, Nat.reduceEqDiff, reduceIte, reduceCtorEq, Nat.reduceLeDiff]; rfl) ?_
  refine peek_ok C (j := 0) hp fun w g => ?_
  rw [Nat.add_zero]
  generalize peekW ws k e = x at *
  obtain ⟨w2, s2, c2, r2, n2⟩ := boxed w (zs := [V.int .i64 0, V.str [], V.int .i64 0]) (vs := wdCells x) rfl rfl
  have a0 := CB.ld c2 0 1 _ rfl
  have a1 := CB.ld c2 1 1 _ rfl
  have f2 := g.tr r2
  by_cases h4 : x.kind = 4
  · rw [decide_eq_true h4, Bool.true_and, ← eqLd] at h
    refine WS_run 1000 (by simp only [go_sem, eRun_exit, Nat.reduceAdd, Nat.reduceLT, Nat.reduceEqDiff, reduceIte, reduceCtorEq, Nat.reduceLeDiff, s2, wdCells_len, a0, a1, h4, strS]; rfl) ?_
    refine WS_ret ⟨_, by simp only [go_sem, eRun_exit, Nat.reduceAdd, Nat.reduceLT, Nat.reduceEqDiff, reduceIte, reduceCtorEq, Nat.reduceLeDiff, k_syntax_parser_is]; rfl, ?_⟩
    exact h w2 f2
  · rw [decide_eq_false h4, Bool.false_and] at h
    refine WS_run 1000 (by simp only [go_sem, eRun_exit, Nat.reduceAdd, Nat.reduceLT, Nat.reduceEqDiff, reduceIte, reduceCtorEq, Nat.reduceLeDiff, s2, wdCells_len, a0, a1, h4]; rfl) ?_
    refine WS_ret ⟨_, by simp only [go_sem, eRun_exit, Nat.reduceAdd, Nat.reduceLT, Nat.reduceEqDiff, reduceIte, reduceCtorEq, Nat.reduceLeDiff, k_syntax_parser_is]; rfl, ?_⟩
    exact h w2 f2
theorem pSign_lt {ws : List Wd} {k e : Nat} {s : List Nat} (h : pSign ws k e s = true) : k < ws.length ∧ e = 0 ∧ rSign ws k s = true := by
  unfold pSign at h
  simp only [Bool.and_eq_true, decide_eq_true_eq] at h
  exact ⟨rSign_lt h.2, h.1, h.2⟩
theorem ptake_ok (C : Codes tab) {Tw : Nat → Prop} {bp k e : Nat} {wh : Bool} {v : V} {ws : List Wd} {s : List Nat} {aw : AW} {K : V → AW → Prop} (hp : PgS Tw aw bp ws v k wh e) (hT : ∀ x, Tw x → x < aw.next)
    (h : ∀ w v', PgS Tw w bp ws v' (if pSign ws k e s = true then k + 1 else k) wh e → Frm (fun b => b = bp) aw w → K (.bool (pSign ws k e s)) w) : WF tab n_syntax_parser_take [.ptr bp 0, .str s] aw K := by
  refine WF_of C.c_syntax_parser_take rfl ?_
  refine WS_run 1000 (by simp only [go_sem, eRun_exit, Nat.reduceAdd, Nat.reduceLT, Nat.reduceEqDiff, reduceIte, reduceCtorEq, Nat.reduceLeDiff, k_syntax_parser_take_p0, k_syntax_parser_take_p1, k_syntax_parser_take]; rfl) ?_
  refine WS_call (by simp only [go_sem, eRun_exit, Nat.reduceAdd, Nat.reduceLT, Nat.reduceEqDiff, reduceIte, reduceCtorEq, Nat.reduceLeDiff]) (by simp only [go_sem, eRun_exit, Nat.reduceAdd, Nat.reduceLT, Nat.reduceEqDiff, reduceIte, reduceCtorEq, Nat.reduceLeDiff]; rfl) ?_
  refine is_ok C hp fun w g => ?_
  have hp1 := hp.frm0 g
  cases hs : pSign ws k e s with
  | false =>
    rw [hs] at h
    refine WS_run 1000 (by simp only [go_sem, eRun_exit, Nat.reduceAdd, Nat.reduceLT, Nat.reduceEqDiff, reduceIte, reduceCtorEq, Nat.reduceLeDiff]; rfl) ?_
    refine WS_ret ⟨_, by simp only [go_sem, eRun_exit, Nat.reduceAdd, Nat.reduceLT, Nat.reduceEqDiff, reduceIte, reduceCtorEq, Nat.reduceLeDiff, k_syntax_parser_take]; rfl, ?_⟩
    exact h w v hp1 g.no
  | true =>
    rw [hs] at h
    obtain ⟨b, v', w', rfl, q1, q2, q3, q4, q5⟩ := hp1.take (pSign_lt hs).1
    have l0 := hp1.l0
    refine WS_run 1000 (by simp only [go_sem, eRun_exit, Nat.reduceAdd, Nat.reduceLT, Nat.reduceEqDiff, reduceIte, reduceCtorEq, Nat.reduceLeDiff, l0, q1, q2, q5, List.length_cons, List.length_nil]; rfl) ?_
    refine WS_ret ⟨_, by simp only [go_sem, eRun_exit, Nat.reduceAdd, Nat.reduceLT, Nat.reduceEqDiff, reduceIte, reduceCtorEq, Nat.reduceLeDiff, k_syntax_parser_take]; rfl, ?_⟩
    exact h w' v' q3 (g.no.tr q4)
theorem must_ok (C : Codes tab) {Tw : Nat → Prop} {bp k e : Nat} {wh : Bool} {v : V} {ws : List Wd} {s : List Nat} {aw : AW} {K : V → AW → Prop} (hp : PgS Tw aw bp ws v k wh e) (hT : ∀ x, Tw x → x < aw.next)
    (h : ∀ w v', PgS Tw w bp ws v' (rEat ws s k e).1 wh (rEat ws s k e).2 → Frm (fun b => b = bp) aw w → K (.tuple []) w) : WF tab n_syntax_parser_must [.ptr bp 0, .str s] aw K := by
  refine WF_of C.c_syntax_parser_must rfl ?_
  refine WS_run 1000 (by simp only [go_sem, eRun_exit, Nat.reduceAdd, Nat.reduceLT, Nat.reduceEqDiff, reduceIte, reduceCtorEq, Nat.reduceLeDiff, k_syntax_parser_must_p0, k_syntax_parser_must]; rfl) ?_
  refine WS_call (by simp only [go_sem, eRun_exit, Nat.reduceAdd, Nat.reduceLT, Nat.reduceEqDiff, reduceIte, reduceCtorEq, Nat.reduceLeDiff]) (by simp only [go_sem, eRun_exit, Nat.reduceAdd, Nat.reduceLT, Nat.reduceEqDiff, reduceIte, reduceCtorEq, Nat.reduceLeDiff]; rfl) ?_
  refine ptake_ok C hp hT fun w v' q1 q2 => ?_
  cases hs : pSign ws k e s with
  | false =>
    rw [hs, if_neg (by simp)] at q1
    refine WS_run 1000 (by simp only [go_sem, eRun_exit, Nat.reduceAdd, Nat.reduceLT, Nat.reduceEqDiff, reduceIte, reduceCtorEq, Nat.reduceLeDiff]; rfl) ?_
    refine WS_call (by simp only [go_sem, eRun_exit, Nat.reduceAdd, Nat.reduceLT, Nat.reduceEqDiff, reduceIte, reduceCtorEq, Nat.reduceLeDiff]) (by simp only [go_sem, eRun_exit, Nat.reduceAdd, Nat.reduceLT, Nat.reduceEqDiff, reduceIte, reduceCtorEq, Nat.reduceLeDiff]; rfl) ?_
    refine pfail_ok C (x := 4) q1 fun w2 u1 u2 => ?_
    refine WS_run 1000 (by simp only [go_sem, eRun_exit, Nat.reduceAdd, Nat.reduceLT, Nat.reduceEqDiff, reduceIte, reduceCtorEq, Nat.reduceLeDiff]; rfl) ?_
    refine WS_nil ⟨_, by simp only [go_sem, eRun_exit, Nat.reduceAdd, Nat.reduceLT, Nat.reduceEqDiff, reduceIte, reduceCtorEq, Nat.reduceLeDiff, k_syntax_parser_must]; rfl, ?_⟩
    have he : rEat ws s k e = (k, rBad e 4) := by
      unfold rEat rBad
      by_cases he : e = 0
      · subst he
        rw [pSign_0] at hs
        simp [hs]
      · simp [he]
    rw [he] at h
    exact h w2 v' u1 (q2.tr u2)
  | true =>
    rw [hs, if_pos rfl] at q1
    obtain ⟨h1, rfl, h3⟩ := pSign_lt hs
    have he : rEat ws s k 0 = (k + 1, 0) := by simp [rEat, h3]
    rw [he] at h
    refine WS_run 1000 (by simp only [go_sem, eRun_exit, Nat.reduceAdd, Nat.reduceLT, Nat.reduceEqDiff, reduceIte, reduceCtorEq, Nat.reduceLeDiff]; rfl) ?_
    refine WS_nil ⟨_, by simp only [go_sem, eRun_exit, Nat.reduceAdd, Nat.reduceLT, Nat.reduceEqDiff, reduceIte, reduceCtorEq, Nat.reduceLeDiff, k_syntax_parser_must]; rfl, ?_⟩
    exact h w v' q1 q2
def nextK (ws : List Wd) (k e : Nat) : Nat := if (rNext ws k e).isSome then k + 1 else k
def nextE (ws : List Wd) (k e : Nat) : Nat := if (rNext ws k e).isSome then e else rBad e 4
theorem next_ok (C : Codes tab) {Tw : Nat → Prop} {bp k e : Nat} {wh : Bool} {v : V} {ws : List Wd} {aw : AW} {K : V → AW → Prop} (hp : PgS Tw aw bp ws v k wh e) (hT : ∀ x, Tw x → x < aw.next) (hok : ∀ x ∈ ws, WOk x)
    (h : ∀ w v', PgS Tw w bp ws v' (nextK ws k e) wh (nextE ws k e) → Frm (fun b => b = bp) aw w → K (.agg (wdCells (peekW ws k e))) w) : WF tab n_syntax_parser_next [.ptr bp 0] aw K := by
  refine WF_of C.c_syntax_parser_next rfl ?_
  obtain ⟨w1, e1, c1, r1, m1⟩ := box1 aw [.int .i64 0, .str [], .int .i64 0]
  have hp1 := hp.frm0 r1
  have hbl := hp.cb.lt
  have hnb : ¬ aw.next = bp := by omega
  refine WS_run 1000 (by simp only [go_sem, eRun_exit, Nat.reduceAdd, Nat.reduceLT, Nat.reduceEqDiff, reduceIte, reduceCtorEq, Nat.reduceLeDiff, k_syntax_parser_next_p0, k_syntax_parser_next_p1, k_syntax_parser_next_p2, k_syntax_parser_next, e1]; rfl) ?_
  refine WS_call (by simp only [go_sem, eRun_exit, Nat.reduceAdd, Nat.reduceLT, Nat.reduceEqDiff, reduceIte, reduceCtorEq, Nat.reduceLeDiff]) (by simp only [go_sem, eRun_exit, Nat.reduceAdd, Nat.reduceLT, Nat.reduceEqDiff, reduceIte, reduceCtorEq, Nat.reduceLeDiff]; rfl) ?_
  refine peek_ok C (j := 0) hp1 fun w2 g => ?_
  rw [Nat.add_zero]
  have hp2 := hp1.frm0 g
  have c2 := c1.frm g fun h => h
  obtain ⟨w3, s3, c3, r3, n3⟩ := boxed w2 (zs := [V.int .i64 0, V.str [], V.int .i64 0]) (vs := wdCells (peekW ws k e)) rfl rfl
  have hp3 := hp2.frm0 r3
  have c23 := c2.frm r3 fun h => h
  have a0 := CB.ld c3 0 1 _ rfl
  have n2 := g.next
  have hn2 : ¬ w2.next = bp := by omega
  have f3 := (r1.tr g).tr r3
  have fin : ∀ w4, Frm (fun b => b = bp) w3 w4 → ∃ w5, w4.load w2.next 0 3 = some (wdCells (peekW ws k e)) ∧ w4.store aw.next 0 (wdCells (peekW ws k e)) = some w5 ∧ w5.load aw.next 0 3 = some (wdCells (peekW ws k e)) ∧ Frm (fun b => b = bp) aw w5 ∧ Frm (fun b => b = aw.next) w4 w5 := by
    intro w4 g4
    have c4 := c23.frm g4 hnb
    refine ⟨_, (c3.frm g4 hn2).all rfl, c4.setAll (vs := wdCells (peekW ws k e)) rfl rfl, (put_cb (l := wdCells (peekW ws k e)) c4.lt).all (n := 3) rfl, ?_, put_frm⟩
    exact (f3.no.tr g4).out (Nat.le_refl _) rfl
  cases hx : rNext ws k e with
  | none =>
    have hw : peekW ws k e = ⟨0, [], 0⟩ := by simp only [peekW, hx]; rfl
    have hk0 : (peekW ws k e).kind = 0 := by rw [hw]
    simp only [nextK, nextE, hx] at h
    have h : ∀ w v', PgS Tw w bp ws v' k wh (rBad e 4) → Frm (fun b => b = bp) aw w → K (.agg (wdCells (peekW ws k e))) w := h
    refine WS_run 1000 (by simp only [go_sem, eRun_exit, Nat.reduceAdd, Nat.reduceLT, Nat.reduceEqDiff, reduceIte, reduceCtorEq, Nat.reduceLeDiff, s3, wdCells_len, a0, hk0, k_syntax_parser_next_p0, k_syntax_parser_next_p1, k_syntax_parser_next_p2, k_syntax_parser_next]; rfl) ?_
    refine WS_call (by simp only [go_sem, eRun_exit, Nat.reduceAdd, Nat.reduceLT, Nat.reduceEqDiff, reduceIte, reduceCtorEq, Nat.reduceLeDiff]) (by simp only [go_sem, eRun_exit, Nat.reduceAdd, Nat.reduceLT, Nat.reduceEqDiff, reduceIte, reduceCtorEq, Nat.reduceLeDiff]; rfl) ?_
    refine pfail_ok C (x := 4) hp3 fun w4 u1 u2 => ?_
    obtain ⟨w5, q1, q2, q3, q4, q5⟩ := fin w4 u2
    refine WS_run 1000 (by simp only [go_sem, eRun_exit, Nat.reduceAdd, Nat.reduceLT, Nat.reduceEqDiff, reduceIte, reduceCtorEq, Nat.reduceLeDiff, q1, q2]; rfl) ?_
    refine WS_ret ⟨_, by simp only [go_sem, eRun_exit, Nat.reduceAdd, Nat.reduceLT, Nat.reduceEqDiff, reduceIte, reduceCtorEq, Nat.reduceLeDiff, k_syntax_parser_next, q3]; rfl, ?_⟩
    exact h w5 v (u1.frm q5 (fun h => hnb h.symm) fun x hx he => by have := hT x hx; omega) q4
  | some x =>
    obtain ⟨hk, rfl, hgx⟩ := rNext_lt hx
    have hw : peekW ws k 0 = x := by simp only [peekW, hx]; rfl
    obtain ⟨x1, x2, x3, x4, x5⟩ := hok x (List.mem_of_getElem? hgx)
    have hk0 : ¬ (peekW ws k 0).kind = 0 := by rw [hw]; omega
    simp only [nextK, nextE, hx] at h
    have h : ∀ w v', PgS Tw w bp ws v' (k + 1) wh 0 → Frm (fun b => b = bp) aw w → K (.agg (wdCells (peekW ws k 0))) w := h
    obtain ⟨b, v', w4, rfl, p1, p2, p3, p4, p5⟩ := hp3.take hk
    have l0 := hp3.l0
    obtain ⟨w5, q1, q2, q3, q4, q5⟩ := fin w4 p4
    refine WS_run 1000 (by simp only [go_sem, eRun_exit, Nat.reduceAdd, Nat.reduceLT, Nat.reduceEqDiff, reduceIte, reduceCtorEq, Nat.reduceLeDiff, s3, wdCells_len, a0, hk0, l0, p1, p2, p5, q1, q2, List.length_cons, List.length_nil]; rfl) ?_
    refine WS_ret ⟨_, by simp only [go_sem, eRun_exit, Nat.reduceAdd, Nat.reduceLT, Nat.reduceEqDiff, reduceIte, reduceCtorEq, Nat.reduceLeDiff, k_syntax_parser_next, q3]; rfl, ?_⟩
    exact h w5 v' (p3.frm q5 (fun h => hnb h.symm) fun x hx he => by have := hT x hx; omega) q4
theorem end_ok (C : Codes tab) {Tw : Nat → Prop} {bp k e : Nat} {wh : Bool} {v : V} {ws : List Wd} {aw : AW} {K : V → AW → Prop} (hp : PgS Tw aw bp ws v k wh e)
    (h : K (.bool (decide (k = ws.length) && wh)) aw) : WF tab n_syntax_parser_end [.ptr bp 0] aw K := by
  refine WF_of C.c_syntax_parser_end rfl ?_
  obtain ⟨hlv, ho, hc, hi⟩ := hp.inv
  have l0 := hp.l0
  have l1 := hp.l1
  have hk := hp.kle
  by_cases hz : ws.length - k = 0
  · have he : k = ws.length := by omega
    rw [decide_eq_true he, Bool.true_and] at h
    refine WS_run 1000 (by simp only [go_sem, eRun_exit, Nat.reduceAdd, Nat.reduceLT, Nat.reduceEqDiff, reduceIte, reduceCtorEq, Nat.reduceLeDiff, k_syntax_parser_end_p0, k_syntax_parser_end, l0, l1, hlv, hz]; rfl) ?_
    refine WS_ret ⟨_, by simp only [go_sem, eRun_exit, Nat.reduceAdd, Nat.reduceLT, Nat.reduceEqDiff, reduceIte, reduceCtorEq, Nat.reduceLeDiff, k_syntax_parser_end]; rfl, ?_⟩
    exact h
  · have he : ¬ k = ws.length := by omega
    rw [decide_eq_false he, Bool.false_and] at h
    refine WS_run 1000 (by simp only [go_sem, eRun_exit, Nat.reduceAdd, Nat.reduceLT, Nat.reduceEqDiff, reduceIte, reduceCtorEq, Nat.reduceLeDiff, k_syntax_parser_end_p0, k_syntax_parser_end, l0, l1, hlv, hz]; rfl) ?_
    refine WS_ret ⟨_, by simp only [go_sem, eRun_exit, Nat.reduceAdd, Nat.reduceLT, Nat.reduceEqDiff, reduceIte, reduceCtorEq, Nat.reduceLeDiff, k_syntax_parser_end]; rfl, ?_⟩
    exact h
end Go.Proofs.YtpbdojjfokelaaaDoor
set_option linter.unusedVariables false
set_option maxRecDepth 10000
set_option linter.unusedSimpArgs false
namespace Go.Proofs.YtpbdojjfokelaaaDoor
open Go.AE Delphi Val
variable {tab : Tab}
structure Dn {α : Type} (e : Nat) (r : α × Nat × Nat) (t : α) (k' e' : Nat) : Prop where
  bad : e ≠ 0 → e' = e
  same : e = 0 → e' = r.2.2
  fine : e = 0 → e' = 0 → k' = r.2.1 ∧ t = r.1
structure WsOk (ws : List Wd) : Prop where
  ok : ∀ x ∈ ws, WOk x
  num : ∀ x ∈ ws, x.kind = 3 → numT x.text = true
def Parses (tab : Tab) : Prop := ∀ s aw, numT s = true → s.length ≤ 16 → CallR tab n_strconv_ParseInt [.str s, .int .i64 10, .int .i64 64] aw (.tuple [.int .i64 (numV s), .niliface]) aw
theorem sterm_ok (C : Codes tab) (PI : Parses tab) {Tw : Nat → Prop} {bp k e : Nat} {wh : Bool} {v : V} {ws : List Wd} {aw : AW} {K : V → AW → Prop} (hp : PgS Tw aw bp ws v k wh e) (hT : ∀ x, Tw x → x < aw.next) (hok : WsOk ws)
    (h : ∀ w v' k' e' t, PgS Tw w bp ws v' k' wh e' → Frm (fun b => b = bp) aw w → Dn e (rTerm ws k 0) t k' e' → K (.agg (tmC t)) w) : WF tab n_syntax_parser_term [.ptr bp 0] aw K := by
  refine WF_of C.c_syntax_parser_term rfl ?_
  obtain ⟨w1, e1, c1, r1, m1⟩ := box1 aw [.int .i64 0, .str [], .int .i64 0]
  have hp1 := hp.frm0 r1
  have hbl := hp.cb.lt
  have hnb : ¬ aw.next = bp := by omega
  refine WS_run 1000 (by simp only [go_sem, eRun_exit, Nat.reduceAdd, Nat.reduceLT, Nat.reduceEqDiff, reduceIte, reduceCtorEq, Nat.reduceLeDiff, k_syntax_parser_term_p0, k_syntax_parser_term_p1, k_syntax_parser_term_p2, k_syntax_parser_term_p3, k_syntax_parser_term_p4, k_syntax_parser_term_p5, k_syntax_parser_term_p6, k_syntax_parser_term_p7, k_syntax_parser_term_p8, k_syntax_parser_term_p10, k_syntax_parser_term, e1]; rfl) ?_
  refine WS_call (by simp only [go_sem, eRun_exit, Nat.reduceAdd, Nat.reduceLT, Nat.reduceEqDiff, reduceIte, reduceCtorEq, Nat.reduceLeDiff]) (by simp only [go_sem, eRun_exit, Nat.reduceAdd, Nat.reduceLT, Nat.reduceEqDiff, reduceIte, reduceCtorEq, Nat.reduceLeDiff]; rfl) ?_
  refine next_ok C hp1 (fun x hx => Nat.lt_of_lt_of_le (hT x hx) r1.next) hok.ok fun w2 v2 hp2 g2 => ?_
  obtain ⟨w3, s3, c3, r3, n3⟩ := boxed w2 (zs := [V.int .i64 0, V.str [], V.int .i64 0]) (vs := wdCells (peekW ws k e)) rfl rfl
  have hp3 := hp2.frm0 r3
  have a0 := CB.ld c3 0 1 _ rfl
  have a1 := CB.ld c3 1 1 _ rfl
  have n2 := g2.next
  have f3 : Frm (fun b => b = bp) aw w3 := (r1.no.tr g2).tr r3.no
  -- the end: the result's block written
  have fin : ∀ (w4 : AW) (t : Tm), Frm (fun b => b = bp) w3 w4 → ∃ w5, w4.store aw.next 0 (tmC t) = some w5 ∧ w5.load aw.next 0 3 = some (tmC t) ∧ Frm (fun b => b = bp) aw w5 ∧ Frm (fun b => b = aw.next) w4 w5 := by
    intro w4 t g4
    have c4 := (((c1.frm g2 hnb).frm r3 fun h => h).frm g4 hnb)
    refine ⟨_, c4.setAll (vs := tmC t) rfl rfl, (put_cb (l := tmC t) c4.lt).all (n := 3) rfl, ?_, put_frm⟩
    exact (f3.tr g4).out (Nat.le_refl _) rfl
  have sep : ∀ {w4 w5 : AW} {v4 : V} {k4 e4 : Nat}, PgS Tw w4 bp ws v4 k4 wh e4 → Frm (fun b => b = aw.next) w4 w5 → PgS Tw w5 bp ws v4 k4 wh e4 := fun h g => h.frm g (fun h => hnb h.symm) fun x hx he => by have := hT x hx; omega
  -- no term
  have no : ∀ {s : List SI} {fr : Fr}, (∀ k', Dn e (rTerm ws k 0) Tm.zero k' (rBad (nextE ws k e) 4)) → fr.get 0 = some (.ptr bp 0) → fr.get 2 = some (.ptr aw.next 0) →
      WS tab (.code k_syntax_parser_term_p9 :: s) fr w3 (fun fr' aw' => ∃ vs, resV fr' aw' k_syntax_parser_term.results = some vs ∧ K (resOne vs) aw') := by
    intro s fr hD f0 f2
    refine WS_run 1000 (by simp only [go_sem, eRun_exit, Nat.reduceAdd, Nat.reduceLT, Nat.reduceEqDiff, reduceIte, reduceCtorEq, Nat.reduceLeDiff, k_syntax_parser_term_p9, f0, f2]; rfl) ?_
    refine WS_call (by simp only [go_sem, eRun_exit, Nat.reduceAdd, Nat.reduceLT, Nat.reduceEqDiff, reduceIte, reduceCtorEq, Nat.reduceLeDiff]) (by simp only [go_sem, eRun_exit, Nat.reduceAdd, Nat.reduceLT, Nat.reduceEqDiff, reduceIte, reduceCtorEq, Nat.reduceLeDiff]; rfl) ?_
    refine pfail_ok C (x := 4) hp3 fun w4 u1 u2 => ?_
    obtain ⟨w5, q1, q2, q3, q4⟩ := fin w4 Tm.zero u2
    have q1 : w4.store aw.next 0 [.int .i64 0, .str [], .int .i64 0] = some w5 := q1
    have q2 : w5.load aw.next 0 3 = some [.int .i64 0, .str [], .int .i64 0] := q2
    refine WS_run 1000 (by simp only [go_sem, eRun_exit, Nat.reduceAdd, Nat.reduceLT, Nat.reduceEqDiff, reduceIte, reduceCtorEq, Nat.reduceLeDiff, f0, f2, evParts, fillV, List.length_cons, List.length_nil, q1]; rfl) ?_
    refine WS_ret ⟨_, by simp only [go_sem, eRun_exit, Nat.reduceAdd, Nat.reduceLT, Nat.reduceEqDiff, reduceIte, reduceCtorEq, Nat.reduceLeDiff, k_syntax_parser_term, f2, q2]; rfl, ?_⟩
    exact h w5 v2 _ _ Tm.zero (sep u1 q4) q3 (hD _)
  cases hx : rNext ws k e with
  | none =>
    have hw : peekW ws k e = ⟨0, [], 0⟩ := by simp only [peekW, hx]; rfl
    have hk0 : (peekW ws k e).kind = 0 := by rw [hw]
    have hD : ∀ k', Dn e (rTerm ws k 0) Tm.zero k' (rBad (nextE ws k e) 4) := by
      intro k'
      have hE : rBad (nextE ws k e) 4 = rBad e 4 := by
        simp only [nextE, hx]
        show rBad (rBad e 4) 4 = rBad e 4
        unfold rBad; split <;> simp_all
      rw [hE]
      refine ⟨fun he => if_neg he, fun he => ?_, fun he h0 => ?_⟩
      · subst he
        simp only [rTerm, hx]
      · subst he; cases h0
    refine WS_runB 1000 (by simp only [go_sem, eRun_exit, Nat.reduceAdd, Nat.reduceLT, Nat.reduceEqDiff, reduceIte, reduceCtorEq, Nat.reduceLeDiff, s3, wdCells_len, a0, hk0, k_syntax_parser_term_p0, k_syntax_parser_term_p1, k_syntax_parser_term_p2, k_syntax_parser_term_p3, k_syntax_parser_term_p4, k_syntax_parser_term_p5, k_syntax_parser_term_p6, k_syntax_parser_term_p7, k_syntax_parser_term_p8, k_syntax_parser_term_p10, k_syntax_parser_term]; rfl) ?_
    exact no hD (by simp only [go_sem, eRun_exit, Nat.reduceAdd, Nat.reduceLT, Nat.reduceEqDiff, reduceIte, reduceCtorEq, Nat.reduceLeDiff] <;> rfl) (by simp only [go_sem, eRun_exit, Nat.reduceAdd, Nat.reduceLT, Nat.reduceEqDiff, reduceIte, reduceCtorEq, Nat.reduceLeDiff] <;> rfl)
  | some x =>
    obtain ⟨hk, rfl, hgx⟩ := rNext_lt hx
    have hw : peekW ws k 0 = x := by simp only [peekW, hx]; rfl
    obtain ⟨x1, x2, x3, x4, x5⟩ := hok.ok x (List.mem_of_getElem? hgx)
    have hE : nextE ws k 0 = 0 := by simp only [nextE, hx]; rfl
    have hK : nextK ws k 0 = k + 1 := by simp only [nextK, hx]; rfl
    rw [hE, hK] at hp3
    rw [hw] at s3 c3 a0 a1
    rw [hw]
    by_cases hk2 : x.kind = 2
    · have hr : rTerm ws k 0 = (⟨1, x.text, 0⟩, k + 1, 0) := by
        simp only [rTerm, hx]
        rw [if_neg (by omega), if_neg (by omega), if_pos hk2]
      obtain ⟨w5, q1, q2, q3, q4⟩ := fin w3 ⟨1, x.text, 0⟩ (Frm.refl _)
      have q1 : w3.store aw.next 0 [.int .i64 1, .str x.text, .int .i64 0] = some w5 := q1
      have q2 : w5.load aw.next 0 3 = some [.int .i64 1, .str x.text, .int .i64 0] := q2
      refine WS_run 1000 (by simp only [go_sem, eRun_exit, Nat.reduceAdd, Nat.reduceLT, Nat.reduceEqDiff, reduceIte, reduceCtorEq, Nat.reduceLeDiff, s3, wdCells_len, a0, a1, hk2, k_syntax_parser_term_p0, k_syntax_parser_term_p1, k_syntax_parser_term_p2, k_syntax_parser_term_p3, k_syntax_parser_term_p4, k_syntax_parser_term_p5, k_syntax_parser_term_p6, k_syntax_parser_term_p7, k_syntax_parser_term_p8, k_syntax_parser_term_p9, k_syntax_parser_term_p10, k_syntax_parser_term, evParts, fillV, over, List.length_cons, List.length_nil, q1]; rfl) ?_
      refine WS_ret ⟨_, by simp only [go_sem, eRun_exit, Nat.reduceAdd, Nat.reduceLT, Nat.reduceEqDiff, reduceIte, reduceCtorEq, Nat.reduceLeDiff, k_syntax_parser_term, q2]; rfl, ?_⟩
      exact h w5 v2 _ _ ⟨1, x.text, 0⟩ (sep hp3 q4) q3 ⟨fun he => absurd rfl he, fun _ => by rw [hr], fun _ _ => by rw [hr]; exact ⟨rfl, rfl⟩⟩
    by_cases hk1 : x.kind = 1
    · have hr : rTerm ws k 0 = (⟨2, x.text, 0⟩, k + 1, 0) := by
        simp only [rTerm, hx]
        rw [if_neg (by omega), if_pos hk1]
      obtain ⟨w5, q1, q2, q3, q4⟩ := fin w3 ⟨2, x.text, 0⟩ (Frm.refl _)
      have q1 : w3.store aw.next 0 [.int .i64 2, .str x.text, .int .i64 0] = some w5 := q1
      have q2 : w5.load aw.next 0 3 = some [.int .i64 2, .str x.text, .int .i64 0] := q2
      refine WS_run 1000 (by simp only [go_sem, eRun_exit, Nat.reduceAdd, Nat.reduceLT, Nat.reduceEqDiff, reduceIte, reduceCtorEq, Nat.reduceLeDiff, s3, wdCells_len, a0, a1, hk1, k_syntax_parser_term_p0, k_syntax_parser_term_p1, k_syntax_parser_term_p2, k_syntax_parser_term_p3, k_syntax_parser_term_p4, k_syntax_parser_term_p5, k_syntax_parser_term_p6, k_syntax_parser_term_p7, k_syntax_parser_term_p8, k_syntax_parser_term_p9, k_syntax_parser_term_p10, k_syntax_parser_term, evParts, fillV, over, List.length_cons, List.length_nil, q1]; rfl) ?_
      refine WS_ret ⟨_, by simp only [go_sem, eRun_exit, Nat.reduceAdd, Nat.reduceLT, Nat.reduceEqDiff, reduceIte, reduceCtorEq, Nat.reduceLeDiff, k_syntax_parser_term, q2]; rfl, ?_⟩
      exact h w5 v2 _ _ ⟨2, x.text, 0⟩ (sep hp3 q4) q3 ⟨fun he => absurd rfl he, fun _ => by rw [hr], fun _ _ => by rw [hr]; exact ⟨rfl, rfl⟩⟩
    by_cases hk4 : x.kind = 4
    · have hr : rTerm ws k 0 = (Tm.zero, k, 4) := by
        simp only [rTerm, hx]
        rw [if_pos hk4]
      refine WS_runB 1000 (by simp only [go_sem, eRun_exit, Nat.reduceAdd, Nat.reduceLT, Nat.reduceEqDiff, reduceIte, reduceCtorEq, Nat.reduceLeDiff, s3, wdCells_len, a0, hk4, k_syntax_parser_term_p0, k_syntax_parser_term_p1, k_syntax_parser_term_p2, k_syntax_parser_term_p3, k_syntax_parser_term_p4, k_syntax_parser_term_p5, k_syntax_parser_term_p6, k_syntax_parser_term_p7, k_syntax_parser_term_p8, k_syntax_parser_term_p10, k_syntax_parser_term]; rfl) ?_
      exact no (fun k' => ⟨fun he => absurd rfl he, fun _ => by rw [hr, hE]; rfl, fun _ h0 => by rw [hE] at h0; cases h0⟩) (by simp only [go_sem, eRun_exit, Nat.reduceAdd, Nat.reduceLT, Nat.reduceEqDiff, reduceIte, reduceCtorEq, Nat.reduceLeDiff] <;> rfl) (by simp only [go_sem, eRun_exit, Nat.reduceAdd, Nat.reduceLT, Nat.reduceEqDiff, reduceIte, reduceCtorEq, Nat.reduceLeDiff] <;> rfl)
    -- a number
    have hk3 : x.kind = 3 := by omega
    have hnT := hok.num x (List.mem_of_getElem? hgx) hk3
    have hl16 := x2 hk4
    have hr : rTerm ws k 0 = if 2147483648 < rNum x.text then (Tm.zero, k + 1, 4) else (⟨3, [], numV x.text⟩, k + 1, 0) := by
      simp only [rTerm, hx]
      rw [if_neg hk4, if_neg hk1, if_neg hk2]
      rfl
    refine WS_run 1000 (by simp only [go_sem, eRun_exit, Nat.reduceAdd, Nat.reduceLT, Nat.reduceEqDiff, reduceIte, reduceCtorEq, Nat.reduceLeDiff, s3, wdCells_len, a0, a1, hk3, k_syntax_parser_term_p0, k_syntax_parser_term_p1, k_syntax_parser_term_p2, k_syntax_parser_term_p3, k_syntax_parser_term_p4, k_syntax_parser_term_p5, k_syntax_parser_term_p6, k_syntax_parser_term_p7, k_syntax_parser_term_p8, k_syntax_parser_term_p9, k_syntax_parser_term_p10, k_syntax_parser_term]; rfl) ?_
    refine WS_call (by simp only [go_sem, eRun_exit, Nat.reduceAdd, Nat.reduceLT, Nat.reduceEqDiff, reduceIte, reduceCtorEq, Nat.reduceLeDiff]) (by simp only [go_sem, eRun_exit, Nat.reduceAdd, Nat.reduceLT, Nat.reduceEqDiff, reduceIte, reduceCtorEq, Nat.reduceLeDiff]; rfl) ?_
    refine ⟨_, _, PI x.text w3 hnT hl16, ?_⟩
    obtain ⟨w6, s6, c6, r6, n6⟩ := boxed w3 (zs := [V.int .i64 0, V.str [], V.int .i64 0]) (vs := [V.int .i64 3, V.str [], V.int .i64 (numV x.text)]) rfl rfl
    have hp6 := hp3.frm0 r6
    have b6 := c6.all (n := 3) rfl
    have hee : eqV .iface .niliface .niliface = some true := rfl
    refine WS_run 1000 (by simp only [go_sem, eRun_exit, Nat.reduceAdd, Nat.reduceLT, Nat.reduceEqDiff, reduceIte, reduceCtorEq, Nat.reduceLeDiff, evParts, fillV, over, List.length_cons, List.length_nil, s6, hee, b6]; rfl) ?_
    refine WS_call (by simp only [go_sem, eRun_exit, Nat.reduceAdd, Nat.reduceLT, Nat.reduceEqDiff, reduceIte, reduceCtorEq, Nat.reduceLeDiff]) (by simp only [go_sem, eRun_exit, Nat.reduceAdd, Nat.reduceLT, Nat.reduceEqDiff, reduceIte, reduceCtorEq, Nat.reduceLeDiff]; rfl) ?_
    refine may_ok C (t := ⟨3, [], numV x.text⟩) ⟨by simp, by simp⟩ fun w7 g7 => ?_
    have hp7 := hp6.frm0 g7
    have f37 : Frm (fun _ => False) w3 w7 := r6.tr g7
    have b7 := (c6.frm g7 fun h => h).all (n := 3) rfl
    have hm : tkMay ⟨3, [], numV x.text⟩ = decide (¬ 2147483648 < rNum x.text) := by
      have e0 : tkMay ⟨3, [], numV x.text⟩ = (decide (([] : List Nat) = []) && (decide (-2147483648 ≤ numV x.text) && decide (numV x.text ≤ 2147483648))) := rfl
      rw [e0]
      simp only [decide_true, Bool.true_and]
      unfold numV
      by_cases hb : 2147483648 < rNum x.text
      · have e9 : decide (¬ 2147483648 < rNum x.text) = false := decide_eq_false fun h => h hb
        rw [e9]
        split
        · have e8 : decide (-2147483648 ≤ -(rNum x.text : Int)) = false := decide_eq_false (by omega)
          rw [e8, Bool.false_and]
        · have e8 : decide ((rNum x.text : Int) ≤ 2147483648) = false := decide_eq_false (by omega)
          rw [e8, Bool.and_false]
      · have e9 : decide (¬ 2147483648 < rNum x.text) = true := decide_eq_true hb
        rw [e9]
        split
        · have e8 : decide (-2147483648 ≤ -(rNum x.text : Int)) = true := decide_eq_true (by omega)
          have e7 : decide (-(rNum x.text : Int) ≤ 2147483648) = true := decide_eq_true (by omega)
          rw [e8, e7]; rfl
        · have e8 : decide (-2147483648 ≤ (rNum x.text : Int)) = true := decide_eq_true (by omega)
          have e7 : decide ((rNum x.text : Int) ≤ 2147483648) = true := decide_eq_true (by omega)
          rw [e8, e7]; rfl
    rw [hm]
    by_cases hb : 2147483648 < rNum x.text
    · rw [if_pos hb] at hr
      rw [show decide (¬ 2147483648 < rNum x.text) = false from decide_eq_false fun h => h hb]
      refine WS_run 1000 (by simp only [go_sem, eRun_exit, Nat.reduceAdd, Nat.reduceLT, Nat.reduceEqDiff, reduceIte, reduceCtorEq, Nat.reduceLeDiff]; rfl) ?_
      refine WS_call (by simp only [go_sem, eRun_exit, Nat.reduceAdd, Nat.reduceLT, Nat.reduceEqDiff, reduceIte, reduceCtorEq, Nat.reduceLeDiff]) (by simp only [go_sem, eRun_exit, Nat.reduceAdd, Nat.reduceLT, Nat.reduceEqDiff, reduceIte, reduceCtorEq, Nat.reduceLeDiff]; rfl) ?_
      refine pfail_ok C (x := 4) hp7 fun w8 u1 u2 => ?_
      have b8 := ((c6.frm g7 fun h => h).frm u2 (by have := r3.next; omega)).all (n := 3) rfl
      obtain ⟨w5, q1, q2, q3, q4⟩ := fin w8 ⟨3, [], numV x.text⟩ (f37.no.tr u2)
      have q1 : w8.store aw.next 0 [.int .i64 3, .str [], .int .i64 (numV x.text)] = some w5 := q1
      have q2 : w5.load aw.next 0 3 = some [.int .i64 3, .str [], .int .i64 (numV x.text)] := q2
      refine WS_run 1000 (by simp only [go_sem, eRun_exit, Nat.reduceAdd, Nat.reduceLT, Nat.reduceEqDiff, reduceIte, reduceCtorEq, Nat.reduceLeDiff, b8, List.length_cons, List.length_nil, q1]; rfl) ?_
      refine WS_ret ⟨_, by simp only [go_sem, eRun_exit, Nat.reduceAdd, Nat.reduceLT, Nat.reduceEqDiff, reduceIte, reduceCtorEq, Nat.reduceLeDiff, k_syntax_parser_term, q2]; rfl, ?_⟩
      exact h w5 v2 _ _ ⟨3, [], numV x.text⟩ (sep u1 q4) q3 ⟨fun he => absurd rfl he, fun _ => by rw [hr]; rfl, fun _ h0 => by cases h0⟩
    · rw [if_neg hb] at hr
      rw [decide_eq_true hb]
      obtain ⟨w5, q1, q2, q3, q4⟩ := fin w7 ⟨3, [], numV x.text⟩ f37.no
      have q1 : w7.store aw.next 0 [.int .i64 3, .str [], .int .i64 (numV x.text)] = some w5 := q1
      have q2 : w5.load aw.next 0 3 = some [.int .i64 3, .str [], .int .i64 (numV x.text)] := q2
      refine WS_run 1000 (by simp only [go_sem, eRun_exit, Nat.reduceAdd, Nat.reduceLT, Nat.reduceEqDiff, reduceIte, reduceCtorEq, Nat.reduceLeDiff, b7, List.length_cons, List.length_nil, q1]; rfl) ?_
      refine WS_ret ⟨_, by simp only [go_sem, eRun_exit, Nat.reduceAdd, Nat.reduceLT, Nat.reduceEqDiff, reduceIte, reduceCtorEq, Nat.reduceLeDiff, k_syntax_parser_term, q2]; rfl, ?_⟩
      exact h w5 v2 _ _ ⟨3, [], numV x.text⟩ (sep hp7 q4) q3 ⟨fun he => absurd rfl he, fun _ => by rw [hr], fun _ _ => by rw [hr]; exact ⟨rfl, rfl⟩⟩
theorem ssign_ok (C : Codes tab) {x : Wd} {aw : AW} {K : V → AW → Prop} (h : ∀ w, Frm (fun _ => False) aw w → K (.int .i64 (Int.ofNat (if x.kind = 4 then rCompare x.text else 0))) w) : WF tab n_syntax_sign [.agg (wdCells x)] aw K := by
  refine WF_of C.c_syntax_sign rfl ?_
  obtain ⟨w1, e1, c1, r1, m1⟩ := box1 aw (wdCells x)
  have a0 := CB.ld c1 0 1 _ rfl
  have a1 := CB.ld c1 1 1 _ rfl
  have h := h w1 r1
  have hcl : V.cells (.agg (wdCells x)) = wdCells x := rfl
  by_cases h4 : x.kind = 4
  case neg =>
    rw [if_neg h4] at h
    refine WS_run 1000 (by simp only [go_sem, eRun_exit, Nat.reduceAdd, Nat.reduceLT, Nat.reduceEqDiff, reduceIte, reduceCtorEq, Nat.reduceLeDiff, k_syntax_sign_p0, k_syntax_sign_p1, k_syntax_sign_p2, k_syntax_sign_p3, k_syntax_sign_p4, k_syntax_sign_p5, k_syntax_sign_p6, k_syntax_sign_p7, k_syntax_sign_p8, k_syntax_sign, hcl, e1, a0, h4]; rfl) ?_
    refine WS_ret ⟨_, by simp only [go_sem, eRun_exit, Nat.reduceAdd, Nat.reduceLT, Nat.reduceEqDiff, reduceIte, reduceCtorEq, Nat.reduceLeDiff, k_syntax_sign]; rfl, ?_⟩
    exact h
  rw [if_pos h4] at h
  unfold rCompare at h
  by_cases h1 : x.text = [61]
  · rw [if_pos h1] at h
    refine WS_run 1000 (by simp only [go_sem, eRun_exit, Nat.reduceAdd, Nat.reduceLT, Nat.reduceEqDiff, reduceIte, reduceCtorEq, Nat.reduceLeDiff, k_syntax_sign_p0, k_syntax_sign_p1, k_syntax_sign_p2, k_syntax_sign_p3, k_syntax_sign_p4, k_syntax_sign_p5, k_syntax_sign_p6, k_syntax_sign_p7, k_syntax_sign_p8, k_syntax_sign, hcl, e1, a0, a1, h4, strS, eqLd, h1]; rfl) ?_
    refine WS_ret ⟨_, by simp only [go_sem, eRun_exit, Nat.reduceAdd, Nat.reduceLT, Nat.reduceEqDiff, reduceIte, reduceCtorEq, Nat.reduceLeDiff, k_syntax_sign]; rfl, ?_⟩
    exact h
  rw [if_neg h1] at h
  by_cases h2 : x.text = [33, 61]
  · rw [if_pos h2] at h
    refine WS_run 1000 (by simp only [go_sem, eRun_exit, Nat.reduceAdd, Nat.reduceLT, Nat.reduceEqDiff, reduceIte, reduceCtorEq, Nat.reduceLeDiff, k_syntax_sign_p0, k_syntax_sign_p1, k_syntax_sign_p2, k_syntax_sign_p3, k_syntax_sign_p4, k_syntax_sign_p5, k_syntax_sign_p6, k_syntax_sign_p7, k_syntax_sign_p8, k_syntax_sign, hcl, e1, a0, a1, h4, strS, eqLd, h1, h2]; rfl) ?_
    refine WS_ret ⟨_, by simp only [go_sem, eRun_exit, Nat.reduceAdd, Nat.reduceLT, Nat.reduceEqDiff, reduceIte, reduceCtorEq, Nat.reduceLeDiff, k_syntax_sign]; rfl, ?_⟩
    exact h
  rw [if_neg h2] at h
  by_cases h3 : x.text = [60]
  · rw [if_pos h3] at h
    refine WS_run 1000 (by simp only [go_sem, eRun_exit, Nat.reduceAdd, Nat.reduceLT, Nat.reduceEqDiff, reduceIte, reduceCtorEq, Nat.reduceLeDiff, k_syntax_sign_p0, k_syntax_sign_p1, k_syntax_sign_p2, k_syntax_sign_p3, k_syntax_sign_p4, k_syntax_sign_p5, k_syntax_sign_p6, k_syntax_sign_p7, k_syntax_sign_p8, k_syntax_sign, hcl, e1, a0, a1, h4, strS, eqLd, h1, h2, h3]; rfl) ?_
    refine WS_ret ⟨_, by simp only [go_sem, eRun_exit, Nat.reduceAdd, Nat.reduceLT, Nat.reduceEqDiff, reduceIte, reduceCtorEq, Nat.reduceLeDiff, k_syntax_sign]; rfl, ?_⟩
    exact h
  rw [if_neg h3] at h
  by_cases h5 : x.text = [60, 61]
  · rw [if_pos h5] at h
    refine WS_run 1000 (by simp only [go_sem, eRun_exit, Nat.reduceAdd, Nat.reduceLT, Nat.reduceEqDiff, reduceIte, reduceCtorEq, Nat.reduceLeDiff, k_syntax_sign_p0, k_syntax_sign_p1, k_syntax_sign_p2, k_syntax_sign_p3, k_syntax_sign_p4, k_syntax_sign_p5, k_syntax_sign_p6, k_syntax_sign_p7, k_syntax_sign_p8, k_syntax_sign, hcl, e1, a0, a1, h4, strS, eqLd, h1, h2, h3, h5]; rfl) ?_
    refine WS_ret ⟨_, by simp only [go_sem, eRun_exit, Nat.reduceAdd, Nat.reduceLT, Nat.reduceEqDiff, reduceIte, reduceCtorEq, Nat.reduceLeDiff, k_syntax_sign]; rfl, ?_⟩
    exact h
  · rw [if_neg h5] at h
    refine WS_run 1000 (by simp only [go_sem, eRun_exit, Nat.reduceAdd, Nat.reduceLT, Nat.reduceEqDiff, reduceIte, reduceCtorEq, Nat.reduceLeDiff, k_syntax_sign_p0, k_syntax_sign_p1, k_syntax_sign_p2, k_syntax_sign_p3, k_syntax_sign_p4, k_syntax_sign_p5, k_syntax_sign_p6, k_syntax_sign_p7, k_syntax_sign_p8, k_syntax_sign, hcl, e1, a0, a1, h4, strS, eqLd, h1, h2, h3, h5]; rfl) ?_
    refine WS_ret ⟨_, by simp only [go_sem, eRun_exit, Nat.reduceAdd, Nat.reduceLT, Nat.reduceEqDiff, reduceIte, reduceCtorEq, Nat.reduceLeDiff, k_syntax_sign]; rfl, ?_⟩
    exact h
end Go.Proofs.YtpbdojjfokelaaaDoor
set_option linter.unusedVariables false
set_option maxRecDepth 10000
set_option linter.unusedSimpArgs false
namespace Go.Proofs.YtpbdojjfokelaaaDoor
open Go.AE Delphi Val
variable {tab : Tab}
structure SA (Tw : Nat → Prop) (aw w : AW) (bp lb : Nat) (ws : List Wd) (wh : Bool) (txt : List Nat) (args : List Tm) (k e : Nat) (v av : V) (S : Nat → Prop) : Prop where
  p : PgS Tw w bp ws v k wh e
  frm : Frm (fun b => b = bp) aw w
  res : CB w aw.next [.int .i64 0, .str [], .nilslice]
  lit : CB w lb [.int .i64 1, .str txt, av]
  buf : Buf S w av 3 args.length (tmsC args)
  sep : ∀ x, S x → aw.next < x ∧ x < w.next ∧ x ≠ lb
  lbn : aw.next < lb
structure SAF (f : Fr) (bp n0 lb : Nat) : Prop where
  f0 : f.get 0 = some (.ptr bp 0)
  f2 : f.get 2 = some (.ptr n0 0)
  f4 : f.get 4 = some (.ptr lb 0)
def SArgI (Tw : Nat → Prop) (aw : AW) (bp lb : Nat) (ws : List Wd) (wh : Bool) (txt : List Nat) (fin : List Tm × Nat × Nat) (q : Nat) (f : Fr) (w : AW) : Prop :=
  ∃ args k v av S, SAF f bp aw.next lb ∧ SA Tw aw w bp lb ws wh txt args k 0 v av S ∧ args.length ≤ 4 ∧ ws.length + 1 ≤ q + k ∧ rArgs ws q args k 0 = fin
def SArgJ (Tw : Nat → Prop) (aw : AW) (bp lb : Nat) (ws : List Wd) (wh : Bool) (txt : List Nat) (fin : List Tm × Nat × Nat) (f : Fr) (w : AW) : Prop :=
  ∃ args k e v av S, SAF f bp aw.next lb ∧ SA Tw aw w bp lb ws wh txt args k e v av S ∧ args.length ≤ 5 ∧ fin.2.2 = e ∧ (e = 0 → k = fin.2.1 ∧ args = fin.1)
theorem sarg_step (C : Codes tab) (PI : Parses tab) {Tw : Nat → Prop} {aw w : AW} {bp lb : Nat} {ws : List Wd} {wh : Bool} {txt : List Nat} {fin : List Tm × Nat × Nat} {q : Nat} {f : Fr} {s : List SI} {Q : Fr → AW → Prop} (hok : WsOk ws) (hT : ∀ x, Tw x → x < aw.next) (hlt : bp < aw.next)
    (hI : SArgI Tw aw bp lb ws wh txt fin q f w) (ih : ∀ n' f' w', n' < q → SArgI Tw aw bp lb ws wh txt fin n' f' w' → WS tab (.code (.loop k_syntax_parser_atom_p5) :: .endB 0 :: s) f' w' Q)
    (out : ∀ s' f' w', SArgJ Tw aw bp lb ws wh txt fin f' w' → popTo 0 s' = some s → WS tab (.code (.exit 0) :: s') f' w' Q) : WS tab (.code k_syntax_parser_atom_p5 :: .code (.loop k_syntax_parser_atom_p5) :: .endB 0 :: s) f w Q := by
  obtain ⟨args, k, v, av, S, ⟨f0, f2, f4⟩, hA, hl4, hq, hfin⟩ := hI
  have hk := hA.p.kle
  obtain ⟨q, rfl⟩ : ∃ q', q = q' + 1 := ⟨q - 1, by omega⟩
  have nx := hA.frm.next
  have hlbn := hA.lbn
  have hlb : lb < w.next := hA.lit.lt
  have hnb : ¬ lb = bp := by omega
  have hn0 : ¬ aw.next = bp := by omega
  have la : w.load lb 2 1 = some [av] := CB.ld hA.lit 2 1 _ rfl
  refine WS_run 1000 (by simp only [go_sem, eRun_exit, Nat.reduceAdd, Nat.reduceLT, Nat.reduceEqDiff, reduceIte, reduceCtorEq, Nat.reduceLeDiff, k_syntax_parser_atom_p5, k_syntax_parser_atom_p4]; rfl) ?_
  refine WS_drawn ?_
  refine WDs_run 100 (by simp only [go_sem, eRun_exit, Nat.reduceAdd, Nat.reduceLT, Nat.reduceEqDiff, reduceIte, reduceCtorEq, Nat.reduceLeDiff, f4, f0, la]; rfl) ?_
  refine WDs_call (by simp only [go_sem, eRun_exit, Nat.reduceAdd, Nat.reduceLT, Nat.reduceEqDiff, reduceIte, reduceCtorEq, Nat.reduceLeDiff]) (by simp only [go_sem, eRun_exit, Nat.reduceAdd, Nat.reduceLT, Nat.reduceEqDiff, reduceIte, reduceCtorEq, Nat.reduceLeDiff]; rfl) ?_
  refine sterm_ok C PI hA.p (fun x hx => Nat.lt_of_lt_of_le (hT x hx) nx) hok fun w1 v1 k1 e1 t p1 g1 hD => ?_
  have hk1 := p1.kle
  have lit1 := hA.lit.frm g1 hnb
  have la1 : w1.load lb 2 1 = some [av] := CB.ld lit1 2 1 _ rfl
  have nS : ∀ x, S x → ¬ x = bp := fun x hx he => by have := (hA.sep x hx).1; omega
  have buf1 := hA.buf.frm g1 nS
  have res1 := hA.res.frm g1 hn0
  have n1 := g1.next
  have hf1 : Frm (fun _ => False) w1 (w1.fresh (tmC t)) := fresh_frm _ _
  have lit1' := lit1.frm hf1 fun h => h
  have la1' : (w1.fresh (tmC t)).load lb 2 1 = some [av] := CB.ld lit1' 2 1 _ rfl
  obtain ⟨av', w5, S5, a1, a2, a3, a4⟩ := buf1.push (news := tmC t) (bytes := 32) (fun b hb => by have := (hA.sep b hb).2.1; omega) (by omega) rfl rfl (by omega) (by omega)
  have hel : (w1.fresh (tmC t)).elems 3 (.slice w1.next 0 1 (.known 1)) = some (1, tmC t) := elems_fresh (by omega) rfl
  have nlit : ¬ S lb := fun h => (hA.sep _ h).2.2 rfl
  have nres : ¬ S aw.next := fun h => by have := (hA.sep _ h).1; omega
  have nbp : ¬ S bp := fun h => by have := (hA.sep _ h).1; omega
  have lit5 := lit1.frm a3 nlit
  have vone : av'.one = true := by rcases a2.inv with ⟨rfl, _⟩ | ⟨_, rfl, _⟩ <;> rfl
  have vc : av'.cells = [av'] := by rcases a2.inv with ⟨rfl, _⟩ | ⟨_, rfl, _⟩ <;> rfl
  have st := lit5.set (i := 2) (v := av') (by simp) vone
  have st : w5.store lb 2 [av'] = some (w5.put lb [.int .i64 1, .str txt, av']) := st
  have pf : Frm (fun b => b = lb) w5 (w5.put lb [.int .i64 1, .str txt, av']) := put_frm
  have hov : over [V.int .i64 0, V.str [], V.int .i64 0] 0 (tmC t) = some (tmC t) := rfl
  have sep5 : ∀ x, S5 x → aw.next < x ∧ x < w5.next ∧ x ≠ lb := by
    intro x hx
    obtain ⟨m1, m2⟩ := a4 x hx
    rcases m2 with m2 | m2
    · have := hA.sep x m2; exact ⟨this.1, m1, this.2.2⟩
    · exact ⟨by omega, m1, by omega⟩
  have n5 := a3.next
  have hA5 : SA Tw aw (w5.put lb [.int .i64 1, .str txt, av']) bp lb ws wh txt (args ++ [t]) k1 e1 v1 av' S5 := by
    refine ⟨(p1.frm a3 nbp fun x hx h => by have := hT x hx; have := (hA.sep x h).1; omega).frm pf (fun h => hnb h.symm) fun x hx he => by have := hT x hx; omega, ?_, (res1.frm a3 nres).frm pf (by omega), put_cb lit5.lt, ?_, sep5, hlbn⟩
    · exact ((hA.frm.tr g1).trans a3 (fun _ _ h => h) fun x hx h => by have := (hA.sep x h).1; omega).trans pf (fun _ _ h => h) fun x hx he => by omega
    · rw [List.length_append, tmsC_snoc]
      exact a2.frm pf fun x hx he => (sep5 x hx).2.2 he
  have hl5 : (args ++ [t]).length = args.length + 1 := by simp
  refine WDs_run 100 (by simp only [go_sem, eRun_exit, Nat.reduceAdd, Nat.reduceLT, Nat.reduceEqDiff, reduceIte, reduceCtorEq, Nat.reduceLeDiff, f4, tmC_len, evParts, fillV, hov, List.length_cons, List.length_nil, hel, a1, st, vc]; rfl) ?_
  refine WDs_nil ⟨(show chkAll _ _ [(1, 3), (1, 4)] from by simp only [go_sem, eRun_exit, Nat.reduceAdd, Nat.reduceLT, Nat.reduceEqDiff, reduceIte, reduceCtorEq, Nat.reduceLeDiff, chkAll, chk, List.reverse_cons, List.reverse_nil, mkStp_fe, mkStp_v, mkStp_0, mkStp_1, List.getElem?_nil, false_or, or_true, or_false, exists_eq', Option.some.injEq, Prod.mk.injEq, Bool.true_eq_false, Bool.false_eq_true, and_true, true_and, implies_true,  f4, la, la1, la1']), ?_⟩
  have hlv := hA5.buf.lenV
  have l2 : (w5.put lb [.int .i64 1, .str txt, av']).load lb 2 1 = some [av'] := CB.ld hA5.lit 2 1 _ rfl
  generalize w5.put lb [.int .i64 1, .str txt, av'] = w6 at *
  rw [hl5] at hlv
  -- what the reference does
  have hE1 : e1 = (rTerm ws k 0).2.2 := hD.same rfl
  obtain ⟨e2, he2⟩ : ∃ e2, e2 = if e1 = 0 ∧ args.length = 4 then 8 else e1 := ⟨_, rfl⟩
  have hfin2 : fin = if rSign ws (rTerm ws k 0).2.1 [44] = true then rArgs ws q (args ++ [(rTerm ws k 0).1]) ((rTerm ws k 0).2.1 + 1) e2 else (args ++ [(rTerm ws k 0).1], (rTerm ws k 0).2.1, e2) := by
    rw [← hfin, he2, hE1]
    simp only [rArgs, if_true]
  have he20 : e2 = 0 → e1 = 0 ∧ args.length ≠ 4 := by
    intro h
    rw [h] at he2
    by_cases hc : e1 = 0 ∧ args.length = 4
    · rw [if_pos hc] at he2; omega
    · rw [if_neg hc] at he2
      exact ⟨he2.symm, fun h => hc ⟨he2.symm, h⟩⟩
  have hbadF : e2 ≠ 0 → fin.2.2 = e2 := by
    intro h
    rw [hfin2]
    split
    · rw [rArgs_stop h]
    · rfl
  have hgk := rTerm_ge ws k 0
  -- what is left: is there a comma?
  have rest : ∀ {w7 : AW} {fr : Fr}, SA Tw aw w7 bp lb ws wh txt (args ++ [t]) k1 e2 v1 av' S5 → SAF fr bp aw.next lb →
      WS tab (.code (.seq (.region [⟨some 32, none, .mov (.tmp 0)⟩, ⟨some 33, none, .call (.const (.func (.func n_syntax_parser_take) [] [])) [(.tmp 32), (.const (.str [44]))]⟩, ⟨some 34, none, .un .not (.tmp 33)⟩]) (.cond (.tmp 34) (.exit 0) .skip)) :: .endB 1 :: .code (.loop k_syntax_parser_atom_p5) :: .endB 0 :: s) fr w7 Q := by
    rintro w7 fr hA7 ⟨f0, f2, f4⟩
    refine WS_run 1000 (by simp only [go_sem, eRun_exit, Nat.reduceAdd, Nat.reduceLT, Nat.reduceEqDiff, reduceIte, reduceCtorEq, Nat.reduceLeDiff, f0]; rfl) ?_
    refine WS_call (by simp only [go_sem, eRun_exit, Nat.reduceAdd, Nat.reduceLT, Nat.reduceEqDiff, reduceIte, reduceCtorEq, Nat.reduceLeDiff]) (by simp only [go_sem, eRun_exit, Nat.reduceAdd, Nat.reduceLT, Nat.reduceEqDiff, reduceIte, reduceCtorEq, Nat.reduceLeDiff]; rfl) ?_
    refine ptake_ok C hA7.p (fun x hx => Nat.lt_of_lt_of_le (hT x hx) hA7.frm.next) fun w8 v8 p8 g8 => ?_
    have nS5 : ∀ x, S5 x → ¬ x = bp := fun x hx he => by have := (sep5 x hx).1; omega
    have n8 := g8.next
    have hA8 : SA Tw aw w8 bp lb ws wh txt (args ++ [t]) (if pSign ws k1 e2 [44] = true then k1 + 1 else k1) e2 v8 av' S5 :=
      ⟨p8, hA7.frm.tr g8, hA7.res.frm g8 hn0, hA7.lit.frm g8 hnb, hA7.buf.frm g8 nS5, fun x hx => ⟨(hA7.sep x hx).1, by have := (hA7.sep x hx).2.1; omega, (hA7.sep x hx).2.2⟩, hlbn⟩
    cases hs : pSign ws k1 e2 [44] with
    | false =>
      rw [hs, if_neg (by simp)] at hA8
      refine WS_runB 1000 (by simp only [go_sem, Nat.reduceAdd, Nat.reduceLT, Nat.reduceEqDiff, reduceIte, reduceCtorEq, Nat.reduceLeDiff]; rfl) ?_
      refine out _ _ _ ⟨args ++ [t], k1, e2, v8, av', S5, ⟨(by simp only [go_sem, eRun_exit, Nat.reduceAdd, Nat.reduceLT, Nat.reduceEqDiff, reduceIte, reduceCtorEq, Nat.reduceLeDiff, f0] <;> rfl), (by simp only [go_sem, eRun_exit, Nat.reduceAdd, Nat.reduceLT, Nat.reduceEqDiff, reduceIte, reduceCtorEq, Nat.reduceLeDiff, f2] <;> rfl), (by simp only [go_sem, eRun_exit, Nat.reduceAdd, Nat.reduceLT, Nat.reduceEqDiff, reduceIte, reduceCtorEq, Nat.reduceLeDiff, f4] <;> rfl)⟩, hA8, by omega, ?_, ?_⟩ rfl
      · by_cases h0 : e2 = 0
        · subst h0
          have h10 : e1 = 0 := (he20 rfl).1
          obtain ⟨d1, d2⟩ := hD.fine rfl h10
          rw [pSign_0, d1] at hs
          rw [hfin2, if_neg (by rw [hs]; simp)]
        · exact hbadF h0
      · intro h0
        subst h0
        have h10 : e1 = 0 := (he20 rfl).1
        obtain ⟨d1, d2⟩ := hD.fine rfl h10
        rw [pSign_0, d1] at hs
        rw [hfin2, if_neg (by rw [hs]; simp), d1, d2]
        exact ⟨rfl, rfl⟩
    | true =>
      rw [hs, if_pos rfl] at hA8
      obtain ⟨hkl, h0, hs'⟩ := pSign_lt hs
      subst h0
      obtain ⟨h10, h4⟩ := he20 rfl
      obtain ⟨d1, d2⟩ := hD.fine rfl h10
      rw [d1] at hs'
      rw [if_pos hs', ← d1, ← d2] at hfin2
      refine WS_run 1000 (by simp only [go_sem, eRun_exit, Nat.reduceAdd, Nat.reduceLT, Nat.reduceEqDiff, reduceIte, reduceCtorEq, Nat.reduceLeDiff]; rfl) ?_
      exact ih q _ _ (by omega) ⟨args ++ [t], k1 + 1, v8, av', S5, ⟨(by simp only [go_sem, eRun_exit, Nat.reduceAdd, Nat.reduceLT, Nat.reduceEqDiff, reduceIte, reduceCtorEq, Nat.reduceLeDiff, f0] <;> rfl), (by simp only [go_sem, eRun_exit, Nat.reduceAdd, Nat.reduceLT, Nat.reduceEqDiff, reduceIte, reduceCtorEq, Nat.reduceLeDiff, f2] <;> rfl), (by simp only [go_sem, eRun_exit, Nat.reduceAdd, Nat.reduceLT, Nat.reduceEqDiff, reduceIte, reduceCtorEq, Nat.reduceLeDiff, f4] <;> rfl)⟩, hA8, by omega, by omega, hfin2.symm⟩
  by_cases h5 : args.length + 1 > 4
  · have h4 : args.length = 4 := by omega
    rw [h4] at hlv
    refine WS_run 1000 (by simp only [go_sem, eRun_exit, Nat.reduceAdd, Nat.reduceLT, Nat.reduceEqDiff, reduceIte, reduceCtorEq, Nat.reduceLeDiff, k_syntax_parser_atom_p3, k_syntax_parser_atom_p2, f0, f4, l2, hlv]; rfl) ?_
    refine WS_call (by simp only [go_sem, eRun_exit, Nat.reduceAdd, Nat.reduceLT, Nat.reduceEqDiff, reduceIte, reduceCtorEq, Nat.reduceLeDiff]) (by simp only [go_sem, eRun_exit, Nat.reduceAdd, Nat.reduceLT, Nat.reduceEqDiff, reduceIte, reduceCtorEq, Nat.reduceLeDiff]; rfl) ?_
    refine pfail_ok C (x := 8) hA5.p fun w7 u1 u2 => ?_
    have h8 : rBad e1 8 = e2 := by
      rw [he2]; unfold rBad
      by_cases h0 : e1 = 0
      · rw [if_pos h0, if_pos ⟨h0, h4⟩]
      · rw [if_neg h0, if_neg (fun h => h0 h.1)]
    rw [h8] at u1
    have n7 := u2.next
    have hA7 : SA Tw aw w7 bp lb ws wh txt (args ++ [t]) k1 e2 v1 av' S5 :=
      ⟨u1, hA5.frm.tr u2, hA5.res.frm u2 hn0, hA5.lit.frm u2 hnb, hA5.buf.frm u2 (fun x hx he => by have := (sep5 x hx).1; omega), fun x hx => ⟨(hA5.sep x hx).1, by have := (hA5.sep x hx).2.1; omega, (hA5.sep x hx).2.2⟩, hlbn⟩
    refine WS_runB 1 (by simp only [go_sem, eRun_exit, Nat.reduceAdd, Nat.reduceLT, Nat.reduceEqDiff, reduceIte, reduceCtorEq, Nat.reduceLeDiff]; rfl) ?_
    exact rest hA7 ⟨(by simp only [go_sem, eRun_exit, Nat.reduceAdd, Nat.reduceLT, Nat.reduceEqDiff, reduceIte, reduceCtorEq, Nat.reduceLeDiff, f0] <;> rfl), (by simp only [go_sem, eRun_exit, Nat.reduceAdd, Nat.reduceLT, Nat.reduceEqDiff, reduceIte, reduceCtorEq, Nat.reduceLeDiff, f2] <;> rfl), (by simp only [go_sem, eRun_exit, Nat.reduceAdd, Nat.reduceLT, Nat.reduceEqDiff, reduceIte, reduceCtorEq, Nat.reduceLeDiff, f4] <;> rfl)⟩
  · have h4 : ¬ args.length = 4 := by omega
    rw [if_neg (fun h => h4 h.2)] at he2
    subst he2
    refine WS_runB 10 (by simp only [go_sem, eRun_exit, Nat.reduceAdd, Nat.reduceLT, Nat.reduceEqDiff, reduceIte, reduceCtorEq, Nat.reduceLeDiff, k_syntax_parser_atom_p3, f4, l2, hlv, h5]; rfl) ?_
    exact rest hA5 ⟨(by simp only [go_sem, eRun_exit, Nat.reduceAdd, Nat.reduceLT, Nat.reduceEqDiff, reduceIte, reduceCtorEq, Nat.reduceLeDiff, f0] <;> rfl), (by simp only [go_sem, eRun_exit, Nat.reduceAdd, Nat.reduceLT, Nat.reduceEqDiff, reduceIte, reduceCtorEq, Nat.reduceLeDiff, f2] <;> rfl), (by simp only [go_sem, eRun_exit, Nat.reduceAdd, Nat.reduceLT, Nat.reduceEqDiff, reduceIte, reduceCtorEq, Nat.reduceLeDiff, f4] <;> rfl)⟩
end Go.Proofs.YtpbdojjfokelaaaDoor
