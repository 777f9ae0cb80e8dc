/- A part of the proof: W5, W6, W7, PSyn1, PSyn2, PSyn3, PSyn4, PSyn5. -/
import Derived.Test.YtegdcbdicpfbpaaGreatDoorSgI
import Derived.Test.YtegdcbdicpfbpaaGreatDoorSgG
set_option linter.unusedVariables false
set_option linter.unusedSectionVars false
set_option linter.unusedSimpArgs false
namespace Go.AE
variable [Globs]
section
variable {tab : Tab}
def mkStp (fr : Fr) (hide : List Nat) (v : V) (a b : AW) : Stp := ⟨hideL fr hide, v, a, b⟩
theorem mkStp_fe {fr : Fr} {hide : List Nat} {v : V} {a b : AW} : (mkStp fr hide v a b).fe = hideL fr hide := rfl
theorem mkStp_v {fr : Fr} {hide : List Nat} {v : V} {a b : AW} : (mkStp fr hide v a b).v = v := rfl
theorem mkStp_0 {fr : Fr} {hide : List Nat} {v : V} {a b : AW} : (mkStp fr hide v a b).aw0 = a := rfl
theorem mkStp_1 {fr : Fr} {hide : List Nat} {v : V} {a b : AW} : (mkStp fr hide v a b).aw1 = b := rfl
theorem pass_at {l : List DOper} {fr : Fr} {aw : AW} {st : List Stp} {fr' : Fr} {aw' : AW} (h : Pass tab l fr aw st fr' aw') : ∀ {i : Nat} {d : DOper} {s : Stp}, l[i]? = some d → st[i]? = some s → OneAt d s := by
  induction l generalizing fr aw st with
  | nil => intro i d s hd; simp at hd
  | cons x l ih =>
    intro i d s hd hs
    cases h
    rename_i h1 h2
    cases i with
    | succ i => exact ih h2 (by simpa using hd) (by simpa using hs)
    | zero =>
      simp at hd hs
      subst hd; subst hs
      cases h1 with
      | pass hw => exact .inl hw
      | val hw ha => exact .inr ⟨hw, fun _ => ⟨_, ha⟩⟩
      | skip hw ha => exact .inr ⟨hw, fun hq => by obtain ⟨_, v, h⟩ := quiet_ok hq ha; cases h⟩
      | call hw ha hc => exact .inr ⟨hw, fun hq => by obtain ⟨_, v, h⟩ := quiet_ok hq ha; cases h⟩
      | ext hw ha hc => exact .inr ⟨hw, fun hq => by obtain ⟨_, v, h⟩ := quiet_ok hq ha; cases h⟩
theorem drawnOK_of {l : List DOper} {fr : Fr} {aw : AW} {st : List Stp} {fr' : Fr} {aw' : AW} (h : Pass tab l fr aw st fr' aw') (hc : chkAll l st (pairs l)) : drawnOK l st = true := drawnOK_at h.len (fun i d s => pass_at h) hc
def WDs (tab : Tab) (l : List DOper) (fr : Fr) (aw : AW) (acc : List Stp) (K : List Stp → Fr → AW → Prop) : Prop := WD tab l fr aw fun st f a => K (acc.reverse ++ st) f a
theorem WDs_nil {fr : Fr} {aw : AW} {acc : List Stp} {K : List Stp → Fr → AW → Prop} (h : K acc.reverse fr aw) : WDs tab [] fr aw acc K := by
  unfold WDs; rw [WD_nil, List.append_nil]; exact h
theorem WDs_acc {l : List DOper} {fr : Fr} {aw : AW} {acc : List Stp} {s : Stp} {K : List Stp → Fr → AW → Prop} (h : WDs tab l fr aw (s :: acc) K) : WD tab l fr aw (fun st f a => K (acc.reverse ++ s :: st) f a) := by
  unfold WDs at h
  simpa using h
theorem WDs_val {d : DOper} {l : List DOper} {fr : Fr} {aw aw1 : AW} {acc : List Stp} {v : V} {K : List Stp → Fr → AW → Prop} (hw : wanted (hideL fr d.hide) d.op.guard = some true) (ha : aop d.op.op (hideL fr d.hide) aw = some (.val v, aw1))
    (h : WDs tab l (putO fr d.op.dst v) aw1 (mkStp fr d.hide v aw aw1 :: acc) K) : WDs tab (d :: l) fr aw acc K := by
  unfold WDs; rw [WD_cons, W1_eq, hw, ha]; exact WDs_acc h
theorem WDs_eff {d : DOper} {l : List DOper} {fr : Fr} {aw aw1 : AW} {acc : List Stp} {K : List Stp → Fr → AW → Prop} (hw : wanted (hideL fr d.hide) d.op.guard = some true) (ha : aop d.op.op (hideL fr d.hide) aw = some (.skip, aw1))
    (h : WDs tab l (putO fr d.op.dst .undef) aw1 (mkStp fr d.hide .undef aw aw1 :: acc) K) : WDs tab (d :: l) fr aw acc K := by
  unfold WDs; rw [WD_cons, W1_eq, hw, ha]; exact WDs_acc h
theorem WDs_pass {d : DOper} {l : List DOper} {fr : Fr} {aw : AW} {acc : List Stp} {K : List Stp → Fr → AW → Prop} (hw : wanted (hideL fr d.hide) d.op.guard = some false)
    (h : WDs tab l (putO fr d.op.dst .undef) aw (mkStp fr d.hide .undef aw aw :: acc) K) : WDs tab (d :: l) fr aw acc K := by
  unfold WDs; rw [WD_cons, W1_eq, hw]; exact WDs_acc h
theorem WDs_call {d : DOper} {l : List DOper} {fr : Fr} {aw aw1 : AW} {acc : List Stp} {f : Nat} {args : List V} {K : List Stp → Fr → AW → Prop} (hw : wanted (hideL fr d.hide) d.op.guard = some true) (ha : aop d.op.op (hideL fr d.hide) aw = some (.call f args, aw1))
    (h : WF tab f args aw1 (fun v a => WDs tab l (putO fr d.op.dst v) a (mkStp fr d.hide v aw a :: acc) K)) : WDs tab (d :: l) fr aw acc K := by
  unfold WDs; rw [WD_cons, W1_eq, hw, ha]
  exact .inl (h.mono fun v a h => WDs_acc h)
theorem WS_drawn {l : List DOper} {s : List SI} {fr : Fr} {aw : AW} {Q : Fr → AW → Prop} (h : WDs tab l fr aw [] (fun st f a => chkAll l st (pairs l) ∧ WS tab s f a Q)) : WS tab (.code (.drawn l) :: s) fr aw Q := by
  show WX tab (.drawn l) fr aw _
  rw [WX_drawn]
  obtain ⟨st, f, a, h1, h2, h3⟩ := h
  exact ⟨st, f, a, h1, drawnOK_of h1 h2, h3⟩
inductive DS where
  | on (l : List DOper) (fr : Fr) (aw : AW) (acc : List Stp)
def dRun0 : Nat → List DOper → Fr → AW → List Stp → DS
  | 0, l, fr, aw, acc => .on l fr aw acc
  | n + 1, [], fr, aw, acc => .on [] fr aw acc
  | n + 1, d :: l, fr, aw, acc => match wanted (hideL fr d.hide) d.op.guard with
    | some true => match aop d.op.op (hideL fr d.hide) aw with
      | some (.val v, aw1) => dRun0 n l (putO fr d.op.dst v) aw1 (mkStp fr d.hide v aw aw1 :: acc)
      | some (.skip, aw1) => dRun0 n l (putO fr d.op.dst .undef) aw1 (mkStp fr d.hide .undef aw aw1 :: acc)
      | _ => .on (d :: l) fr aw acc
    | some false => dRun0 n l (putO fr d.op.dst .undef) aw (mkStp fr d.hide .undef aw aw :: acc)
    | none => .on (d :: l) fr aw acc
theorem dRun0_ok {K : List Stp → Fr → AW → Prop} : ∀ (n : Nat) {l l' : List DOper} {fr fr' : Fr} {aw aw' : AW} {acc acc' : List Stp}, dRun0 n l fr aw acc = .on l' fr' aw' acc' → WDs tab l' fr' aw' acc' K → WDs tab l fr aw acc K
  | 0, l, l', fr, fr', aw, aw', acc, acc', h, hw => by cases h; exact hw
  | n + 1, [], l', fr, fr', aw, aw', acc, acc', h, hw => by cases h; exact hw
  | n + 1, d :: l, l', fr, fr', aw, aw', acc, acc', h, hw => by
    simp only [dRun0] at h
    split at h
    · rename_i h1
      split at h
      · rename_i h2; exact WDs_val h1 h2 (dRun0_ok n h hw)
      · rename_i h2; exact WDs_eff h1 h2 (dRun0_ok n h hw)
      · cases h; exact hw
    · rename_i h1; exact WDs_pass h1 (dRun0_ok n h hw)
    · cases h; exact hw
theorem dRunE_ex : ∃ f : Nat → List DOper → Fr → AW → List Stp → DS, f = dRun0 := ⟨_, rfl⟩
@[irreducible] noncomputable def dRunE : Nat → List DOper → Fr → AW → List Stp → DS := Classical.choose dRunE_ex
theorem dRunE_eq : dRunE = dRun0 := by unfold dRunE; exact Classical.choose_spec dRunE_ex
theorem WDs_run {K : List Stp → Fr → AW → Prop} (n : Nat) {l l' : List DOper} {fr fr' : Fr} {aw aw' : AW} {acc acc' : List Stp} (h : dRunE n l fr aw acc = .on l' fr' aw' acc') (hw : WDs tab l' fr' aw' acc' K) : WDs tab l fr aw acc K := by
  rw [dRunE_eq] at h; exact dRun0_ok n h hw
theorem dRunE_nil {n : Nat} {fr : Fr} {aw : AW} {acc : List Stp} : dRunE (n + 1) [] fr aw acc = .on [] fr aw acc := by rw [dRunE_eq]; rfl
theorem dRunE_cons {n : Nat} {d : DOper} {l : List DOper} {fr : Fr} {aw : AW} {acc : List Stp} : dRunE (n + 1) (d :: l) fr aw acc = match wanted (hideL fr d.hide) d.op.guard with
    | some true => match aop d.op.op (hideL fr d.hide) aw with
      | some (.val v, aw1) => dRunE n l (putO fr d.op.dst v) aw1 (mkStp fr d.hide v aw aw1 :: acc)
      | some (.skip, aw1) => dRunE n l (putO fr d.op.dst .undef) aw1 (mkStp fr d.hide .undef aw aw1 :: acc)
      | _ => .on (d :: l) fr aw acc
    | some false => dRunE n l (putO fr d.op.dst .undef) aw (mkStp fr d.hide .undef aw aw :: acc)
    | none => .on (d :: l) fr aw acc := by rw [dRunE_eq]; rfl
end
theorem over_cell : ∀ (l : List V) (i : Nat) (v : V), i < l.length → over l i [v] = some (l.set i v)
  | [], i, v, h => by simp at h
  | x :: l, 0, v, h => by simp [over]
  | x :: l, i + 1, v, h => by simp only [over, over_cell l i v (by simpa using h), List.set_cons_succ]
theorem store_cell {w : AW} {b i : Nat} {l : List V} {v : V} (hx : w.heap.get b = some (.cells l .own)) (hi : i < l.length) (hv : v.one = true) : w.store b i [v] = some (w.turn b (.cells (l.set i v) .own)) := by
  simp only [AW.store, hx, AW.alive, allOne, hv, over_cell l i v hi]
theorem cells_int {k : IntKind} {n : Int} : (V.int k n).cells = [.int k n] := rfl
theorem cells_bool {b : Bool} : (V.bool b).cells = [.bool b] := rfl
theorem cells_str {l : List Nat} : (V.str l).cells = [.str l] := rfl
theorem cells_agg {l : List V} : (V.agg l).cells = l := rfl
theorem cells_slice {b o n : Nat} {c : Cap} : (V.slice b o n c).cells = [.slice b o n c] := rfl
theorem cells_nilslice : V.nilslice.cells = [.nilslice] := rfl
theorem cells_ptr {b o : Nat} : (V.ptr b o).cells = [.ptr b o] := rfl
theorem cells_nilptr : V.nilptr.cells = [.nilptr] := rfl
theorem ne_ff : (false != false) = false := rfl
theorem ne_ft : (false != true) = true := rfl
theorem ne_tf : (true != false) = true := rfl
theorem ne_tt : (true != true) = false := rfl
attribute [go_sem] dRunE_nil dRunE_cons ne_ff ne_ft ne_tf ne_tt cells_int cells_bool cells_str cells_agg cells_slice cells_nilslice cells_ptr cells_nilptr
end Go.AE
set_option linter.unusedVariables false
set_option linter.unusedSectionVars false
set_option linter.unusedSimpArgs false
namespace Go.AE
variable [Globs]
end Go.AE
set_option linter.unusedVariables false
set_option linter.unusedSectionVars false
set_option linter.unusedSimpArgs false
namespace Go.AE
variable [Globs]
theorem resOne_nil : resOne [] = .tuple [] := rfl
attribute [go_sem] resOne_nil Nat.add_zero
theorem WS_loopJ {tab : Tab} {id : Nat} {b : ACode} {s : List SI} {Q : Fr → AW → Prop} (I : Nat → Fr → AW → Prop) (J : Fr → AW → Prop)
    (step : ∀ n f w, I n f w → (∀ n' f' w', n' < n → I n' f' w' → WS tab (.code (.loop b) :: .endB id :: s) f' w' Q) → (∀ s' f' w', J f' w' → popTo id s' = some s → WS tab (.code (.exit id) :: s') f' w' Q) → WS tab (.code b :: .code (.loop b) :: .endB id :: s) f w Q)
    (after : ∀ f w, J f w → WS tab s f w Q) (n : Nat) {fr : Fr} {aw : AW} (h : I n fr aw) : WS tab (.code (.loop b) :: .endB id :: s) fr aw Q :=
  WS_loop I (fun n f w hI ih => step n f w hI ih fun s' f' w' hJ hp => WS_exit hp (after f' w' hJ)) n h
def Al (T : Nat → Prop) (w : AW) (b : Nat) (sh : Share) : Prop :=
  sh = .own ∨ sh = .lax ∨ sh = .ro ∨ ∃ f F, sh = .fam f ∧ T f ∧ f < w.next ∧ w.fams.get f = some F ∧ w.alive b sh = true
theorem Al.alive {T : Nat → Prop} {w : AW} {b : Nat} {sh : Share} (h : Al T w b sh) : w.alive b sh = true := by
  rcases h with rfl | rfl | rfl | ⟨f, F, rfl, h1, h2, h3, h4⟩
  · rfl
  · rfl
  · rfl
  · exact h4
theorem Al.frm {T S : Nat → Prop} {w w' : AW} {b : Nat} {sh : Share} (h : Al T w b sh) (hf : Frm S w w') (hd : ∀ x, T x → ¬ S x) : Al T w' b sh := by
  rcases h with rfl | rfl | rfl | ⟨f, F, rfl, h1, h2, h3, h4⟩
  · exact .inl rfl
  · exact .inr (.inl rfl)
  · exact .inr (.inr (.inl rfl))
  · have e := hf.fams f h2 (hd f h1)
    refine .inr (.inr (.inr ⟨f, F, rfl, h1, Nat.lt_of_lt_of_le h2 hf.next, e.trans h3, ?_⟩))
    simp only [AW.alive, h3, e.trans h3] at h4 ⊢
    exact h4
theorem Al.mono {T T' : Nat → Prop} {w : AW} {b : Nat} {sh : Share} (h : Al T w b sh) (ht : ∀ x, T x → T' x) : Al T' w b sh := by
  rcases h with rfl | rfl | rfl | ⟨f, F, rfl, h1, h2⟩
  · exact .inl rfl
  · exact .inr (.inl rfl)
  · exact .inr (.inr (.inl rfl))
  · exact .inr (.inr (.inr ⟨f, F, rfl, ht f h1, h2⟩))
def CapFit (esz n : Nat) : Cap → Prop
  | .known k => n ≤ k
  | .upTo z => z = esz ∨ n = 0
inductive Rd (T : Nat → Prop) (w : AW) : V → Nat → Nat → List V → Prop
  | nil {esz : Nat} : Rd T w .nilslice esz 0 []
  | blk {b o n esz : Nat} {c : Cap} {l cs : List V} {sh : Share} (hT : T b) (hb : b < w.next) (hx : w.heap.get b = some (.cells l sh)) (ha : Al T w b sh) (hl : o + n * esz ≤ l.length) (hcs : cs = (l.drop o).take (n * esz)) (hc : CapFit esz n c) : Rd T w (.slice b o n c) esz n cs
theorem Rd.len {T : Nat → Prop} {w : AW} {v : V} {esz n : Nat} {cs : List V} (h : Rd T w v esz n cs) : cs.length = n * esz := by
  cases h with
  | nil => simp
  | blk hT hb hx ha hl hcs hc => rw [hcs, List.length_take, List.length_drop]; omega
theorem Rd.frm {T S : Nat → Prop} {w w' : AW} {v : V} {esz n : Nat} {cs : List V} (h : Rd T w v esz n cs) (hf : Frm S w w') (hd : ∀ x, T x → ¬ S x) : Rd T w' v esz n cs := by
  cases h with
  | nil => exact .nil
  | blk hT hb hx ha hl hcs hc => exact .blk hT (Nat.lt_of_lt_of_le hb hf.next) ((hf.heap _ hb (hd _ hT)).trans hx) (ha.frm hf hd) hl hcs hc
theorem Rd.mono {T T' : Nat → Prop} {w : AW} {v : V} {esz n : Nat} {cs : List V} (h : Rd T w v esz n cs) (ht : ∀ x, T x → T' x) : Rd T' w v esz n cs := by
  cases h with
  | nil => exact .nil
  | blk hT hb hx ha hl hcs hc => exact .blk (ht _ hT) hb hx (ha.mono ht) hl hcs hc
structure RdB (T : Nat → Prop) (w : AW) (b o n esz : Nat) (c : Cap) (cs : List V) : Prop where
  own : T b
  lt : b < w.next
  fit : CapFit esz n c
  load : ∀ i k, i + k ≤ n * esz → w.load b (o + i) k = some ((cs.drop i).take k)
  get : ∃ l sh, w.heap.get b = some (.cells l sh) ∧ w.alive b sh = true
theorem Rd.inv {T : Nat → Prop} {w : AW} {v : V} {esz n : Nat} {cs : List V} (h : Rd T w v esz n cs) : (v = .nilslice ∧ n = 0 ∧ cs = []) ∨ ∃ b o c, v = .slice b o n c ∧ RdB T w b o n esz c cs := by
  cases h with
  | nil => exact .inl ⟨rfl, rfl, rfl⟩
  | @blk b o _ _ c l _ sh hT hb hx ha hl hcs hc =>
    refine .inr ⟨b, o, c, rfl, ⟨hT, hb, hc, fun i k hik => ?_, l, sh, hx, ha.alive⟩⟩
    simp only [AW.load, hx, ha.alive]
    rw [takeN_some _ _ (by simp; omega), hcs]
    congr 1
    rw [List.drop_take, List.take_take, List.drop_drop, Nat.min_eq_left (by omega)]
theorem RdB.cell {T : Nat → Prop} {w : AW} {b o n esz : Nat} {c : Cap} {cs : List V} (h : RdB T w b o n esz c cs) {i : Nat} {x : V} (hi : i < n * esz) (hx : cs[i]? = some x) : w.load b (o + i) 1 = some [x] := by
  rw [h.load i 1 (by omega)]
  have hlt : i < cs.length := (List.getElem?_eq_some_iff.1 hx).1
  rw [List.drop_eq_getElem_cons hlt]
  rw [List.getElem?_eq_getElem hlt] at hx
  rw [Option.some.inj hx]; rfl
theorem flat_at {α : Type} {r : α → List V → Prop} {sz : Nat} (hsz : ∀ a xs, r a xs → xs.length = sz) : ∀ {l : List α} {xss : List (List V)}, All2 r l xss → ∀ {i : Nat} {a : α}, l[i]? = some a → ∃ xs, r a xs ∧ (xss.flatten.drop (i * sz)).take sz = xs
  | [], _, .nil, i, a, h => by simp at h
  | x :: l, y :: m, .cons h1 h2, 0, a, h => by
    simp at h; subst h
    refine ⟨y, h1, ?_⟩
    rw [Nat.zero_mul, List.drop_zero, List.flatten_cons, ← hsz _ _ h1, List.take_left']
    rfl
  | x :: l, y :: m, .cons h1 h2, i + 1, a, h => by
    obtain ⟨xs, q1, q2⟩ := flat_at hsz h2 (i := i) (a := a) (by simpa using h)
    refine ⟨xs, q1, ?_⟩
    have hy := hsz _ _ h1
    rw [List.flatten_cons, Nat.add_mul, Nat.one_mul, Nat.add_comm (i * sz), ← List.drop_drop, ← hy, List.drop_left' rfl, hy]
    exact q2
def RdL {α : Type} (r : AW → α → List V → Prop) (T : Nat → Prop) (w : AW) (v : V) (esz : Nat) (l : List α) : Prop := ∃ xss, Rd T w v esz l.length xss.flatten ∧ All2 (r w) l xss
theorem RdL.inv {α : Type} {r : AW → α → List V → Prop} {T : Nat → Prop} {w : AW} {v : V} {esz : Nat} {l : List α} (h : RdL r T w v esz l) (hsz : ∀ a xs, r w a xs → xs.length = esz) :
    (v = .nilslice ∧ l = []) ∨ ∃ b o c, v = .slice b o l.length c ∧ T b ∧ b < w.next ∧ CapFit esz l.length c ∧ ∀ i a, l[i]? = some a → ∃ xs, r w a xs ∧ ∀ j k, j + k ≤ esz → w.load b (o + i * esz + j) k = some ((xs.drop j).take k) := by
  obtain ⟨xss, h1, h2⟩ := h
  rcases h1.inv with ⟨q1, q2, q3⟩ | ⟨b, o, c, rfl, hB⟩
  · exact .inl ⟨q1, List.length_eq_zero_iff.1 q2⟩
  · refine .inr ⟨b, o, c, rfl, hB.own, hB.lt, hB.fit, fun i a hi => ?_⟩
    obtain ⟨xs, q1, q2⟩ := flat_at hsz h2 hi
    refine ⟨xs, q1, fun j k hjk => ?_⟩
    have hlt : i < l.length := (List.getElem?_eq_some_iff.1 hi).1
    have hle : (i + 1) * esz ≤ l.length * esz := Nat.mul_le_mul_right _ hlt
    rw [Nat.add_mul, Nat.one_mul] at hle
    rw [Nat.add_assoc, hB.load (i * esz + j) k (by omega), ← q2, List.drop_take, List.take_take, Nat.min_eq_left (by omega), List.drop_drop]
theorem RdL.frm {α : Type} {r : AW → α → List V → Prop} {T S : Nat → Prop} {w w' : AW} {v : V} {esz : Nat} {l : List α} (h : RdL r T w v esz l) (hr : ∀ a xs, r w a xs → r w' a xs) (hf : Frm S w w') (hd : ∀ x, T x → ¬ S x) : RdL r T w' v esz l := by
  obtain ⟨xss, h1, h2⟩ := h
  exact ⟨xss, h1.frm hf hd, h2.imp hr⟩
theorem RdL.mono {α : Type} {r r' : AW → α → List V → Prop} {T T' : Nat → Prop} {w : AW} {v : V} {esz : Nat} {l : List α} (h : RdL r T w v esz l) (hr : ∀ a xs, r w a xs → r' w a xs) (ht : ∀ x, T x → T' x) : RdL r' T' w v esz l := by
  obtain ⟨xss, h1, h2⟩ := h
  exact ⟨xss, h1.mono ht, h2.imp hr⟩
theorem Buf.rd {S : Nat → Prop} {w : AW} {v : V} {esz n : Nat} {cs : List V} (h : Buf S w v esz n cs) : Rd S w v esz n cs := by
  cases h with
  | nil => exact .nil
  | @blk b _ _ r _ rest sh hS hb hx hl hr he hn hs =>
    refine .blk hS hb hx ?_ (by rw [List.length_append, hl]; omega) (by rw [List.drop_zero, List.take_append_of_le_length (by omega), List.take_of_length_le (by omega)]) (.inl rfl)
    rcases hs with rfl | rfl | ⟨f, F, rfl, h1, h2, h3, h4, h6, h5⟩
    · exact .inl rfl
    · exact .inr (.inl rfl)
    · exact .inr (.inr (.inr ⟨f, F, rfl, h1, h2, h3, h5⟩))
theorem Own.rd {N : Nat} {w : AW} {v : V} {esz n : Nat} {cs : List V} (h : Own N w v esz n cs) : Rd (fun b => N ≤ b ∧ b < w.next) w v esz n cs := by
  cases h with
  | nil => exact .nil
  | @blk b _ _ _ sh hN hb hx hl he hn hs =>
    refine .blk ⟨hN, hb⟩ hb hx ?_ (by omega) (by rw [List.drop_zero, List.take_of_length_le (by omega)]) (.inl rfl)
    rcases hs with rfl | rfl | ⟨f, F, rfl, h1, h2, h3, h4, h6, h5⟩
    · exact .inl rfl
    · exact .inr (.inl rfl)
    · exact .inr (.inr (.inr ⟨f, F, rfl, ⟨h1, h2⟩, h2, h3, h5⟩))
theorem Rd.elems {T : Nat → Prop} {w : AW} {v : V} {esz n : Nat} {cs : List V} (h : Rd T w v esz n cs) : w.elems esz v = some (n, cs) := by
  have hlen := h.len
  rcases h.inv with ⟨rfl, rfl, rfl⟩ | ⟨b, o, c, rfl, hB⟩
  · rfl
  · cases n with
    | zero =>
      have : cs = [] := List.length_eq_zero_iff.1 (by omega)
      subst this; rfl
    | succ n =>
      have := hB.load 0 ((n + 1) * esz) (by omega)
      rw [Nat.add_zero, List.drop_zero, List.take_of_length_le (by omega)] at this
      simp only [AW.elems, this]
theorem Rd.lenV {T : Nat → Prop} {w : AW} {v : V} {esz n : Nat} {cs : List V} (h : Rd T w v esz n cs) : lenV v = some n := by cases h <;> rfl
theorem Buf.lenV {S : Nat → Prop} {w : AW} {v : V} {esz n : Nat} {cs : List V} (h : Buf S w v esz n cs) : lenV v = some n := by cases h <;> rfl
structure CB (w : AW) (b : Nat) (l : List V) : Prop where
  lt : b < w.next
  get : w.heap.get b = some (.cells l .own)
theorem CB.frm {S : Nat → Prop} {w w' : AW} {b : Nat} {l : List V} (h : CB w b l) (hf : Frm S w w') (hn : ¬ S b) : CB w' b l := ⟨Nat.lt_of_lt_of_le h.lt hf.next, (hf.heap b h.lt hn).trans h.get⟩
theorem CB.load {w : AW} {b : Nat} {l : List V} (h : CB w b l) (o n : Nat) : w.load b o n = takeN n (l.drop o) := by simp only [AW.load, h.get]; rfl
theorem CB.all {w : AW} {b n : Nat} {l : List V} (h : CB w b l) (hn : l.length = n) : w.load b 0 n = some l := by rw [h.load, List.drop_zero]; exact takeN_all _ _ hn
def AW.put (w : AW) (b : Nat) (l : List V) : AW := w.turn b (.cells l .own)
theorem CB.set {w : AW} {b i : Nat} {l : List V} {v : V} (h : CB w b l) (hi : i < l.length) (hv : v.one = true) : w.store b i [v] = some (w.put b (l.set i v)) := store_cell h.get hi hv
theorem CB.setAll {w : AW} {b : Nat} {l vs : List V} (h : CB w b l) (hl : l.length = vs.length) (h1 : allOne vs = true) : w.store b 0 vs = some (w.put b vs) := by
  have : over l 0 vs = some vs := by
    have := over_mid [] l [] vs hl.symm
    simpa using this
  exact store_shr h.get (.inl rfl : Shr (fun _ => True) w b .own) h1 this
theorem put_cb {w : AW} {b : Nat} {l : List V} (h : b < w.next) : CB (w.put b l) b l := ⟨h, T.get_put_same⟩
theorem put_frm {w : AW} {b : Nat} {l : List V} : Frm (fun x => x = b) w (w.put b l) := turn_frm (sh := .own) rfl (.inl rfl)
theorem fresh_cb (w : AW) (l : List V) : CB (w.fresh l) w.next l := ⟨Nat.lt_succ_self _, T.get_put_same⟩
theorem fresh_frm {S : Nat → Prop} (w : AW) (l : List V) : Frm S w (w.fresh l) := Frm.new w _
theorem boxed (w : AW) {zs vs : List V} (hl : zs.length = vs.length) (h1 : allOne vs = true) : ∃ w2, (w.fresh zs).store w.next 0 vs = some w2 ∧ CB w2 w.next vs ∧ Frm (fun _ => False) w w2 ∧ w2.next = w.next + 1 := by
  refine ⟨_, (fresh_cb w zs).setAll hl h1, put_cb (Nat.lt_succ_self _), ?_, rfl⟩
  refine (fresh_frm (S := fun _ => False) w zs).trans (T := fun b => b = w.next) put_frm (fun _ _ h => h) ?_
  rintro y hy rfl; omega
theorem Frm.out {S : Nat → Prop} {w w1 w2 : AW} {b : Nat} {l : List V} (h : Frm S w w1) (hb : w.next ≤ b) (h2 : w2 = w1.put b l) : Frm S w w2 := by
  subst h2
  refine h.trans (T := fun x => x = b) put_frm (fun _ _ h => h) ?_
  rintro x hx rfl; omega
theorem Frm.tr {S : Nat → Prop} {a b c : AW} (h : Frm S a b) (h' : Frm S b c) : Frm S a c := h.trans h' (fun _ _ h => h) fun _ _ h => h
theorem Frm.no {S : Nat → Prop} {a b : AW} (h : Frm (fun _ => False) a b) : Frm S a b := h.mono fun _ _ h => h.elim
theorem All2.cells {α : Type} {r : α → List V → Prop} {l : List α} {xss : List (List V)} {a : α} {xs : List V} (h : All2 r l xss) (hx : r a xs) : All2 r (l ++ [a]) (xss ++ [xs]) ∧ (xss ++ [xs]).flatten = xss.flatten ++ xs := ⟨h.snoc hx, by simp⟩
end Go.AE
set_option linter.unusedVariables false
set_option maxRecDepth 10000
set_option linter.unusedSimpArgs false
namespace Go.Proofs.YtegdcbdicpfbpaaGreatDoor
open Go.AE Delphi
variable {tab : Tab}
structure PSt (w : AW) (bp : Nat) (wv : V) (k e : Nat) : Prop where
  lt : bp < w.next
  get : w.heap.get bp = some (.cells [wv, .int .i64 (Int.ofNat k), .int .i64 (Int.ofNat e)] .own)
theorem PSt.frm {S : Nat → Prop} {w w' : AW} {bp : Nat} {wv : V} {k e : Nat} (h : PSt w bp wv k e) (hf : Frm S w w') (hn : ¬ S bp) : PSt w' bp wv k e := ⟨Nat.lt_of_lt_of_le h.lt hf.next, (hf.heap bp h.lt hn).trans h.get⟩
theorem PSt.l0 {w : AW} {bp k e : Nat} {wv : V} (h : PSt w bp wv k e) : w.load bp 0 1 = some [wv] := by simp only [AW.load, h.get]; rfl
theorem PSt.l1 {w : AW} {bp k e : Nat} {wv : V} (h : PSt w bp wv k e) : w.load bp 1 1 = some [.int .i64 (Int.ofNat k)] := by simp only [AW.load, h.get]; rfl
theorem PSt.l2 {w : AW} {bp k e : Nat} {wv : V} (h : PSt w bp wv k e) : w.load bp 2 1 = some [.int .i64 (Int.ofNat e)] := by simp only [AW.load, h.get]; rfl
def PSt.mk' (w : AW) (bp : Nat) (wv : V) (k e : Nat) : AW := w.turn bp (.cells [wv, .int .i64 (Int.ofNat k), .int .i64 (Int.ofNat e)] .own)
theorem PSt.s1 {w : AW} {bp k e : Nat} {wv : V} (h : PSt w bp wv k e) (k' : Nat) : w.store bp 1 [.int .i64 (Int.ofNat k')] = some (PSt.mk' w bp wv k' e) := by
  have := store_cell (i := 1) (v := .int .i64 (Int.ofNat k')) h.get (by simp) rfl
  exact this
theorem PSt.made {w : AW} {bp k e : Nat} {wv : V} (h : bp < w.next) : PSt (PSt.mk' w bp wv k e) bp wv k e := ⟨h, AE.T.get_put_same⟩
theorem PSt.made_frm {w : AW} {bp k e : Nat} {wv : V} : Frm (fun b => b = bp) w (PSt.mk' w bp wv k e) := turn_frm (sh := .own) rfl (.inl rfl)
structure Wds (Tw : Nat → Prop) (w : AW) (bp : Nat) (wv : V) (ws : List Wd) : Prop where
  rd : Rd Tw w wv 3 ws.length (wdsCells ws)
  no : ¬ Tw bp
  len : ws.length ≤ 4000
theorem Wds.frm {Tw S : Nat → Prop} {w w' : AW} {bp : Nat} {wv : V} {ws : List Wd} (h : Wds Tw w bp wv ws) (hf : Frm S w w') (hd : ∀ x, Tw x → ¬ S x) : Wds Tw w' bp wv ws := ⟨h.rd.frm hf hd, h.no, h.len⟩
theorem wdCells_len (w : Wd) : (wdCells w).length = 3 := rfl
theorem Wds.at {Tw : Nat → Prop} {w : AW} {bp : Nat} {wv : V} {ws : List Wd} (h : Wds Tw w bp wv ws) : (wv = .nilslice ∧ ws = []) ∨ ∃ b o c, wv = .slice b o ws.length c ∧ b ≠ bp ∧ b < w.next ∧
    ∀ i x, ws[i]? = some x → w.load b (o + i * 3) 1 = some [.int .i64 (Int.ofNat x.kind)] ∧ w.load b (o + i * 3 + 1) 1 = some [.str x.text] ∧ w.load b (o + i * 3) 3 = some (wdCells x) := by
  rcases h.rd.inv with ⟨q1, q2, _⟩ | ⟨b, o, c, rfl, hB⟩
  · exact .inl ⟨q1, List.length_eq_zero_iff.1 q2⟩
  · refine .inr ⟨b, o, c, rfl, fun he => h.no (he ▸ hB.own), hB.lt, fun i x hx => ?_⟩
    have hlt : i < ws.length := (List.getElem?_eq_some_iff.1 hx).1
    have part : ∀ j k, j + k ≤ 3 → w.load b (o + i * 3 + j) k = some (((wdCells x).drop j).take k) := by
      intro j k hjk
      have := hB.load (i * 3 + j) k (by omega)
      rw [Nat.add_assoc, this]
      have h2 := flat_part wdCells_len (i := i) (j := j) (k := k) hx hjk
      rw [Nat.zero_add] at h2
      exact congrArg some h2
    exact ⟨part 0 1 (by omega), part 1 1 (by omega), part 0 3 (by omega)⟩
theorem bad_ok (C : Codes tab) {bp k e x : Nat} {wv : V} {aw : AW} {K : V → AW → Prop} (hp : PSt aw bp wv k e) (h : ∀ w, PSt w bp wv k (rBad e x) → Frm (fun b => b = bp) aw w → w.next = aw.next → K (.tuple []) w) : WF tab n_ref8_P_bad [.ptr bp 0, .int .i64 (Int.ofNat x)] aw K := by
  refine WF_of C.c_ref8_P_bad rfl ?_
  have hg := hp.get
  by_cases he : e = 0
  · subst he
    refine WS_run 1000 (by simp only [go_sem, eRun_exit, simprocAttr, AW.load, AW.store, AW.alive, AW.fresh, AW.new, AW.turn, AW.kill, takeN, over, allOne, V.one, V.cells, partV, fillV, evParts, List.drop_zero, List.drop_succ_cons, List.length_cons, List.length_nil, Nat.add_eq_left, Nat.left_eq_add, Nat.zero_add, Nat.one_ne_zero, Nat.add_right_cancel_iff, Nat.add_left_cancel_iff, Nat.succ_ne_self, List.head?_cons, if_true, if_false, k_ref8_P_bad, hg]; rfl) ?_
    refine WS_nil ⟨_, by simp only [go_sem, eRun_exit, simprocAttr, k_ref8_P_bad]; rfl, ?_⟩
    exact h _ ⟨hp.lt, AE.T.get_put_same⟩ (turn_frm (sh := .own) rfl (.inl rfl)) rfl
  · have : rBad e x = e := if_neg he
    rw [this] at h
    refine WS_run 1000 (by simp only [go_sem, eRun_exit, simprocAttr, AW.load, AW.store, AW.alive, AW.fresh, AW.new, AW.turn, AW.kill, takeN, over, allOne, V.one, V.cells, partV, fillV, evParts, List.drop_zero, List.drop_succ_cons, List.length_cons, List.length_nil, Nat.add_eq_left, Nat.left_eq_add, Nat.zero_add, Nat.one_ne_zero, Nat.add_right_cancel_iff, Nat.add_left_cancel_iff, Nat.succ_ne_self, List.head?_cons, if_true, if_false, k_ref8_P_bad, hg, he]; rfl) ?_
    refine WS_nil ⟨_, by simp only [go_sem, eRun_exit, simprocAttr, k_ref8_P_bad]; rfl, ?_⟩
    exact h _ hp (Frm.refl _) rfl
theorem psign_ok (C : Codes tab) {Tw : Nat → Prop} {bp k e : Nat} {wv : V} {ws : List Wd} {s : List Nat} {aw : AW} {K : V → AW → Prop} (hp : PSt aw bp wv k e) (hw : Wds Tw aw bp wv ws) (h : K (.bool (rSign ws k s)) aw) : WF tab n_ref8_P_sign [.ptr bp 0, .str s] aw K := by
  refine WF_of C.c_ref8_P_sign rfl ?_
  have hg := hp.get
  have l0 : aw.load bp 0 1 = some [wv] := by simp only [AW.load, hg]; rfl
  have l1 : aw.load bp 1 1 = some [.int .i64 (Int.ofNat k)] := by simp only [AW.load, hg]; rfl
  rcases hw.at with ⟨rfl, rfl⟩ | ⟨b, o, c, rfl, hne, hlt, hat⟩
  · have e1 : ¬ k < 0 := by omega
    refine WS_run 1000 (by simp only [go_sem, eRun_exit, simprocAttr, k_ref8_P_sign, l0, l1, e1]; rfl) ?_
    refine WS_ret ⟨_, by simp only [go_sem, eRun_exit, simprocAttr, k_ref8_P_sign]; rfl, ?_⟩
    exact h
  · by_cases hk : k < ws.length
    · have hx : ws[k]? = some ws[k] := List.getElem?_eq_getElem hk
      obtain ⟨a1, a2, _⟩ := hat k _ hx
      unfold rSign at h
      rw [hx] at h
      simp only at h
      by_cases h4 : ws[k].kind = 4
      · have hb : decide (ws[k].text = s) = eqL ws[k].text s := by
          by_cases hh : ws[k].text = s
          · rw [decide_eq_true hh]; exact (eqL_iff.2 hh).symm
          · rw [decide_eq_false hh]
            cases hc : eqL ws[k].text s with
            | false => rfl
            | true => exact absurd (eqL_iff.1 hc) hh
        rw [decide_eq_true h4, Bool.true_and, hb] at h
        refine WS_run 1000 (by simp only [go_sem, eRun_exit, simprocAttr, k_ref8_P_sign, l0, l1, hk, a1, a2, h4, strS]; rfl) ?_
        refine WS_ret ⟨_, by simp only [go_sem, eRun_exit, simprocAttr, k_ref8_P_sign]; rfl, ?_⟩
        exact h
      · rw [decide_eq_false h4, Bool.false_and] at h
        refine WS_run 1000 (by simp only [go_sem, eRun_exit, simprocAttr, k_ref8_P_sign, l0, l1, hk, a1, h4]; rfl) ?_
        refine WS_ret ⟨_, by simp only [go_sem, eRun_exit, simprocAttr, k_ref8_P_sign]; rfl, ?_⟩
        exact h
    · have : rSign ws k s = false := by unfold rSign; rw [List.getElem?_eq_none (by omega)]
      rw [this] at h
      refine WS_run 1000 (by simp only [go_sem, eRun_exit, simprocAttr, k_ref8_P_sign, l0, l1, hk]; rfl) ?_
      refine WS_ret ⟨_, by simp only [go_sem, eRun_exit, simprocAttr, k_ref8_P_sign]; rfl, ?_⟩
      exact h
theorem peat_ok (C : Codes tab) {Tw : Nat → Prop} {bp k e : Nat} {wv : V} {ws : List Wd} {s : List Nat} {aw : AW} {K : V → AW → Prop} (hp : PSt aw bp wv k e) (hw : Wds Tw aw bp wv ws) (hk : k ≤ 4000)
    (h : ∀ w, PSt w bp wv (rEat ws s k e).1 (rEat ws s k e).2 → Frm (fun b => b = bp) aw w → w.next = aw.next → K (.tuple []) w) : WF tab n_ref8_P_eat [.ptr bp 0, .str s] aw K := by
  refine WF_of C.c_ref8_P_eat rfl ?_
  have hg := hp.get
  have l2 : aw.load bp 2 1 = some [.int .i64 (Int.ofNat e)] := by simp only [AW.load, hg]; rfl
  have l1 : aw.load bp 1 1 = some [.int .i64 (Int.ofNat k)] := by simp only [AW.load, hg]; rfl
  unfold rEat at h
  by_cases he : e = 0
  · subst he
    rw [if_pos rfl] at h
    refine WS_run 1000 (by simp only [go_sem, eRun_exit, simprocAttr, k_ref8_P_eat, l2]; rfl) ?_
    refine WS_call (by simp only [go_sem, eRun_exit, simprocAttr]) (by simp only [go_sem, eRun_exit, simprocAttr]; rfl) ?_
    refine psign_ok C hp hw ?_
    cases hs : rSign ws k s with
    | true =>
      rw [hs, if_pos rfl] at h
      have hwr : IntKind.wrap .i64 (Int.ofNat k + 1) = Int.ofNat (k + 1) := wrap_succ (by omega)
      refine WS_run 1000 (by simp only [go_sem, eRun_exit, simprocAttr, AW.load, AW.store, AW.alive, AW.fresh, AW.new, AW.turn, AW.kill, takeN, over, allOne, V.one, V.cells, partV, fillV, evParts, List.drop_zero, List.drop_succ_cons, List.length_cons, List.length_nil, Nat.add_eq_left, Nat.left_eq_add, Nat.zero_add, Nat.one_ne_zero, Nat.add_right_cancel_iff, Nat.add_left_cancel_iff, Nat.succ_ne_self, List.head?_cons, if_true, if_false, hg, hwr]; rfl) ?_
      refine WS_nil ⟨_, by simp only [go_sem, eRun_exit, simprocAttr, k_ref8_P_eat]; rfl, ?_⟩
      exact h _ ⟨hp.lt, AE.T.get_put_same⟩ (turn_frm (sh := .own) rfl (.inl rfl)) rfl
    | false =>
      rw [hs, if_neg (by simp)] at h
      refine WS_run 1000 (by simp only [go_sem, eRun_exit, simprocAttr]; rfl) ?_
      refine WS_call (by simp only [go_sem, eRun_exit, simprocAttr]) (by simp only [go_sem, eRun_exit, simprocAttr]; rfl) ?_
      refine bad_ok C (x := 4) hp fun w q1 q2 q3 => ?_
      refine WS_run 1000 (by simp only [go_sem, eRun_exit, simprocAttr]; rfl) ?_
      refine WS_ret ⟨_, by simp only [go_sem, eRun_exit, simprocAttr, k_ref8_P_eat]; rfl, ?_⟩
      exact h w q1 q2 q3
  · rw [if_neg he] at h
    refine WS_run 1000 (by simp only [go_sem, eRun_exit, simprocAttr, k_ref8_P_eat, l2, he]; rfl) ?_
    refine WS_ret ⟨_, by simp only [go_sem, eRun_exit, simprocAttr, k_ref8_P_eat]; rfl, ?_⟩
    exact h _ hp (Frm.refl _) rfl
theorem pcompare_ok (C : Codes tab) {s : List Nat} {aw : AW} {K : V → AW → Prop} (h : K (.int .i64 (Int.ofNat (rCompare s))) aw) : WF tab n_ref8_compare [.str s] aw K := by
  refine WF_of C.c_ref8_compare rfl ?_
  have eqd : ∀ g : List Nat, eqL s g = decide (s = g) := fun g => by
    by_cases hh : s = g
    · rw [decide_eq_true hh]; exact eqL_iff.2 hh
    · rw [decide_eq_false hh]
      cases hc : eqL s g with
      | false => rfl
      | true => exact absurd (eqL_iff.1 hc) hh
  unfold rCompare at h
  by_cases h1 : s = [61]
  · rw [if_pos h1] at h
    refine WS_run 1000 (by simp only [go_sem, eRun_exit, simprocAttr, k_ref8_compare, k_ref8_compare_p1, strS, eqd, h1]; rfl) ?_
    refine WS_ret ⟨_, by simp only [go_sem, eRun_exit, simprocAttr, k_ref8_compare]; rfl, ?_⟩
    exact h
  rw [if_neg h1] at h
  by_cases h2 : s = [33, 61]
  · rw [if_pos h2] at h
    refine WS_run 1000 (by simp only [go_sem, eRun_exit, simprocAttr, k_ref8_compare, k_ref8_compare_p1, strS, eqd, h1, h2]; rfl) ?_
    refine WS_ret ⟨_, by simp only [go_sem, eRun_exit, simprocAttr, k_ref8_compare]; rfl, ?_⟩
    exact h
  rw [if_neg h2] at h
  by_cases h3 : s = [60]
  · rw [if_pos h3] at h
    refine WS_run 1000 (by simp only [go_sem, eRun_exit, simprocAttr, k_ref8_compare, k_ref8_compare_p1, k_ref8_compare_p0, strS, eqd, h1, h2, h3]; rfl) ?_
    refine WS_ret ⟨_, by simp only [go_sem, eRun_exit, simprocAttr, k_ref8_compare]; rfl, ?_⟩
    exact h
  rw [if_neg h3] at h
  by_cases h4 : s = [60, 61]
  · rw [if_pos h4] at h
    refine WS_run 1000 (by simp only [go_sem, eRun_exit, simprocAttr, k_ref8_compare, k_ref8_compare_p1, k_ref8_compare_p0, strS, eqd, h1, h2, h3, h4]; rfl) ?_
    refine WS_ret ⟨_, by simp only [go_sem, eRun_exit, simprocAttr, k_ref8_compare]; rfl, ?_⟩
    exact h
  · rw [if_neg h4] at h
    refine WS_run 1000 (by simp only [go_sem, eRun_exit, simprocAttr, k_ref8_compare, k_ref8_compare_p1, k_ref8_compare_p0, strS, eqd, h1, h2, h3, h4]; rfl) ?_
    refine WS_ret ⟨_, by simp only [go_sem, eRun_exit, simprocAttr, k_ref8_compare]; rfl, ?_⟩
    exact h
end Go.Proofs.YtegdcbdicpfbpaaGreatDoor
set_option linter.unusedVariables false
set_option maxRecDepth 10000
set_option linter.unusedSimpArgs false
namespace Go.Proofs.YtegdcbdicpfbpaaGreatDoor
open Go.AE Delphi
variable {tab : Tab}
def tmC (t : Tm) : List V := [.int .i64 (Int.ofNat t.kind), .str t.name, .int .i64 t.num]
def WOk (w : Wd) : Prop := w.text ≠ [] ∧ (w.kind ≠ 4 → w.text.length ≤ 16) ∧ 1 ≤ w.kind ∧ w.kind ≤ 4 ∧ ∀ c ∈ w.text, c < 256
theorem res_store {w : AW} {b : Nat} {l vs : List V} (hx : w.heap.get b = some (.cells l .own)) (hl : l.length = vs.length) (h1 : allOne vs = true) : w.store b 0 vs = some (w.turn b (.cells vs .own)) := by
  have : over l 0 vs = some vs := by
    have := over_mid [] l [] vs hl.symm
    simpa using this
  exact store_shr hx (.inl rfl : Shr (fun _ => True) w b .own) h1 this
theorem res_load {w : AW} {b : Nat} {vs : List V} {n : Nat} (h : vs.length = n) : (w.turn b (.cells vs .own)).load b 0 n = some vs := by
  have : (w.turn b (.cells vs .own)).heap.get b = some (.cells vs .own) := AE.T.get_put_same
  simp only [AW.load, this, AW.alive, List.drop_zero]
  exact takeN_all _ _ h
theorem out_frm {aw w : AW} {bp : Nat} {zs vs : List V} (h : Frm (fun b => b = bp) (aw.fresh zs) w) : Frm (fun b => b = bp) aw (w.turn aw.next (.cells vs .own)) := by
  refine ((Frm.new (S := fun _ => False) aw (.cells zs .own)).trans h (fun _ _ h => h.elim) (fun _ _ h => h)).trans (T := fun b => b = aw.next) (turn_frm rfl (.inl rfl)) (fun _ _ h => h) ?_
  rintro x hx rfl; omega
theorem fresh_get {aw : AW} {l : List V} : (aw.fresh l).heap.get aw.next = some (.cells l .own) := AE.T.get_put_same
theorem u8sub {c : Nat} (h : c < 256) : IntKind.wrap .u8 (Int.ofNat c - 48) = Int.ofNat ((c + 208) % 256) := by
  have e : Int.ofNat ((c + 208) % 256) = (((c : Int) + 208) % 256) := by simp
  rw [e]
  show IntKind.wrap .u8 ((c : Int) - 48) = _
  unfold IntKind.wrap
  simp only [IntKind.signed, IntKind.bits, Bool.false_and, Bool.false_eq_true, if_false]
  omega
theorem i64_small {n : Nat} (h : n ≤ 9223372036854775807) : IntKind.wrap .i64 (Int.ofNat n) = Int.ofNat n := wrap_id (by show (-9223372036854775808 : Int) ≤ (n : Int); omega) (by show (n : Int) ≤ 9223372036854775807; omega)
def NumI (n0 n1 bp : Nat) (s : List Nat) (aw : AW) (q : Nat) (f : Fr) (w : AW) : Prop :=
  ∃ i m, f.get 0 = some (.ptr bp 0) ∧ f.get 2 = some (.ptr n0 0) ∧ f.get 3 = some (.ptr n1 0) ∧ f.get 4 = some (.int .i64 (Int.ofNat m)) ∧ f.get 5 = some (.int .i64 (Int.ofNat i)) ∧ w = aw ∧ i ≤ s.length ∧ rNum s = (s.drop i).foldl rDig m ∧ m + 29 ≤ 29 * 10 ^ i ∧ q = s.length - i
theorem pterm_ok (C : Codes tab) {Tw : Nat → Prop} {bp k e : Nat} {wv : V} {ws : List Wd} {aw : AW} {K : V → AW → Prop} (hp : PSt aw bp wv k e) (hw : Wds Tw aw bp wv ws) (hok : ∀ x ∈ ws, WOk x) (hT : ∀ x, Tw x → x < aw.next)
    (h : ∀ w, PSt w bp wv (rTerm ws k e).2.1 (rTerm ws k e).2.2 → Frm (fun b => b = bp) aw w → K (.agg (tmC (rTerm ws k e).1)) w) : WF tab n_ref8_P_term [.ptr bp 0] aw K := by
  refine WF_of C.c_ref8_P_term rfl ?_
  have hlt := hp.lt
  have hne : ¬ bp = aw.next := by omega
  obtain ⟨zs, hzs⟩ : ∃ zs, zs = [V.int .i64 0, V.str [], V.int .i64 0] := ⟨_, rfl⟩
  have hp1 := hp.frm (fresh_frm (S := fun _ => False) aw zs) fun h => h
  have hw1 := hw.frm (fresh_frm (S := fun _ => False) aw zs) fun _ _ h => h
  have hg := hp1.get
  have l0 : (aw.fresh zs).load bp 0 1 = some [wv] := by simp only [AW.load, hg]; rfl
  have l1 : (aw.fresh zs).load bp 1 1 = some [.int .i64 (Int.ofNat k)] := by simp only [AW.load, hg]; rfl
  have l2 : (aw.fresh zs).load bp 2 1 = some [.int .i64 (Int.ofNat e)] := by simp only [AW.load, hg]; rfl
  have hzl : zs.length = 3 := by rw [hzs]; rfl
  have hov : ∀ v : V, over zs 0 [v] = some [v, V.str [], V.int .i64 0] := fun v => by rw [hzs]; rfl
  -- the end of what is no term
  have fin : ∀ (w w' : AW) (k' : Nat), PSt w bp wv k' 4 → Frm (fun b => b = bp) (aw.fresh zs) w → (rTerm ws k e) = (Tm.zero, k', 4) → w' = w.turn aw.next (.cells zs .own) → K (.agg zs) w' := by
    intro w w' k' h1 h2 h3 h4
    subst h4
    rw [h3] at h
    have := h (w.turn aw.next (.cells zs .own)) (h1.frm (S := fun b => b = aw.next) (turn_frm rfl (.inl rfl)) (fun h => hne h)) (out_frm h2)
    rw [hzs] at this ⊢; exact this
  -- no word
  have no : ∀ {s : List SI} {fr : Fr}, rTerm ws k e = (Tm.zero, k, rBad e 4) → fr.get 0 = some (.ptr bp 0) → fr.get 2 = some (.ptr aw.next 0) → WS tab (.code k_ref8_P_term_p0 :: s) fr (aw.fresh zs) (fun fr' aw' => ∃ vs, resV fr' aw' k_ref8_P_term.results = some vs ∧ K (resOne vs) aw') := by
    intro s fr hr f0 f2
    refine WS_run 1000 (by simp only [go_sem, eRun_exit, simprocAttr, k_ref8_P_term_p0, f0, f2]; rfl) ?_
    refine WS_call (by simp only [go_sem, eRun_exit, simprocAttr]) (by simp only [go_sem, eRun_exit, simprocAttr]; rfl) ?_
    refine bad_ok C (x := 4) hp1 fun w q1 q2 q3 => ?_
    have hst := res_store (vs := [V.int .i64 0, V.str [], V.int .i64 0]) ((q2.heap aw.next (Nat.lt_succ_self _) (fun h => hne h.symm)).trans fresh_get) hzl rfl
    have hrl := res_load (w := w) (b := aw.next) (vs := [V.int .i64 0, V.str [], V.int .i64 0]) (n := 3) rfl
    refine WS_run 1000 (by simp only [go_sem, eRun_exit, simprocAttr, f0, f2, evParts, fillV, V.cells, hst, List.length_cons, List.length_nil]; rfl) ?_
    refine WS_ret ⟨_, by simp only [go_sem, eRun_exit, simprocAttr, k_ref8_P_term, f2, hrl]; rfl, ?_⟩
    rw [hr] at h
    have := h (w.turn aw.next (.cells zs .own)) (q1.frm (S := fun b => b = aw.next) (turn_frm rfl (.inl rfl)) (fun h => hne h)) (out_frm q2)
    rw [hzs] at this; exact this
  by_cases he : e = 0
  case neg =>
    have hr : rTerm ws k e = (Tm.zero, k, rBad e 4) := by simp [rTerm, rNext, he]
    refine WS_runB 1000 (by simp only [go_sem, eRun_exit, simprocAttr, k_ref8_P_term, ← hzs, l2, he]; rfl) ?_
    exact no hr (by simp only [go_sem, eRun_exit, simprocAttr] <;> rfl) (by simp only [go_sem, eRun_exit, simprocAttr] <;> rfl)
  subst he
  by_cases hk : ws.length ≤ k
  · have hr : rTerm ws k 0 = (Tm.zero, k, rBad 0 4) := by
      have : rNext ws k 0 = none := by unfold rNext; rw [if_pos rfl, List.getElem?_eq_none hk]
      simp only [rTerm, this]
    rcases hw1.at with ⟨rfl, rfl⟩ | ⟨b, o, c, rfl, hneb, hltb, hat⟩
    · have e1 : 0 ≤ k := by omega
      refine WS_runB 1000 (by simp only [go_sem, eRun_exit, simprocAttr, k_ref8_P_term, ← hzs, l0, l1, l2, e1]; rfl) ?_
      exact no hr (by simp only [go_sem, eRun_exit, simprocAttr] <;> rfl) (by simp only [go_sem, eRun_exit, simprocAttr] <;> rfl)
    · refine WS_runB 1000 (by simp only [go_sem, eRun_exit, simprocAttr, k_ref8_P_term, ← hzs, l0, l1, l2, hk]; rfl) ?_
      exact no hr (by simp only [go_sem, eRun_exit, simprocAttr] <;> rfl) (by simp only [go_sem, eRun_exit, simprocAttr] <;> rfl)
  have hkl : k < ws.length := by omega
  obtain ⟨x, hx⟩ : ∃ x, ws[k]? = some x := ⟨_, List.getElem?_eq_getElem hkl⟩
  have hnx : rNext ws k 0 = some x := by unfold rNext; rw [if_pos rfl, hx]
  obtain ⟨x1, x2, x3, x4, x5⟩ := hok x (List.mem_of_getElem? hx)
  rcases hw1.at with ⟨rfl, rfl⟩ | ⟨b, o, c, rfl, hneb, hltb, hat⟩
  · simp at hkl
  obtain ⟨a1, a2, a3⟩ := hat k x hx
  by_cases h4 : x.kind = 4
  · have hr : rTerm ws k 0 = (Tm.zero, k, rBad 0 4) := by
      simp only [rTerm, hnx]
      rw [if_pos h4]; rfl
    refine WS_runB 1000 (by simp only [go_sem, eRun_exit, simprocAttr, k_ref8_P_term, ← hzs, l0, l1, l2, hk, hkl, a1, h4]; rfl) ?_
    exact no hr (by simp only [go_sem, eRun_exit, simprocAttr] <;> rfl) (by simp only [go_sem, eRun_exit, simprocAttr] <;> rfl)
  -- a word
  refine WS_run 1000 (by simp only [go_sem, eRun_exit, simprocAttr, k_ref8_P_term, ← hzs, l0, l1, l2, hk, hkl, a1, h4]; rfl) ?_
  refine WS_drawn ?_
  have hbn : ¬ b = (aw.fresh zs).next := by omega
  have lift : ∀ {b' o' n' l'}, b' < (aw.fresh zs).next → (aw.fresh zs).load b' o' n' = some l' → ((aw.fresh zs).fresh zs).load b' o' n' = some l' := by
    intro b' o' n' l' hb hl
    have : ((aw.fresh zs).fresh zs).heap.get b' = (aw.fresh zs).heap.get b' := AE.T.get_put_ne (by omega)
    simp only [AW.load] at hl ⊢
    rw [this]; exact hl
  have m0 := lift hp1.lt l0
  have m1 := lift hp1.lt l1
  have m3 := lift hltb a3
  have hst := res_store (w := (aw.fresh zs).fresh zs) (vs := wdCells x) fresh_get hzl rfl
  refine WDs_run 100 (by simp only [go_sem, eRun_exit, simprocAttr, ← hzs, l0, l1, hkl, a3, wdCells_len, hst]; rfl) ?_
  refine WDs_nil ⟨(show chkAll _ _ [(3, 10), (7, 10), (9, 10)] from by simp only [go_sem, eRun_exit, simprocAttr, chkAll, chk, List.reverse_cons, List.reverse_nil, mkStp_fe, mkStp_v, mkStp_0, mkStp_1, List.getElem?_nil, false_or, or_true, or_false, exists_eq', Option.some.injEq, Prod.mk.injEq, Bool.true_eq_false, Bool.false_eq_true, and_true, true_and, implies_true,  l0, l1, m0, m1, hkl, a3, m3]), ?_⟩
  -- what there is now
  have g2 : Frm (fun _ => False) (aw.fresh zs) (((aw.fresh zs).fresh zs).turn (aw.fresh zs).next (.cells (wdCells x) .own)) := by
    refine (fresh_frm (S := fun _ => False) _ zs).trans (T := fun b => b = (aw.fresh zs).next) (turn_frm rfl (.inl rfl)) (fun _ _ h => h) ?_
    rintro y hy rfl; omega
  have g3 : (((aw.fresh zs).fresh zs).turn (aw.fresh zs).next (.cells (wdCells x) .own)).heap.get (aw.fresh zs).next = some (.cells (wdCells x) .own) := AE.T.get_put_same
  generalize ((aw.fresh zs).fresh zs).turn (aw.fresh zs).next (.cells (wdCells x) .own) = w3 at g2 g3 ⊢
  have hp3 := hp1.frm g2 fun h => h
  have hwr : IntKind.wrap .i64 (Int.ofNat k + 1) = Int.ofNat (k + 1) := wrap_succ (by have := hw.len; omega)
  have hn1 : ¬ (aw.fresh zs).next = bp := by have := hp1.lt; omega
  have g4 : (PSt.mk' w3 bp (.slice b o ws.length c) (k + 1) 0).heap.get (aw.fresh zs).next = some (.cells (wdCells x) .own) := (AE.T.get_put_ne hn1).trans g3
  have hp4 := PSt.made (wv := .slice b o ws.length c) (k := k + 1) (e := 0) hp3.lt
  have g5 : Frm (fun b => b = bp) (aw.fresh zs) (PSt.mk' w3 bp (.slice b o ws.length c) (k + 1) 0) := g2.trans PSt.made_frm (fun _ _ h => h.elim) (fun _ _ h => h)
  have s1 := hp3.s1 (k + 1)
  have l31 := hp3.l1
  generalize hw4 : PSt.mk' w3 bp (.slice b o ws.length c) (k + 1) 0 = w4 at g4 hp4 g5 s1
  have c0 : w4.load (aw.fresh zs).next 0 1 = some [.int .i64 (Int.ofNat x.kind)] := by simp only [AW.load, g4]; rfl
  have c1 : w4.load (aw.fresh zs).next 1 1 = some [.str x.text] := by simp only [AW.load, g4]; rfl
  have gn0 : w4.heap.get aw.next = some (.cells zs .own) := (g5.heap aw.next (Nat.lt_succ_self _) (fun h => hne h.symm)).trans fresh_get
  -- the end
  have fine : ∀ (w : AW) (k' e' : Nat) (t : Tm), PSt w bp (.slice b o ws.length c) k' e' → Frm (fun b => b = bp) (aw.fresh zs) w → rTerm ws k 0 = (t, k', e') → K (.agg (tmC t)) (w.turn aw.next (.cells (tmC t) .own)) := by
    intro w k' e' t h1 h2 h3
    rw [h3] at h
    exact h _ (h1.frm (S := fun b => b = aw.next) (turn_frm rfl (.inl rfl)) (fun h => hne h)) (out_frm h2)
  by_cases hk1 : x.kind = 1
  · have hr : rTerm ws k 0 = (⟨2, x.text, 0⟩, k + 1, 0) := by
      simp only [rTerm, hnx]
      rw [if_neg h4, if_pos hk1]
    have hst := res_store (vs := [V.int .i64 2, V.str x.text, V.int .i64 0]) gn0 hzl rfl
    have hrl := res_load (w := w4) (b := aw.next) (vs := [V.int .i64 2, V.str x.text, V.int .i64 0]) (n := 3) rfl
    refine WS_run 1000 (by simp only [go_sem, eRun_exit, simprocAttr, k_ref8_P_term_p3, k_ref8_P_term_p2, l31, hwr, s1, c0, c1, hk1, evParts, fillV, over, hst, List.length_cons, List.length_nil]; rfl) ?_
    refine WS_ret ⟨_, by simp only [go_sem, eRun_exit, simprocAttr, k_ref8_P_term, hrl]; rfl, ?_⟩
    exact fine w4 _ _ _ hp4 g5 hr
  by_cases hk2 : x.kind = 2
  · have hr : rTerm ws k 0 = (⟨1, x.text, 0⟩, k + 1, 0) := by
      simp only [rTerm, hnx]
      rw [if_neg h4, if_neg hk1, if_pos hk2]
    have hst := res_store (vs := [V.int .i64 1, V.str x.text, V.int .i64 0]) gn0 hzl rfl
    have hrl := res_load (w := w4) (b := aw.next) (vs := [V.int .i64 1, V.str x.text, V.int .i64 0]) (n := 3) rfl
    refine WS_run 1000 (by simp only [go_sem, eRun_exit, simprocAttr, k_ref8_P_term_p3, k_ref8_P_term_p1, l31, hwr, s1, c0, c1, hk1, hk2, evParts, fillV, over, hst, List.length_cons, List.length_nil]; rfl) ?_
    refine WS_ret ⟨_, by simp only [go_sem, eRun_exit, simprocAttr, k_ref8_P_term, hrl]; rfl, ?_⟩
    exact fine w4 _ _ _ hp4 g5 hr
  -- a number
  have hlen := x2 h4
  refine WS_run 1000 (by simp only [go_sem, eRun_exit, simprocAttr, k_ref8_P_term_p3, l31, hwr, s1, c0, c1, hk1, hk2, List.length_cons, List.length_nil]; rfl) ?_
  refine WS_loop (NumI aw.next (aw.fresh zs).next bp x.text w4) ?_ x.text.length ⟨0, 0, (by simp only [go_sem, eRun_exit, simprocAttr] <;> rfl), (by simp only [go_sem, eRun_exit, simprocAttr] <;> rfl), (by simp only [go_sem, eRun_exit, simprocAttr] <;> rfl), (by simp only [go_sem, eRun_exit, simprocAttr] <;> rfl), (by simp only [go_sem, eRun_exit, simprocAttr] <;> rfl), rfl, by omega, rfl, by simp, by omega⟩
  rintro q f w ⟨i, m, f0, f2, f3, f4, f5, rfl, hi, hm, hb, rfl⟩ ih
  by_cases hil : i < x.text.length
  · obtain ⟨ch, hch⟩ : ∃ ch, x.text[i]? = some ch := ⟨_, List.getElem?_eq_getElem hil⟩
    have hc256 : ch < 256 := x5 ch (List.mem_of_getElem? hch)
    have hwi : IntKind.wrap .i64 (Int.ofNat i + 1) = Int.ofNat (i + 1) := wrap_succ (by omega)
    have hd : x.text.drop i = ch :: x.text.drop (i + 1) := by
      rw [List.drop_eq_getElem_cons hil]; rw [List.getElem?_eq_getElem hil] at hch; rw [Option.some.inj hch]
    rw [hd, List.foldl_cons] at hm
    have hpow : 29 * 10 ^ (i + 1) ≤ 290000000000000000 := by
      have : 10 ^ (i + 1) ≤ 10 ^ 16 := Nat.pow_le_pow_right (by omega) (by omega)
      omega
    have hp10 : 10 ^ (i + 1) = 10 ^ i * 10 := Nat.pow_succ ..
    by_cases h45 : ch = 45
    · rw [show rDig m ch = m from if_pos h45] at hm
      refine WS_run 1000 (by simp only [go_sem, eRun_exit, simprocAttr, k_ref8_P_term_p6, k_ref8_P_term_p5, f0, f2, f3, f4, f5, c1, hil, hch, h45, hwi]; rfl) ?_
      exact ih (x.text.length - (i + 1)) _ _ (by omega) ⟨i + 1, m, (by simp only [go_sem, eRun_exit, simprocAttr, f0] <;> rfl), (by simp only [go_sem, eRun_exit, simprocAttr, f2] <;> rfl), (by simp only [go_sem, eRun_exit, simprocAttr, f3] <;> rfl), (by simp only [go_sem, eRun_exit, simprocAttr, f4] <;> rfl), (by simp only [go_sem, eRun_exit, simprocAttr] <;> rfl), rfl, by omega, hm, by omega, rfl⟩
    · rw [show rDig m ch = m * 10 + (ch + 208) % 256 from if_neg h45] at hm
      have e1 := u8sub hc256
      have e2 : IntKind.wrap .i64 (Int.ofNat ((ch + 208) % 256)) = Int.ofNat ((ch + 208) % 256) := i64_small (by omega)
      have e3 : IntKind.wrap .i64 (Int.ofNat m * 10) = Int.ofNat (m * 10) := by
        have : Int.ofNat m * 10 = Int.ofNat (m * 10) := by simp
        rw [this]; exact i64_small (by omega)
      have e4 : IntKind.wrap .i64 (Int.ofNat (m * 10) + Int.ofNat ((ch + 208) % 256)) = Int.ofNat (m * 10 + (ch + 208) % 256) := wrap_add (by omega)
      refine WS_run 1000 (by simp only [go_sem, eRun_exit, simprocAttr, k_ref8_P_term_p6, k_ref8_P_term_p5, k_ref8_P_term_p4, f0, f2, f3, f4, f5, c1, hil, hch, h45, hwi, e1, e2, e3, e4]; rfl) ?_
      exact ih (x.text.length - (i + 1)) _ _ (by omega) ⟨i + 1, _, (by simp only [go_sem, eRun_exit, simprocAttr, f0] <;> rfl), (by simp only [go_sem, eRun_exit, simprocAttr, f2] <;> rfl), (by simp only [go_sem, eRun_exit, simprocAttr, f3] <;> rfl), (by simp only [go_sem, eRun_exit, simprocAttr] <;> rfl), (by simp only [go_sem, eRun_exit, simprocAttr] <;> rfl), rfl, by omega, hm, by omega, rfl⟩
  · rw [List.drop_eq_nil_of_le (by omega : x.text.length ≤ i)] at hm
    have hm : rNum x.text = m := hm
    by_cases hbig : 2147483648 < m
    · have hr : rTerm ws k 0 = (Tm.zero, k + 1, 4) := by
        simp only [rTerm, hnx]
        rw [if_neg h4, if_neg hk1, if_neg hk2, if_pos (by omega)]
      refine WS_run 1000 (by simp only [go_sem, eRun_exit, simprocAttr, k_ref8_P_term_p6, k_ref8_P_term_p7, f0, f2, f3, f4, f5, c1, hil, hbig]; rfl) ?_
      refine WS_call (by simp only [go_sem, eRun_exit, simprocAttr]) (by simp only [go_sem, eRun_exit, simprocAttr]; rfl) ?_
      refine bad_ok C (x := 4) hp4 fun w5 q1 q2 q3 => ?_
      have gn5 : w5.heap.get aw.next = some (.cells zs .own) := (q2.heap aw.next (Nat.lt_of_lt_of_le (Nat.lt_succ_self _) g5.next) (fun h => hne h.symm)).trans gn0
      have hst := res_store (vs := [V.int .i64 0, V.str [], V.int .i64 0]) gn5 hzl rfl
      have hrl := res_load (w := w5) (b := aw.next) (vs := [V.int .i64 0, V.str [], V.int .i64 0]) (n := 3) rfl
      refine WS_run 1000 (by simp only [go_sem, eRun_exit, simprocAttr, f0, f2, evParts, fillV, over, hst, List.length_cons, List.length_nil]; rfl) ?_
      refine WS_ret ⟨_, by simp only [go_sem, eRun_exit, simprocAttr, k_ref8_P_term, f2, hrl]; rfl, ?_⟩
      exact fine w5 _ _ _ q1 (g5.trans q2 (fun _ _ h => h) (fun _ _ h => h)) hr
    · obtain ⟨c0', t', hct⟩ : ∃ c t, x.text = c :: t := by
        cases hh : x.text with
        | nil => exact absurd hh x1
        | cons c t => exact ⟨c, t, rfl⟩
      have hl0 : 0 < x.text.length := by rw [hct]; simp
      have hch0 : x.text[0]? = some c0' := by rw [hct]; rfl
      by_cases h45 : c0' = 45
      · have hr : rTerm ws k 0 = (⟨3, [], -(m : Int)⟩, k + 1, 0) := by
          simp only [rTerm, hnx]
          rw [if_neg h4, if_neg hk1, if_neg hk2, if_neg (by omega), hct, hm.symm, hct]
          simp [h45]
        have e5 : IntKind.wrap .i64 (0 - Int.ofNat m) = -(m : Int) := by
          have : (0 : Int) - Int.ofNat m = -(m : Int) := by simp
          rw [this]; exact wrap_id (by omega) (by omega)
        have hst := res_store (vs := [V.int .i64 3, V.str [], V.int .i64 (-(m : Int))]) gn0 hzl rfl
        have hrl := res_load (w := w) (b := aw.next) (vs := [V.int .i64 3, V.str [], V.int .i64 (-(m : Int))]) (n := 3) rfl
        refine WS_run 1000 (by simp only [go_sem, eRun_exit, simprocAttr, k_ref8_P_term_p6, f0, f2, f3, f4, f5, c1, hil, hbig, hl0, hch0, h45, e5, evParts, fillV, hov, over, hst, List.length_cons, List.length_nil]; rfl) ?_
        refine WS_ret ⟨_, by simp only [go_sem, eRun_exit, simprocAttr, k_ref8_P_term, f2, hrl]; rfl, ?_⟩
        exact fine w _ _ _ hp4 g5 hr
      · have hr : rTerm ws k 0 = (⟨3, [], (m : Int)⟩, k + 1, 0) := by
          simp only [rTerm, hnx]
          rw [if_neg h4, if_neg hk1, if_neg hk2, if_neg (by omega), hct, hm.symm, hct]
          simp [h45]
        have hst := res_store (vs := [V.int .i64 3, V.str [], V.int .i64 (Int.ofNat m)]) gn0 hzl rfl
        have hrl := res_load (w := w) (b := aw.next) (vs := [V.int .i64 3, V.str [], V.int .i64 (Int.ofNat m)]) (n := 3) rfl
        refine WS_run 1000 (by simp only [go_sem, eRun_exit, simprocAttr, k_ref8_P_term_p6, f0, f2, f3, f4, f5, c1, hil, hbig, hl0, hch0, h45, evParts, fillV, hov, over, hst, List.length_cons, List.length_nil]; rfl) ?_
        refine WS_ret ⟨_, by simp only [go_sem, eRun_exit, simprocAttr, k_ref8_P_term, f2, hrl]; rfl, ?_⟩
        exact fine w _ _ _ hp4 g5 hr
end Go.Proofs.YtegdcbdicpfbpaaGreatDoor
set_option linter.unusedVariables false
set_option maxRecDepth 10000
set_option linter.unusedSimpArgs false
namespace Go.Proofs.YtegdcbdicpfbpaaGreatDoor
open Go.AE Delphi
variable {tab : Tab}
theorem PSt.cb {w : AW} {bp k e : Nat} {wv : V} (h : PSt w bp wv k e) : CB w bp [wv, .int .i64 (Int.ofNat k), .int .i64 (Int.ofNat e)] := ⟨h.lt, h.get⟩
def tmsC (l : List Tm) : List V := l.flatMap tmC
theorem tmsC_snoc (l : List Tm) (t : Tm) : tmsC (l ++ [t]) = tmsC l ++ tmC t := by simp [tmsC]
structure AS (Tw : Nat → Prop) (aw w : AW) (bp : Nat) (wv : V) (txt : List Nat) (args : List Tm) (k e : Nat) (av : V) (S : Nat → Prop) : Prop where
  p : PSt w bp wv k e
  frm : Frm (fun b => b = bp) aw w
  res : CB w aw.next [.int .i64 0, .str [], .nilslice]
  lit : CB w (aw.next + 1) [.int .i64 1, .str txt, av]
  buf : Buf S w av 3 args.length (tmsC args)
  sep : ∀ x, S x → aw.next + 1 < x ∧ x < w.next
structure AF (f : Fr) (bp n0 n1 : Nat) : Prop where
  f0 : f.get 0 = some (.ptr bp 0)
  f2 : f.get 2 = some (.ptr n0 0)
  f3 : f.get 3 = some (.ptr n1 0)
def ArgI (Tw : Nat → Prop) (aw : AW) (bp : Nat) (wv : V) (ws : List Wd) (txt : List Nat) (fin : List Tm × Nat × Nat) (q : Nat) (f : Fr) (w : AW) : Prop :=
  ∃ args k e av S, AF f bp aw.next (aw.next + 1) ∧ AS Tw aw w bp wv txt args k e av S ∧ args.length ≤ 5 ∧ k ≤ ws.length ∧ ws.length + 1 ≤ q + k ∧ rArgs ws q args k e = fin ∧ (e = 0 → args.length ≤ 4)
def ArgJ (Tw : Nat → Prop) (aw : AW) (bp : Nat) (wv : V) (txt : List Nat) (fin : List Tm × Nat × Nat) (f : Fr) (w : AW) : Prop :=
  ∃ av S, AF f bp aw.next (aw.next + 1) ∧ AS Tw aw w bp wv txt fin.1 fin.2.1 fin.2.2 av S
theorem tmC_len (t : Tm) : (tmC t).length = 3 := rfl
theorem rArgs_stop {ws : List Wd} {q : Nat} {args : List Tm} {k e : Nat} (h : e ≠ 0) : rArgs ws q args k e = (args, k, e) := by
  cases q with
  | zero => rfl
  | succ q => simp only [rArgs, if_neg h]
theorem arg_step (C : Codes tab) {Tw : Nat → Prop} {aw w : AW} {bp : Nat} {wv : V} {ws : List Wd} {txt : List Nat} {fin : List Tm × Nat × Nat} {q : Nat} {f : Fr} {s : List SI} {Q : Fr → AW → Prop} (hw : Wds Tw aw bp wv ws) (hok : ∀ x ∈ ws, WOk x) (hT : ∀ x, Tw x → x < aw.next) (hlt : bp < aw.next)
    (hI : ArgI Tw aw bp wv ws txt fin q f w) (ih : ∀ n' f' w', n' < q → ArgI Tw aw bp wv ws txt fin n' f' w' → WS tab (.code (.loop k_ref8_P_atom_p2) :: .endB 0 :: s) f' w' Q)
    (out : ∀ s' f' w', ArgJ Tw aw bp wv txt fin f' w' → popTo 0 s' = some s → WS tab (.code (.exit 0) :: s') f' w' Q) : WS tab (.code k_ref8_P_atom_p2 :: .code (.loop k_ref8_P_atom_p2) :: .endB 0 :: s) f w Q := by
  obtain ⟨args, k, e, av, S, ⟨f0, f2, f3⟩, hA, hl5, hk, hq, hfin, hl4⟩ := hI
  have p2 := hA.p.l2
  by_cases he : e = 0
  case neg =>
    rw [rArgs_stop he] at hfin
    refine WS_runB 1000 (by simp only [go_sem, simprocAttr, k_ref8_P_atom_p2, f0, f2, f3, p2, he]; rfl) ?_
    exact out _ _ _ ⟨av, S, ⟨(by simp only [go_sem, eRun_exit, simprocAttr, f0] <;> rfl), (by simp only [go_sem, eRun_exit, simprocAttr, f2] <;> rfl), (by simp only [go_sem, eRun_exit, simprocAttr, f3] <;> rfl)⟩, by rw [← hfin]; exact hA⟩ rfl
  subst he
  have hl4 := hl4 rfl
  obtain ⟨q, rfl⟩ : ∃ q', q = q' + 1 := ⟨q - 1, by omega⟩
  refine WS_run 1000 (by simp only [go_sem, eRun_exit, simprocAttr, k_ref8_P_atom_p2, k_ref8_P_atom_p1, f0, f2, f3, p2]; rfl) ?_
  refine WS_call (by simp only [go_sem, eRun_exit, simprocAttr]) (by simp only [go_sem, eRun_exit, simprocAttr]; rfl) ?_
  have hww : Wds Tw w bp wv ws := hw.frm hA.frm fun x hx he => hw.no (he ▸ hx)
  refine pterm_ok C hA.p hww hok (fun x hx => Nat.lt_of_lt_of_le (hT x hx) hA.frm.next) fun w1 q1 q2 => ?_
  simp only [rArgs, if_true] at hfin
  have hk1 := rTerm_le (e := 0) hk
  have hk1g := rTerm_ge ws k 0
  generalize hrt : rTerm ws k 0 = rt at hfin q1 hk1 hk1g
  obtain ⟨t, k1, e1⟩ := rt
  simp only at hfin q1 hk1 hk1g
  -- the term in a block of its own
  obtain ⟨w2, s2, c2, r2, n2⟩ := boxed w1 (zs := [V.int .i64 0, V.str [], V.int .i64 0]) (vs := tmC t) rfl rfl
  have nx := hA.frm.next
  have nx1 := q2.next
  have hn0 : ¬ aw.next = bp := by omega
  have hn1 : ¬ aw.next + 1 = bp := by omega
  have p2' := q1.frm r2 fun h => h
  have lit2 := (hA.lit.frm q2 hn1).frm r2 fun h => h
  have res2 := (hA.res.frm q2 hn0).frm r2 fun h => h
  have buf2 := (hA.buf.frm q2 fun x hx he => by have := (hA.sep x hx).1; omega).frm r2 fun _ _ h => h
  have l2 := p2'.l2
  have la : w2.load (aw.next + 1) 2 1 = some [av] := by rw [lit2.load]; rfl
  have lt : w2.load w1.next 0 3 = some (tmC t) := c2.all rfl
  have hlv := buf2.lenV
  have f02 : Frm (fun b => b = bp) aw w2 := hA.frm.tr (q2.tr r2.no)
  -- what is left, once the error is told
  obtain ⟨e2, he2⟩ : ∃ e2, e2 = if e1 = 0 ∧ args.length = 4 then 8 else e1 := ⟨_, rfl⟩
  rw [← he2] at hfin
  have hsz : S = S := rfl
  have cont : ∀ w3, PSt w3 bp wv k1 e2 → Frm (fun b => b = bp) w2 w3 → w3.next = w2.next →
      ∃ v' w5 S5, v'.cells = [v'] ∧ (w3.load (aw.next + 1) 2 1 = some [av]) ∧ w3.load w1.next 0 3 = some (tmC t) ∧ (w3.fresh (tmC t)).appendV 3 32 av 1 (tmC t) = some (v', w5) ∧ (w3.fresh (tmC t)).elems 3 (.slice w3.next 0 1 (.known 1)) = some (1, tmC t) ∧
        w5.store (aw.next + 1) 2 [v'] = some (w5.put (aw.next + 1) [.int .i64 1, .str txt, v']) ∧ AS Tw aw (w5.put (aw.next + 1) [.int .i64 1, .str txt, v']) bp wv txt (args ++ [t]) k1 e2 v' S5 := by
    intro w3 g1 g2 g3
    have buf3 := buf2.frm g2 fun x hx he => by have := (hA.sep x hx).1; omega
    have lit3 := lit2.frm g2 hn1
    have res3 := res2.frm g2 hn0
    have c3 := c2.frm g2 (by show ¬ w1.next = bp; omega)
    have hS3 : ∀ b, S b → b < w3.next := fun b hb => by have := (hA.sep b hb).2; omega
    obtain ⟨v', w5, S5, a1, a2, a3, a4⟩ := buf3.push (news := tmC t) (bytes := 32) hS3 (by omega) rfl rfl (by omega) (by omega)
    have nlit : ¬ S (aw.next + 1) := fun h => by have := (hA.sep _ h).1; omega
    have nres : ¬ S aw.next := fun h => by have := (hA.sep _ h).1; omega
    have nbp : ¬ S bp := fun h => by have := (hA.sep _ h).1; omega
    have lit5 := lit3.frm a3 nlit
    have vone : v'.one = true := by rcases a2.inv with ⟨rfl, _⟩ | ⟨_, rfl, _⟩ <;> rfl
    have vc : v'.cells = [v'] := by rcases a2.inv with ⟨rfl, _⟩ | ⟨_, rfl, _⟩ <;> rfl
    have pf : Frm (fun b => b = aw.next + 1) w5 (w5.put (aw.next + 1) [.int .i64 1, .str txt, v']) := put_frm
    have sep5 : ∀ x, S5 x → aw.next + 1 < x ∧ x < w5.next := by
      intro x hx
      obtain ⟨m1, m2⟩ := a4 x hx
      refine ⟨?_, m1⟩
      rcases m2 with m2 | m2
      · exact (hA.sep x m2).1
      · have := hA.lit.lt; have := g2.next; omega
    have n5 := a3.next
    refine ⟨v', w5, S5, vc, by rw [lit3.load]; rfl, c3.all rfl, a1, elems_fresh (by omega) rfl, lit5.set (by simp) vone, ?_⟩
    refine ⟨((g1.frm a3 nbp).frm pf (fun h => hn1 h.symm)), ?_, (res3.frm a3 nres).frm pf (by show ¬ aw.next = aw.next + 1; omega), put_cb lit5.lt, ?_, fun x hx => sep5 x hx⟩
    · refine ((f02.tr g2).trans a3 (fun _ _ h => h) fun x hx h => ?_).out (by omega) rfl
      have := (hA.sep x h).1; omega
    · rw [List.length_append, tmsC_snoc]
      exact a2.frm pf fun x hx he => by have := (sep5 x hx).1; omega
  have hl5' : (args ++ [t]).length ≤ 5 := by rw [List.length_append, List.length_singleton]; omega
  have nx2 := r2.next
  have tl : (tmC t).length = 3 := rfl
  have hov : over [V.int .i64 0, V.str [], V.int .i64 0] 0 (tmC t) = some (tmC t) := rfl
  have hfin' : (if rSign ws k1 [44] = true then rArgs ws q (args ++ [t]) (k1 + 1) e2 else (args ++ [t], k1, e2)) = fin := hfin
  by_cases h4 : e1 = 0 ∧ args.length = 4
  · obtain ⟨rfl, h4⟩ := h4
    rw [h4] at hlv
    rw [if_pos ⟨rfl, h4⟩] at he2
    subst he2
    refine WS_run 1000 (by simp only [go_sem, eRun_exit, simprocAttr, s2, tmC_len, l2, la, hlv, f0, f2, f3]; rfl) ?_
    refine WS_call (by simp only [go_sem, eRun_exit, simprocAttr]) (by simp only [go_sem, eRun_exit, simprocAttr]; rfl) ?_
    refine bad_ok C (x := 8) p2' fun w3 q3 q4 q5 => ?_
    obtain ⟨v', w5, S5, b0, b1, b2, b3, b4, b5, b6⟩ := cont w3 q3 q4 q5
    refine WS_run 1000 (by simp only [go_sem, eRun_exit, simprocAttr, f0, f2, f3, b0, b1, b2, evParts, fillV, hov, tmC_len, b3, b4, b5, List.length_cons, List.length_nil]; rfl) ?_
    refine WS_call (by simp only [go_sem, eRun_exit, simprocAttr]) (by simp only [go_sem, eRun_exit, simprocAttr]; rfl) ?_
    have hw5 := hw.frm b6.frm fun x hx he => hw.no (he ▸ hx)
    refine psign_ok C b6.p hw5 ?_
    cases hs : rSign ws k1 [44] with
    | true =>
      rw [hs, if_pos rfl] at hfin'
      have hks := rSign_lt hs
      have hwr : IntKind.wrap .i64 (Int.ofNat k1 + 1) = Int.ofNat (k1 + 1) := wrap_succ (by have := hw.len; omega)
      have l1 := b6.p.l1
      have st := b6.p.cb.set (i := 1) (v := .int .i64 (Int.ofNat (k1 + 1))) (by simp) rfl
      refine WS_run 1000 (by simp only [go_sem, eRun_exit, simprocAttr, f0, f2, f3, l1, hwr, st, List.length_cons, List.length_nil]; rfl) ?_
      have pf : Frm (fun b => b = bp) (w5.put (aw.next + 1) [.int .i64 1, .str txt, v']) ((w5.put (aw.next + 1) [.int .i64 1, .str txt, v']).put bp [wv, .int .i64 (Int.ofNat (k1 + 1)), .int .i64 (Int.ofNat 8)]) := put_frm
      exact ih q _ _ (by omega) ⟨args ++ [t], k1 + 1, 8, v', S5, ⟨(by simp only [go_sem, eRun_exit, simprocAttr, f0] <;> rfl), (by simp only [go_sem, eRun_exit, simprocAttr, f2] <;> rfl), (by simp only [go_sem, eRun_exit, simprocAttr, f3] <;> rfl)⟩, ⟨⟨b6.p.lt, AE.T.get_put_same⟩, b6.frm.tr pf, b6.res.frm pf hn0, b6.lit.frm pf hn1, b6.buf.frm pf fun x hx he => by have := (b6.sep x hx).1; omega, b6.sep⟩, hl5', hks, by omega, hfin', fun h => by omega⟩
    | false =>
      rw [hs, if_neg (by simp)] at hfin'
      refine WS_runB 1000 (by simp only [go_sem, simprocAttr, f0, f2, f3]; rfl) ?_
      exact out _ _ _ ⟨v', S5, ⟨(by simp only [go_sem, eRun_exit, simprocAttr, f0] <;> rfl), (by simp only [go_sem, eRun_exit, simprocAttr, f2] <;> rfl), (by simp only [go_sem, eRun_exit, simprocAttr, f3] <;> rfl)⟩, by rw [← hfin']; exact b6⟩ rfl
  · rw [if_neg h4] at he2
    subst he2
    obtain ⟨v', w5, S5, b0, b1, b2, b3, b4, b5, b6⟩ := cont w2 p2' (Frm.refl _) rfl
    have hl54 : e2 = 0 → (args ++ [t]).length ≤ 4 := by
      intro h0
      have : args.length ≠ 4 := fun h => h4 ⟨h0, h⟩
      rw [List.length_append, List.length_singleton]; omega
    have fin2 : ∀ (fr : Fr), AF fr bp aw.next (aw.next + 1) → fr.get 95 = some (.ptr bp 0) → WS tab (.ops [⟨some 96, none, .call (.const (.func (.func n_ref8_P_sign) [] [])) [(.tmp 95), (.const (.str [44]))]⟩, ⟨some 97, none, .un .not (.tmp 96)⟩] :: .code (.cond (.tmp 97) (.exit 0) .skip) :: .code (.region [⟨some 98, none, .mov (.tmp 0)⟩, ⟨some 99, none, .nilCheck (.tmp 98)⟩, ⟨some 100, none, .fieldAddr 1 (.tmp 99)⟩, ⟨some 101, none, .load 1 false (.tmp 100)⟩, ⟨some 102, none, .bin .add (.tmp 101) (.const (.int .i64 1))⟩, ⟨some 103, none, .nilCheck (.tmp 98)⟩, ⟨some 104, none, .fieldAddr 1 (.tmp 103)⟩, ⟨none, none, .store 1 (.tmp 104) (.tmp 102)⟩]) :: .endB 1 :: .code (.loop k_ref8_P_atom_p2) :: .endB 0 :: s) fr (w5.put (aw.next + 1) [.int .i64 1, .str txt, v']) Q := by
      rintro fr ⟨f0, f2, f3⟩ f95
      refine WS_call (by simp only [wanted_none]) (by simp only [go_sem, f95]; rfl) ?_
      have hw5 := hw.frm b6.frm fun x hx he => hw.no (he ▸ hx)
      refine psign_ok C b6.p hw5 ?_
      cases hs : rSign ws k1 [44] with
      | true =>
        rw [hs, if_pos rfl] at hfin'
        have hks := rSign_lt hs
        have hwr : IntKind.wrap .i64 (Int.ofNat k1 + 1) = Int.ofNat (k1 + 1) := wrap_succ (by have := hw.len; omega)
        have l1 := b6.p.l1
        have st := b6.p.cb.set (i := 1) (v := .int .i64 (Int.ofNat (k1 + 1))) (by simp) rfl
        refine WS_run 1000 (by simp only [go_sem, eRun_exit, simprocAttr, f0, f2, f3, l1, hwr, st, List.length_cons, List.length_nil]; rfl) ?_
        have pf : Frm (fun b => b = bp) (w5.put (aw.next + 1) [.int .i64 1, .str txt, v']) ((w5.put (aw.next + 1) [.int .i64 1, .str txt, v']).put bp [wv, .int .i64 (Int.ofNat (k1 + 1)), .int .i64 (Int.ofNat e2)]) := put_frm
        exact ih q _ _ (by omega) ⟨args ++ [t], k1 + 1, e2, v', S5, ⟨(by simp only [go_sem, eRun_exit, simprocAttr, f0] <;> rfl), (by simp only [go_sem, eRun_exit, simprocAttr, f2] <;> rfl), (by simp only [go_sem, eRun_exit, simprocAttr, f3] <;> rfl)⟩, ⟨⟨b6.p.lt, AE.T.get_put_same⟩, b6.frm.tr pf, b6.res.frm pf hn0, b6.lit.frm pf hn1, b6.buf.frm pf fun x hx he => by have := (b6.sep x hx).1; omega, b6.sep⟩, hl5', hks, by omega, hfin', hl54⟩
      | false =>
        rw [hs, if_neg (by simp)] at hfin'
        refine WS_runB 1000 (by simp only [go_sem, simprocAttr, f0, f2, f3]; rfl) ?_
        exact out _ _ _ ⟨v', S5, ⟨(by simp only [go_sem, eRun_exit, simprocAttr, f0] <;> rfl), (by simp only [go_sem, eRun_exit, simprocAttr, f2] <;> rfl), (by simp only [go_sem, eRun_exit, simprocAttr, f3] <;> rfl)⟩, by rw [← hfin']; exact b6⟩ rfl
    by_cases h0 : e2 = 0
    · have h4' : ¬ args.length = 4 := fun h => h4 ⟨h0, h⟩
      subst h0
      refine WS_run 1000 (by simp only [go_sem, eRun_exit, simprocAttr, s2, tl, l2, la, hlv, h4', f0, f2, f3, b0, b1, b2, evParts, fillV, hov, tmC_len, b3, b4, b5, List.length_cons, List.length_nil]; rfl) ?_
      exact fin2 _ ⟨(by simp only [go_sem, eRun_exit, simprocAttr, f0] <;> rfl), (by simp only [go_sem, eRun_exit, simprocAttr, f2] <;> rfl), (by simp only [go_sem, eRun_exit, simprocAttr, f3] <;> rfl)⟩ (by simp only [go_sem, eRun_exit, simprocAttr] <;> rfl)
    · refine WS_run 1000 (by simp only [go_sem, eRun_exit, simprocAttr, s2, tl, l2, la, h0, f0, f2, f3, b0, b1, b2, evParts, fillV, hov, tmC_len, b3, b4, b5, List.length_cons, List.length_nil]; rfl) ?_
      exact fin2 _ ⟨(by simp only [go_sem, eRun_exit, simprocAttr, f0] <;> rfl), (by simp only [go_sem, eRun_exit, simprocAttr, f2] <;> rfl), (by simp only [go_sem, eRun_exit, simprocAttr, f3] <;> rfl)⟩ (by simp only [go_sem, eRun_exit, simprocAttr] <;> rfl)
end Go.Proofs.YtegdcbdicpfbpaaGreatDoor
set_option linter.unusedVariables false
set_option maxRecDepth 10000
set_option linter.unusedSimpArgs false
namespace Go.Proofs.YtegdcbdicpfbpaaGreatDoor
open Go.AE Delphi
variable {tab : Tab}
def LtC (T : Nat → Prop) (w : AW) (l : Lt) (xs : List V) : Prop := ∃ v, xs = [.int .i64 (Int.ofNat l.kind), .str l.name, v] ∧ Rd T w v 3 l.args.length (tmsC l.args)
theorem LtC.frm {T S : Nat → Prop} {w w' : AW} {l : Lt} {xs : List V} (h : LtC T w l xs) (hf : Frm S w w') (hd : ∀ x, T x → ¬ S x) : LtC T w' l xs := by
  obtain ⟨v, h1, h2⟩ := h; exact ⟨v, h1, h2.frm hf hd⟩
theorem LtC.mono {T T' : Nat → Prop} {w : AW} {l : Lt} {xs : List V} (h : LtC T w l xs) (ht : ∀ x, T x → T' x) : LtC T' w l xs := by
  obtain ⟨v, h1, h2⟩ := h; exact ⟨v, h1, h2.mono ht⟩
theorem LtC.one {T : Nat → Prop} {w : AW} {l : Lt} {xs : List V} (h : LtC T w l xs) : xs.length = 3 ∧ allOne xs = true := by
  obtain ⟨v, rfl, h2⟩ := h
  refine ⟨rfl, ?_⟩
  rcases h2.inv with ⟨rfl, _⟩ | ⟨_, _, _, rfl, _⟩ <;> rfl
theorem LtC.zero {T : Nat → Prop} {w : AW} : LtC T w Lt.zero [.int .i64 0, .str [], .nilslice] := ⟨.nilslice, rfl, .nil⟩
theorem patom_ok (C : Codes tab) {Tw : Nat → Prop} {bp k e : Nat} {wv : V} {ws : List Wd} {aw : AW} {K : V → AW → Prop} (hp : PSt aw bp wv k e) (hw : Wds Tw aw bp wv ws) (hok : ∀ x ∈ ws, WOk x) (hT : ∀ x, Tw x → x < aw.next) (hk : k ≤ ws.length)
    (h : ∀ w T xs, PSt w bp wv (rAtom ws k e).2.1 (rAtom ws k e).2.2 → Frm (fun b => b = bp) aw w → LtC T w (rAtom ws k e).1 xs → (∀ x, T x → aw.next ≤ x ∧ x < w.next) → K (.agg xs) w) : WF tab n_ref8_P_atom [.ptr bp 0] aw K := by
  refine WF_of C.c_ref8_P_atom rfl ?_
  have hlt := hp.lt
  have hne : ¬ aw.next = bp := by omega
  obtain ⟨zs, hzs⟩ : ∃ zs, zs = [V.int .i64 0, V.str [], V.nilslice] := ⟨_, rfl⟩
  have hp1 := hp.frm (fresh_frm (S := fun _ => False) aw zs) fun h => h
  have hw1 := hw.frm (fresh_frm (S := fun _ => False) aw zs) fun _ _ h => h
  have l0 := hp1.l0
  have l1 := hp1.l1
  have l2 := hp1.l2
  have hzl : zs.length = 3 := by rw [hzs]; rfl
  have hov : ∀ v u : V, over zs 0 [v] = some [v, V.str [], V.nilslice] := fun v u => by rw [hzs]; rfl
  have hc0 := fresh_cb aw zs
  -- the end
  have fine : ∀ (w : AW) (k' e' : Nat) (l : Lt) (T : Nat → Prop) (xs : List V), PSt w bp wv k' e' → Frm (fun b => b = bp) (aw.fresh zs) w → rAtom ws k e = (l, k', e') → LtC T w l xs → (∀ x, T x → aw.next < x ∧ x < w.next) → K (.agg xs) (w.put aw.next xs) := by
    intro w k' e' l T xs h1 h2 h3 h4 h5
    rw [h3] at h
    exact h _ T xs (h1.frm put_frm (fun h => hne h.symm)) ((fresh_frm (S := fun b => b = bp) aw zs).tr h2 |>.out (Nat.le_refl _) rfl) (h4.frm put_frm fun x hx he => by have := (h5 x hx).1; omega) fun x hx => ⟨by have := (h5 x hx).1; omega, (h5 x hx).2⟩
  -- no word
  have no : ∀ {s : List SI} {fr : Fr}, rAtom ws k e = (Lt.zero, k, rBad e 4) → fr.get 0 = some (.ptr bp 0) → fr.get 2 = some (.ptr aw.next 0) → WS tab (.code k_ref8_P_atom_p0 :: s) fr (aw.fresh zs) (fun fr' aw' => ∃ vs, resV fr' aw' k_ref8_P_atom.results = some vs ∧ K (resOne vs) aw') := by
    intro s fr hr f0 f2
    refine WS_run 1000 (by simp only [go_sem, eRun_exit, simprocAttr, k_ref8_P_atom_p0, f0, f2]; rfl) ?_
    refine WS_call (by simp only [go_sem, eRun_exit, simprocAttr]) (by simp only [go_sem, eRun_exit, simprocAttr]; rfl) ?_
    refine bad_ok C (x := 4) hp1 fun w q1 q2 q3 => ?_
    have hc := hc0.frm q2 hne
    have hst := hc.setAll (vs := [V.int .i64 0, V.str [], V.nilslice]) hzl rfl
    have hrl := (put_cb (l := [V.int .i64 0, V.str [], V.nilslice]) hc.lt).all (n := 3) rfl
    refine WS_run 1000 (by simp only [go_sem, eRun_exit, simprocAttr, f0, f2, evParts, fillV, V.cells, hst, List.length_cons, List.length_nil]; rfl) ?_
    refine WS_ret ⟨_, by simp only [go_sem, eRun_exit, simprocAttr, k_ref8_P_atom, f2, hrl]; rfl, ?_⟩
    exact fine w _ _ _ (fun _ => False) _ q1 q2 hr LtC.zero fun _ h => h.elim
  by_cases he : e = 0
  case neg =>
    have hr : rAtom ws k e = (Lt.zero, k, rBad e 4) := by simp [rAtom, rNext, he]
    refine WS_runB 1000 (by simp only [go_sem, eRun_exit, simprocAttr, k_ref8_P_atom, ← hzs, l2, he]; rfl) ?_
    exact no hr (by simp only [go_sem, eRun_exit, simprocAttr] <;> rfl) (by simp only [go_sem, eRun_exit, simprocAttr] <;> rfl)
  subst he
  by_cases hkk : ws.length ≤ k
  · have hr : rAtom ws k 0 = (Lt.zero, k, rBad 0 4) := by
      have : rNext ws k 0 = none := by unfold rNext; rw [if_pos rfl, List.getElem?_eq_none hkk]
      simp only [rAtom, this]
    have hlv := hw1.rd.lenV
    refine WS_runB 1000 (by simp only [go_sem, eRun_exit, simprocAttr, k_ref8_P_atom, ← hzs, l0, l1, l2, hlv, hkk]; rfl) ?_
    exact no hr (by simp only [go_sem, eRun_exit, simprocAttr] <;> rfl) (by simp only [go_sem, eRun_exit, simprocAttr] <;> rfl)
  have hkl : k < ws.length := by omega
  obtain ⟨x, hx⟩ : ∃ x, ws[k]? = some x := ⟨_, List.getElem?_eq_getElem hkl⟩
  have hnx : rNext ws k 0 = some x := by unfold rNext; rw [if_pos rfl, hx]
  rcases hw1.at with ⟨rfl, rfl⟩ | ⟨b, o, c, rfl, hneb, hltb, hat⟩
  · simp at hkl
  obtain ⟨a1, a2, a3⟩ := hat k x hx
  by_cases h1k : x.kind = 1
  case neg =>
    have hr : rAtom ws k 0 = (Lt.zero, k, rBad 0 4) := by
      simp only [rAtom, hnx]
      rw [if_neg h1k]; rfl
    refine WS_runB 1000 (by simp only [go_sem, eRun_exit, simprocAttr, k_ref8_P_atom, ← hzs, l0, l1, l2, hkk, hkl, a1, h1k]; rfl) ?_
    exact no hr (by simp only [go_sem, eRun_exit, simprocAttr] <;> rfl) (by simp only [go_sem, eRun_exit, simprocAttr] <;> rfl)
  refine WS_run 1000 (by simp only [go_sem, eRun_exit, simprocAttr, k_ref8_P_atom, ← hzs, l0, l1, l2, hkk, hkl, a1, h1k]; rfl) ?_
  refine WS_drawn ?_
  have lift : ∀ {b' o' n' l'}, b' < (aw.fresh zs).next → (aw.fresh zs).load b' o' n' = some l' → ((aw.fresh zs).fresh zs).load b' o' n' = some l' := by
    intro b' o' n' l' hb hl
    have : ((aw.fresh zs).fresh zs).heap.get b' = (aw.fresh zs).heap.get b' := AE.T.get_put_ne (by omega)
    simp only [AW.load] at hl ⊢
    rw [this]; exact hl
  have m0 := lift hp1.lt l0
  have m1 := lift hp1.lt l1
  have m2 := lift hltb a2
  obtain ⟨w3, s3, c3, r3, n3⟩ := boxed (aw.fresh zs) (zs := zs) (vs := [V.int .i64 1, V.str x.text, V.nilslice]) hzl rfl
  have hov2 : over [V.int .i64 1, V.str [], V.nilslice] 1 [V.str x.text] = some [V.int .i64 1, V.str x.text, V.nilslice] := rfl
  have hov1 : over zs 0 [V.int .i64 1] = some [V.int .i64 1, V.str [], V.nilslice] := by rw [hzs]; rfl
  refine WDs_run 100 (by simp only [go_sem, eRun_exit, simprocAttr, ← hzs, l0, l1, hkl, a2, evParts, fillV, hov1, hov2, s3, List.length_cons, List.length_nil]; rfl) ?_
  refine WDs_nil ⟨(show chkAll _ _ [(3, 12), (7, 12), (10, 12)] from by simp only [go_sem, eRun_exit, simprocAttr, chkAll, chk, List.reverse_cons, List.reverse_nil, mkStp_fe, mkStp_v, mkStp_0, mkStp_1, List.getElem?_nil, false_or, or_true, or_false, exists_eq', Option.some.injEq, Prod.mk.injEq, Bool.true_eq_false, Bool.false_eq_true, and_true, true_and, implies_true,  l0, l1, m0, m1, hkl, a2, m2]), ?_⟩
  -- one on
  have hp3 := hp1.frm r3 fun h => h
  have hwr : IntKind.wrap .i64 (Int.ofNat k + 1) = Int.ofNat (k + 1) := wrap_succ (by have := hw.len; omega)
  have l31 := hp3.l1
  have s1 := hp3.cb.set (i := 1) (v := .int .i64 (Int.ofNat (k + 1))) (by simp) rfl
  have hp4 : PSt (w3.put bp ([V.slice b o ws.length c, .int .i64 (Int.ofNat k), .int .i64 (Int.ofNat 0)].set 1 (.int .i64 (Int.ofNat (k + 1))))) bp (.slice b o ws.length c) (k + 1) 0 := ⟨hp3.lt, AE.T.get_put_same⟩
  have r4 : Frm (fun b => b = bp) (aw.fresh zs) (w3.put bp ([V.slice b o ws.length c, .int .i64 (Int.ofNat k), .int .i64 (Int.ofNat 0)].set 1 (.int .i64 (Int.ofNat (k + 1))))) := r3.no.tr put_frm
  have hn1 : ¬ (aw.fresh zs).next = bp := by have := hp1.lt; omega
  have c4 := c3.frm (put_frm (l := [V.slice b o ws.length c, .int .i64 (Int.ofNat k), .int .i64 (Int.ofNat 0)].set 1 (.int .i64 (Int.ofNat (k + 1))))) hn1
  have n4 : (w3.put bp ([V.slice b o ws.length c, .int .i64 (Int.ofNat k), .int .i64 (Int.ofNat 0)].set 1 (.int .i64 (Int.ofNat (k + 1))))).next = aw.next + 1 + 1 := n3
  generalize w3.put bp ([V.slice b o ws.length c, .int .i64 (Int.ofNat k), .int .i64 (Int.ofNat 0)].set 1 (.int .i64 (Int.ofNat (k + 1)))) = w4 at s1 hp4 r4 c4 n4
  refine WS_run 1000 (by simp only [go_sem, eRun_exit, simprocAttr, l31, hwr, s1, List.length_cons, List.length_nil]; rfl) ?_
  refine WS_call (by simp only [go_sem, eRun_exit, simprocAttr]) (by simp only [go_sem, eRun_exit, simprocAttr]; rfl) ?_
  have hw4 := hw1.frm r4 fun y hy he => hw1.no (he ▸ hy)
  refine psign_ok C hp4 hw4 ?_
  have c40 := hc0.frm r4 hne
  cases hs : rSign ws (k + 1) [40] with
  | false =>
    have hr : rAtom ws k 0 = (⟨1, x.text, []⟩, k + 1, 0) := by
      simp only [rAtom, hnx]
      rw [if_pos h1k, hs, if_neg (by simp)]
    have la := c4.all (n := 3) rfl
    have hst := c40.setAll (vs := [V.int .i64 1, V.str x.text, V.nilslice]) hzl rfl
    have hrl := (put_cb (l := [V.int .i64 1, V.str x.text, V.nilslice]) c40.lt).all (n := 3) rfl
    refine WS_run 1000 (by simp only [go_sem, eRun_exit, simprocAttr, la, hst, List.length_cons, List.length_nil]; rfl) ?_
    refine WS_ret ⟨_, by simp only [go_sem, eRun_exit, simprocAttr, k_ref8_P_atom, hrl]; rfl, ?_⟩
    exact fine w4 _ _ _ (fun _ => False) _ hp4 r4 hr ⟨.nilslice, rfl, .nil⟩ fun _ h => h.elim
  | true =>
    have hks := rSign_lt hs
    have hwr2 : IntKind.wrap .i64 (Int.ofNat (k + 1) + 1) = Int.ofNat (k + 1 + 1) := wrap_succ (by have := hw.len; omega)
    have l41 := hp4.l1
    have s2 := hp4.cb.set (i := 1) (v := .int .i64 (Int.ofNat (k + 1 + 1))) (by simp) rfl
    refine WS_run 1000 (by simp only [go_sem, eRun_exit, simprocAttr, l41, hwr2, s2, List.length_cons, List.length_nil]; rfl) ?_
    have pf : Frm (fun b => b = bp) w4 (w4.put bp ([V.slice b o ws.length c, .int .i64 (Int.ofNat (k + 1)), .int .i64 (Int.ofNat 0)].set 1 (.int .i64 (Int.ofNat (k + 1 + 1))))) := put_frm
    have hfr5 := (fresh_frm (S := fun b => b = bp) aw zs).tr (r4.tr pf)
    refine WS_loopJ (ArgI Tw aw bp (.slice b o ws.length c) ws x.text (rArgs ws (ws.length + 1) [] (k + 2) 0)) (ArgJ Tw aw bp (.slice b o ws.length c) x.text (rArgs ws (ws.length + 1) [] (k + 2) 0)) (fun n f w hI ih out => arg_step C hw hok hT hlt hI ih out) ?_ (ws.length + 1)
      ⟨[], k + 2, 0, .nilslice, fun _ => False, ⟨(by simp only [go_sem, eRun_exit, simprocAttr] <;> rfl), (by simp only [go_sem, eRun_exit, simprocAttr] <;> rfl), (by simp only [go_sem, eRun_exit, simprocAttr] <;> rfl)⟩, ⟨⟨by show bp < w4.next; rw [n4]; omega, AE.T.get_put_same⟩, hfr5, by rw [← hzs]; exact c40.frm pf hne, c4.frm pf hn1, .nil, fun _ h => h.elim⟩, by simp, hks, by omega, rfl, by simp⟩
    rintro f w ⟨av, S, ⟨f0, f2, f3⟩, hA⟩
    generalize hra : rArgs ws (ws.length + 1) [] (k + 2) 0 = ra at hA
    obtain ⟨args, k5, e5⟩ := ra
    simp only at hA
    have hk5 : k5 ≤ ws.length := by
      have := rArgs_le (ws := ws) (ws.length + 1) [] (k + 2) 0 hks
      rw [hra] at this; exact this
    refine WS_run 1000 (by simp only [go_sem, eRun_exit, simprocAttr, f0]; rfl) ?_
    refine WS_call (by simp only [go_sem, eRun_exit, simprocAttr]) (by simp only [go_sem, eRun_exit, simprocAttr]; rfl) ?_
    have hww := hw.frm hA.frm fun y hy he => hw.no (he ▸ hy)
    refine peat_ok C hA.p hww (by have := hw.len; omega) fun w6 q1 q2 q3 => ?_
    have lit6 := hA.lit.frm q2 (by omega)
    have res6 := hA.res.frm q2 hne
    have buf6 := hA.buf.frm q2 fun y hy he => by have := (hA.sep y hy).1; omega
    have hr : rAtom ws k 0 = (⟨1, x.text, args⟩, (rEat ws [41] k5 e5).1, (rEat ws [41] k5 e5).2) := by
      simp only [rAtom, hnx]
      rw [if_pos h1k, hs, if_pos rfl, hra]
    have la := lit6.all (n := 3) rfl
    have aone : allOne [V.int .i64 1, V.str x.text, av] = true := by rcases hA.buf.inv with ⟨rfl, _⟩ | ⟨_, rfl, _⟩ <;> rfl
    have hst := res6.setAll (vs := [V.int .i64 1, V.str x.text, av]) rfl aone
    have hrl := (put_cb (l := [V.int .i64 1, V.str x.text, av]) res6.lt).all (n := 3) rfl
    refine WS_run 1000 (by simp only [go_sem, eRun_exit, simprocAttr, f0, f2, f3, la, hst, List.length_cons, List.length_nil]; rfl) ?_
    refine WS_ret ⟨_, by simp only [go_sem, eRun_exit, simprocAttr, k_ref8_P_atom, f2, hrl]; rfl, ?_⟩
    rw [hr] at h
    have r6 := hA.frm.tr q2
    exact h _ S _ (q1.frm put_frm (fun h => hne h.symm)) (r6.out (Nat.le_refl _) rfl) ⟨av, rfl, buf6.rd.frm put_frm fun y hy he => by have := (hA.sep y hy).1; omega⟩ fun y hy => ⟨by have := (hA.sep y hy).1; omega, by have := (hA.sep y hy).2; have : (w6.put aw.next [V.int .i64 1, V.str x.text, av]).next = w6.next := rfl; omega⟩
end Go.Proofs.YtegdcbdicpfbpaaGreatDoor
set_option linter.unusedVariables false
set_option maxRecDepth 10000
set_option linter.unusedSimpArgs false
namespace Go.Proofs.YtegdcbdicpfbpaaGreatDoor
open Go.AE Delphi
variable {tab : Tab}
theorem tms_of {T : Nat → Prop} {w : AW} {b : Nat} {l : List Tm} (hT : T b) (h : CB w b (tmsC l)) : Rd T w (.slice b 0 l.length (.known l.length)) 3 l.length (tmsC l) := by
  have hl : (tmsC l).length = l.length * 3 := flat_len tmC_len l
  exact .blk hT h.lt h.get (.inl rfl) (by omega) (by rw [List.drop_zero, List.take_of_length_le (by omega)]) (Nat.le_refl _)
set_option maxHeartbeats 1000000 in
theorem plit_ok (C : Codes tab) {Tw : Nat → Prop} {bp k e : Nat} {wv : V} {ws : List Wd} {aw : AW} {K : V → AW → Prop} (hp : PSt aw bp wv k e) (hw : Wds Tw aw bp wv ws) (hok : ∀ x ∈ ws, WOk x) (hT : ∀ x, Tw x → x < aw.next) (hk : k ≤ ws.length)
    (h : ∀ w T xs, PSt w bp wv (rLit ws k e).2.1 (rLit ws k e).2.2 → Frm (fun b => b = bp) aw w → LtC T w (rLit ws k e).1 xs → (∀ x, T x → aw.next ≤ x ∧ x < w.next) → K (.agg xs) w) : WF tab n_ref8_P_literal [.ptr bp 0] aw K := by
  refine WF_of C.c_ref8_P_literal rfl ?_
  have hlt := hp.lt
  have hne : ¬ aw.next = bp := by omega
  have hwl := hw.len
  obtain ⟨zs, hzs⟩ : ∃ zs, zs = [V.int .i64 0, V.str [], V.nilslice] := ⟨_, rfl⟩
  have hp1 := hp.frm (fresh_frm (S := fun _ => False) aw zs) fun h => h
  have hw1 := hw.frm (fresh_frm (S := fun _ => False) aw zs) fun _ _ h => h
  have hT1 : ∀ x, Tw x → x < (aw.fresh zs).next := fun x hx => Nat.lt_succ_of_lt (hT x hx)
  have l0 := hp1.l0
  have l1 := hp1.l1
  have l2 := hp1.l2
  have hzl : zs.length = 3 := by rw [hzs]; rfl
  have hc0 := fresh_cb aw zs
  have hlv := hw1.rd.lenV
  -- the end
  have fine : ∀ (w : AW) (k' e' : Nat) (l : Lt) (T : Nat → Prop) (xs : List V), PSt w bp wv k' e' → Frm (fun b => b = bp) (aw.fresh zs) w → rLit ws k e = (l, k', e') → LtC T w l xs → (∀ x, T x → aw.next < x ∧ x < w.next) → K (.agg xs) (w.put aw.next xs) := by
    intro w k' e' l T xs h1 h2 h3 h4 h5
    rw [h3] at h
    exact h _ T xs (h1.frm put_frm (fun h => hne h.symm)) ((fresh_frm (S := fun b => b = bp) aw zs).tr h2 |>.out (Nat.le_refl _) rfl) (h4.frm put_frm fun x hx he => by have := (h5 x hx).1; omega) fun x hx => ⟨by have := (h5 x hx).1; omega, (h5 x hx).2⟩
  refine WS_run 1000 (by simp only [go_sem, eRun_exit, simprocAttr, k_ref8_P_literal, ← hzs]; rfl) ?_
  refine WS_call (by simp only [go_sem, eRun_exit, simprocAttr]) (by simp only [go_sem, eRun_exit, simprocAttr]; rfl) ?_
  refine psign_ok C hp1 hw1 ?_
  cases hs : rSign ws k [33] with
  | true =>
    have hks := rSign_lt hs
    have hwr : IntKind.wrap .i64 (Int.ofNat k + 1) = Int.ofNat (k + 1) := wrap_succ (by omega)
    have s1 := hp1.cb.set (i := 1) (v := .int .i64 (Int.ofNat (k + 1))) (by simp) rfl
    have hp2 : PSt ((aw.fresh zs).put bp ([wv, .int .i64 (Int.ofNat k), .int .i64 (Int.ofNat e)].set 1 (.int .i64 (Int.ofNat (k + 1))))) bp wv (k + 1) e := ⟨hp1.lt, AE.T.get_put_same⟩
    have r2 : Frm (fun b => b = bp) (aw.fresh zs) ((aw.fresh zs).put bp ([wv, .int .i64 (Int.ofNat k), .int .i64 (Int.ofNat e)].set 1 (.int .i64 (Int.ofNat (k + 1))))) := put_frm
    generalize (aw.fresh zs).put bp ([wv, .int .i64 (Int.ofNat k), .int .i64 (Int.ofNat e)].set 1 (.int .i64 (Int.ofNat (k + 1)))) = w2 at s1 hp2 r2
    have hw2 := hw1.frm r2 fun y hy he => hw1.no (he ▸ hy)
    refine WS_run 1000 (by simp only [go_sem, eRun_exit, simprocAttr, k_ref8_P_literal_p0, k_ref8_P_literal_p1, k_ref8_P_literal, ← hzs, l1, hwr, s1, List.length_cons, List.length_nil]; rfl) ?_
    refine WS_call (by simp only [go_sem, eRun_exit, simprocAttr]) (by simp only [go_sem, eRun_exit, simprocAttr]; rfl) ?_
    refine patom_ok C hp2 hw2 hok (fun x hx => Nat.lt_of_lt_of_le (hT1 x hx) r2.next) hks fun w3 T xs q1 q2 q3 q4 => ?_
    obtain ⟨xl, xo⟩ := q3.one
    obtain ⟨v, rfl, hv⟩ := q3
    obtain ⟨w4, s4, c4, r4, n4⟩ := boxed w3 (zs := zs) (vs := [.int .i64 (Int.ofNat (rAtom ws (k + 1) e).1.kind), .str (rAtom ws (k + 1) e).1.name, v]) hzl xo
    have st := c4.set (i := 0) (v := .int .i64 2) (by simp) rfl
    have f34 : Frm (fun _ => False) w3 (w4.put w3.next [.int .i64 2, .str (rAtom ws (k + 1) e).1.name, v]) := r4.out (Nat.le_refl _) rfl
    have la := (put_cb (l := [.int .i64 2, .str (rAtom ws (k + 1) e).1.name, v]) c4.lt).all (n := 3) rfl
    have f14 : Frm (fun b => b = bp) (aw.fresh zs) (w4.put w3.next [.int .i64 2, .str (rAtom ws (k + 1) e).1.name, v]) := (r2.tr q2).tr f34.no
    have cr := hc0.frm f14 hne
    have vone : allOne [V.int .i64 2, .str (rAtom ws (k + 1) e).1.name, v] = true := xo
    have hst := cr.setAll (vs := [V.int .i64 2, .str (rAtom ws (k + 1) e).1.name, v]) hzl vone
    have hrl := (put_cb (l := [V.int .i64 2, .str (rAtom ws (k + 1) e).1.name, v]) cr.lt).all (n := 3) rfl
    have hr : rLit ws k e = ({ (rAtom ws (k + 1) e).1 with kind := 2 }, (rAtom ws (k + 1) e).2.1, (rAtom ws (k + 1) e).2.2) := by
      simp only [rLit]; rw [if_pos hs]
    refine WS_run 1000 (by simp only [go_sem, eRun_exit, simprocAttr, s4, st, la, hst, List.length_cons, List.length_nil, List.set_cons_zero]; rfl) ?_
    refine WS_ret ⟨_, by simp only [go_sem, eRun_exit, simprocAttr, k_ref8_P_literal, hrl]; rfl, ?_⟩
    have nn := r2.next
    exact fine _ _ _ _ T _ (q1.frm f34 fun h => h) f14 hr ⟨v, rfl, hv.frm f34 fun _ _ h => h⟩ fun x hx => by
      obtain ⟨m1, m2⟩ := q4 x hx
      have e1 : (aw.fresh zs).next = aw.next + 1 := rfl
      have := f34.next
      exact ⟨by omega, by omega⟩
  | false =>
  -- an atom
  have atomP : ∀ {s : List SI} {fr : Fr}, rLit ws k e = rAtom ws k e → fr.get 0 = some (.ptr bp 0) → fr.get 2 = some (.ptr aw.next 0) → WS tab (.code k_ref8_P_literal_p2 :: s) fr (aw.fresh zs) (fun fr' aw' => ∃ vs, resV fr' aw' k_ref8_P_literal.results = some vs ∧ K (resOne vs) aw') := by
    intro s fr hr f0 f2
    refine WS_run 1000 (by simp only [go_sem, eRun_exit, simprocAttr, k_ref8_P_literal_p2, f0, f2]; rfl) ?_
    refine WS_call (by simp only [go_sem, eRun_exit, simprocAttr]) (by simp only [go_sem, eRun_exit, simprocAttr]; rfl) ?_
    refine patom_ok C hp1 hw1 hok hT1 hk fun w3 T xs q1 q2 q3 q4 => ?_
    obtain ⟨xl, xo⟩ := q3.one
    have cr := hc0.frm q2 hne
    have hst := cr.setAll (vs := xs) (by rw [hzl, xl]) xo
    have hrl := (put_cb (l := xs) cr.lt).all (n := 3) xl
    refine WS_run 1000 (by simp only [go_sem, eRun_exit, simprocAttr, f0, f2, xl, hst]; rfl) ?_
    refine WS_ret ⟨_, by simp only [go_sem, eRun_exit, simprocAttr, k_ref8_P_literal, f2, hrl]; rfl, ?_⟩
    exact fine _ _ _ _ T _ q1 q2 hr q3 fun x hx => by
      obtain ⟨m1, m2⟩ := q4 x hx
      have e1 : (aw.fresh zs).next = aw.next + 1 := rfl
      exact ⟨by omega, m2⟩
  -- a term, and what is behind it
  have termP : ∀ {s : List SI} {fr : Fr}, ¬ (rKind ws k = 1 ∧ rCmpAt ws (k + 1) = 0) → fr.get 0 = some (.ptr bp 0) → fr.get 2 = some (.ptr aw.next 0) → fr.get 91 = some (.ptr bp 0) →
      WS tab (.ops [⟨some 92, none, .call (.const (.func (.func n_ref8_P_term) [] [])) [(.tmp 91)]⟩, ⟨some 4, none, .alloc [(.int .i64 0), (.str []), (.int .i64 0)]⟩, ⟨none, none, .store 3 (.tmp 4) (.tmp 92)⟩] :: .code k_ref8_P_literal_p7 :: s) fr (aw.fresh zs) (fun fr' aw' => ∃ vs, resV fr' aw' k_ref8_P_literal.results = some vs ∧ K (resOne vs) aw') := by
    intro s fr hna f0 f2 f91
    refine WS_call (by simp only [wanted_none]) (by simp only [go_sem, f91]; rfl) ?_
    refine pterm_ok C hp1 hw1 hok hT1 fun w1 q1 q2 => ?_
    have hk1 := rTerm_le (e := e) hk
    generalize hrt : rTerm ws k e = rt at q1 hk1
    obtain ⟨t, k1, e1⟩ := rt
    simp only at q1 hk1
    obtain ⟨w2, s2, c2, r2, n2⟩ := boxed w1 (zs := [V.int .i64 0, V.str [], V.int .i64 0]) (vs := tmC t) rfl rfl
    have p2 := q1.frm r2 fun h => h
    have f12 : Frm (fun b => b = bp) (aw.fresh zs) w2 := q2.tr r2.no
    have hw2 := hw1.frm f12 fun y hy he => hw1.no (he ▸ hy)
    have res2 := hc0.frm f12 hne
    have e1n : (aw.fresh zs).next = aw.next + 1 := rfl
    have nq := q2.next
    have m0 := p2.l0
    have m1 := p2.l1
    have m2 := p2.l2
    have hlv2 := hw2.rd.lenV
    refine WS_runB 1000 (by simp only [go_sem, eRun_exit, simprocAttr, s2, tmC_len, f0, f2]; rfl) ?_
    have g0 : ((fr.put 92 (.agg (tmC t))).put 4 (.ptr w1.next 0)).get 0 = some (.ptr bp 0) := (by simp only [go_sem, eRun_exit, simprocAttr, f0] <;> rfl)
    have g2 : ((fr.put 92 (.agg (tmC t))).put 4 (.ptr w1.next 0)).get 2 = some (.ptr aw.next 0) := (by simp only [go_sem, eRun_exit, simprocAttr, f2] <;> rfl)
    have g4 : ((fr.put 92 (.agg (tmC t))).put 4 (.ptr w1.next 0)).get 4 = some (.ptr w1.next 0) := (by simp only [go_sem, eRun_exit, simprocAttr] <;> rfl)
    generalize (fr.put 92 (.agg (tmC t))).put 4 (.ptr w1.next 0) = fr1 at g0 g2 g4
    -- no literal
    have badP : ∀ {s : List SI} {fr : Fr}, rLit ws k e = (Lt.zero, k1, rBad e1 4) → fr.get 0 = some (.ptr bp 0) → fr.get 2 = some (.ptr aw.next 0) → WS tab (.code k_ref8_P_literal_p3 :: s) fr w2 (fun fr' aw' => ∃ vs, resV fr' aw' k_ref8_P_literal.results = some vs ∧ K (resOne vs) aw') := by
      intro s fr hr f0 f2
      refine WS_run 1000 (by simp only [go_sem, eRun_exit, simprocAttr, k_ref8_P_literal_p3, f0, f2]; rfl) ?_
      refine WS_call (by simp only [go_sem, eRun_exit, simprocAttr]) (by simp only [go_sem, eRun_exit, simprocAttr]; rfl) ?_
      refine bad_ok C (x := 4) p2 fun w q1 q2 q3 => ?_
      have hc := res2.frm q2 hne
      have hst := hc.setAll (vs := [V.int .i64 0, V.str [], V.nilslice]) hzl rfl
      have hrl := (put_cb (l := [V.int .i64 0, V.str [], V.nilslice]) hc.lt).all (n := 3) rfl
      refine WS_run 1000 (by simp only [go_sem, eRun_exit, simprocAttr, f0, f2, evParts, fillV, V.cells, hst, List.length_cons, List.length_nil]; rfl) ?_
      refine WS_ret ⟨_, by simp only [go_sem, eRun_exit, simprocAttr, k_ref8_P_literal, f2, hrl]; rfl, ?_⟩
      exact fine w _ _ _ (fun _ => False) _ q1 (f12.tr q2) hr LtC.zero fun _ h => h.elim
    have hbad : (e1 ≠ 0 ∨ rCmpAt ws k1 = 0) → rLit ws k e = (Lt.zero, k1, rBad e1 4) := by
      intro hc
      simp only [rLit]; rw [hs, if_neg (by simp), if_neg hna, hrt, if_pos hc]
    by_cases he1 : e1 = 0
    case neg =>
      refine WS_runB 1000 (by simp only [go_sem, eRun_exit, simprocAttr, k_ref8_P_literal_p7, g0, g2, m2, he1]; rfl) ?_
      exact badP (hbad (.inl he1)) (by simp only [go_sem, eRun_exit, simprocAttr, g0] <;> rfl) (by simp only [go_sem, eRun_exit, simprocAttr, g2] <;> rfl)
    subst he1
    by_cases hkk : ws.length ≤ k1
    · have hz : rCmpAt ws k1 = 0 := by unfold rCmpAt; rw [List.getElem?_eq_none hkk]
      refine WS_runB 1000 (by simp only [go_sem, eRun_exit, simprocAttr, k_ref8_P_literal_p7, g0, g2, m0, m1, m2, hlv2, hkk]; rfl) ?_
      exact badP (hbad (.inr hz)) (by simp only [go_sem, eRun_exit, simprocAttr, g0] <;> rfl) (by simp only [go_sem, eRun_exit, simprocAttr, g2] <;> rfl)
    have hkl : k1 < ws.length := by omega
    obtain ⟨x, hx⟩ : ∃ x, ws[k1]? = some x := ⟨_, List.getElem?_eq_getElem hkl⟩
    rcases hw2.at with ⟨rfl, rfl⟩ | ⟨b, o, c, rfl, hneb, hltb, hat⟩
    · simp at hkl
    obtain ⟨a1, a2, a3⟩ := hat k1 x hx
    by_cases h4 : x.kind = 4
    case neg =>
      have hz : rCmpAt ws k1 = 0 := by unfold rCmpAt; rw [hx]; exact if_neg h4
      refine WS_runB 1000 (by simp only [go_sem, eRun_exit, simprocAttr, k_ref8_P_literal_p7, g0, g2, m0, m1, m2, hkk, hkl, a1, h4]; rfl) ?_
      exact badP (hbad (.inr hz)) (by simp only [go_sem, eRun_exit, simprocAttr, g0] <;> rfl) (by simp only [go_sem, eRun_exit, simprocAttr, g2] <;> rfl)
    have hz : rCmpAt ws k1 = rCompare x.text := by unfold rCmpAt; rw [hx]; exact if_pos h4
    refine WS_run 1000 (by simp only [go_sem, eRun_exit, simprocAttr, k_ref8_P_literal_p7, g0, g2, m0, m1, m2, hkk, hkl, a1, a2, h4]; rfl) ?_
    refine WS_call (by simp only [go_sem, eRun_exit, simprocAttr]) (by simp only [go_sem, eRun_exit, simprocAttr]; rfl) ?_
    refine pcompare_ok C ?_
    by_cases hcz : rCompare x.text = 0
    · rw [hcz]
      refine WS_runB 1000 (by simp only [go_sem, eRun_exit, simprocAttr]; rfl) ?_
      exact badP (hbad (.inr (hz.trans hcz))) (by simp only [go_sem, eRun_exit, simprocAttr, g0] <;> rfl) (by simp only [go_sem, eRun_exit, simprocAttr, g2] <;> rfl)
    refine WS_run 1000 (by simp only [go_sem, eRun_exit, simprocAttr, k_ref8_P_literal_p6, g0, g2, m0, m1, hkl, a2, hcz]; rfl) ?_
    refine WS_call (by simp only [go_sem, eRun_exit, simprocAttr]) (by simp only [go_sem, eRun_exit, simprocAttr]; rfl) ?_
    refine pcompare_ok C ?_
    have hwr : IntKind.wrap .i64 (Int.ofNat k1 + 1) = Int.ofNat (k1 + 1) := wrap_succ (by omega)
    have s3 := p2.cb.set (i := 1) (v := .int .i64 (Int.ofNat (k1 + 1))) (by simp) rfl
    have hp3 : PSt (w2.put bp ([V.slice b o ws.length c, .int .i64 (Int.ofNat k1), .int .i64 (Int.ofNat 0)].set 1 (.int .i64 (Int.ofNat (k1 + 1))))) bp (.slice b o ws.length c) (k1 + 1) 0 := ⟨p2.lt, AE.T.get_put_same⟩
    have r3 : Frm (fun b => b = bp) w2 (w2.put bp ([V.slice b o ws.length c, .int .i64 (Int.ofNat k1), .int .i64 (Int.ofNat 0)].set 1 (.int .i64 (Int.ofNat (k1 + 1))))) := put_frm
    generalize w2.put bp ([V.slice b o ws.length c, .int .i64 (Int.ofNat k1), .int .i64 (Int.ofNat 0)].set 1 (.int .i64 (Int.ofNat (k1 + 1)))) = w3 at s3 hp3 r3
    have hw3 := hw2.frm r3 fun y hy he => hw2.no (he ▸ hy)
    refine WS_run 1000 (by simp only [go_sem, eRun_exit, simprocAttr, k_ref8_P_literal_p5, g0, g2, g4, m1, hwr, s3, List.length_cons, List.length_nil]; rfl) ?_
    refine WS_call (by simp only [go_sem, eRun_exit, simprocAttr]) (by simp only [go_sem, eRun_exit, simprocAttr]; rfl) ?_
    refine pterm_ok C hp3 hw3 hok (fun x hx => Nat.lt_of_lt_of_le (hT1 x hx) (f12.tr r3).next) fun w5 u1 u2 => ?_
    obtain ⟨w6, s6, c6, r6, n6⟩ := boxed w5 (zs := [V.int .i64 0, V.str [], V.int .i64 0]) (vs := tmC (rTerm ws (k1 + 1) 0).1) rfl rfl
    have hb1 : ¬ w1.next = bp := by have := hp1.lt; omega
    have la := ((((c2.frm r3 hb1).frm u2 hb1).frm r6 fun h => h)).all (n := 3) rfl
    have lb := c6.all (n := 3) rfl
    have hov1 : over [V.int .i64 0, V.str [], V.int .i64 0, V.int .i64 0, V.str [], V.int .i64 0] 0 (tmC t) = some (tmC t ++ [V.int .i64 0, V.str [], V.int .i64 0]) := rfl
    have hov2 : over (tmC t ++ [V.int .i64 0, V.str [], V.int .i64 0]) 3 (tmC (rTerm ws (k1 + 1) 0).1) = some (tmsC [t, (rTerm ws (k1 + 1) 0).1]) := rfl
    have p7 := (u1.frm r6 fun h => h).frm (fresh_frm (S := fun _ => False) w6 (tmsC [t, (rTerm ws (k1 + 1) 0).1])) fun h => h
    have c7 := fresh_cb w6 (tmsC [t, (rTerm ws (k1 + 1) 0).1])
    have f17 : Frm (fun b => b = bp) (aw.fresh zs) (w6.fresh (tmsC [t, (rTerm ws (k1 + 1) 0).1])) := (((f12.tr r3).tr u2).tr r6.no).tr (fresh_frm _ _)
    have cr := hc0.frm f17 hne
    have hst := cr.setAll (vs := [V.int .i64 (Int.ofNat (rCompare x.text)), .str [], .slice w6.next 0 2 (.known 2)]) hzl rfl
    have hrl := (put_cb (l := [V.int .i64 (Int.ofNat (rCompare x.text)), .str [], .slice w6.next 0 2 (.known 2)]) cr.lt).all (n := 3) rfl
    have hr : rLit ws k e = (⟨rCompare x.text, [], [t, (rTerm ws (k1 + 1) 0).1]⟩, (rTerm ws (k1 + 1) 0).2.1, (rTerm ws (k1 + 1) 0).2.2) := by
      have hng : ¬ ((0 : Nat) ≠ 0 ∨ rCmpAt ws k1 = 0) := by
        rintro (h | h)
        · exact h rfl
        · exact hcz (hz.symm.trans h)
      simp only [rLit]; rw [hs, if_neg (by simp), if_neg hna, hrt]
      simp only []
      rw [if_neg hng, hz]
    refine WS_run 1000 (by simp only [go_sem, eRun_exit, simprocAttr, k_ref8_P_literal_p4, g0, g2, g4, s6, tmC_len, la, lb, evParts, fillV, hov1, hov2, over, hst, List.length_cons, List.length_nil]; rfl) ?_
    refine WS_ret ⟨_, by simp only [go_sem, eRun_exit, simprocAttr, k_ref8_P_literal, g2, hrl]; rfl, ?_⟩
    have n17 := (((f12.tr r3).tr u2).tr (r6.no (S := fun b => b = bp))).next
    exact fine _ _ _ _ (fun y => y = w6.next) _ p7 f17 hr ⟨_, rfl, tms_of (T := fun y => y = w6.next) rfl c7⟩ fun y hy => by
      subst hy
      exact ⟨by omega, Nat.lt_succ_self _⟩
  -- which of both
  by_cases hkl : k < ws.length
  case neg =>
    have hna : ¬ (rKind ws k = 1 ∧ rCmpAt ws (k + 1) = 0) := by
      unfold rKind; rw [List.getElem?_eq_none (by omega)]; simp
    refine WS_run 1000 (by simp only [go_sem, eRun_exit, simprocAttr, k_ref8_P_literal_p8, l0, l1, hlv, hkl]; rfl) ?_
    exact termP hna (by simp only [go_sem, eRun_exit, simprocAttr] <;> rfl) (by simp only [go_sem, eRun_exit, simprocAttr] <;> rfl) (by simp only [go_sem, eRun_exit, simprocAttr] <;> rfl)
  obtain ⟨x, hx⟩ : ∃ x, ws[k]? = some x := ⟨_, List.getElem?_eq_getElem hkl⟩
  have hkx : rKind ws k = x.kind := by unfold rKind; rw [hx]
  rcases hw1.at with ⟨rfl, rfl⟩ | ⟨b, o, c, rfl, hneb, hltb, hat⟩
  · simp at hkl
  obtain ⟨a1, a2, a3⟩ := hat k x hx
  by_cases h1k : x.kind = 1
  case neg =>
    have hna : ¬ (rKind ws k = 1 ∧ rCmpAt ws (k + 1) = 0) := fun h => h1k (hkx.symm.trans h.1)
    refine WS_run 1000 (by simp only [go_sem, eRun_exit, simprocAttr, k_ref8_P_literal_p8, l0, l1, hkl, a1, h1k]; rfl) ?_
    exact termP hna (by simp only [go_sem, eRun_exit, simprocAttr] <;> rfl) (by simp only [go_sem, eRun_exit, simprocAttr] <;> rfl) (by simp only [go_sem, eRun_exit, simprocAttr] <;> rfl)
  have hwr : IntKind.wrap .i64 (Int.ofNat k + 1) = Int.ofNat (k + 1) := wrap_succ (by omega)
  have hr0 : rCmpAt ws (k + 1) = 0 → rLit ws k e = rAtom ws k e := by
    intro hz
    simp only [rLit]; rw [hs, if_neg (by simp), if_pos ⟨hkx.trans h1k, hz⟩]
  by_cases hkl2 : k + 1 < ws.length
  case neg =>
    have hz : rCmpAt ws (k + 1) = 0 := by unfold rCmpAt; rw [List.getElem?_eq_none (by omega)]
    refine WS_runB 1000 (by simp only [go_sem, eRun_exit, simprocAttr, k_ref8_P_literal_p8, l0, l1, hkl, a1, h1k, hwr, hkl2]; rfl) ?_
    exact atomP (hr0 hz) (by simp only [go_sem, eRun_exit, simprocAttr] <;> rfl) (by simp only [go_sem, eRun_exit, simprocAttr] <;> rfl)
  obtain ⟨y, hy⟩ : ∃ x, ws[k + 1]? = some x := ⟨_, List.getElem?_eq_getElem hkl2⟩
  obtain ⟨b1, b2, b3⟩ := hat (k + 1) y hy
  by_cases h4 : y.kind = 4
  case neg =>
    have hz : rCmpAt ws (k + 1) = 0 := by unfold rCmpAt; rw [hy]; exact if_neg h4
    refine WS_runB 1000 (by simp only [go_sem, eRun_exit, simprocAttr, k_ref8_P_literal_p8, l0, l1, hkl, a1, h1k, hwr, hkl2, b1, h4]; rfl) ?_
    exact atomP (hr0 hz) (by simp only [go_sem, eRun_exit, simprocAttr] <;> rfl) (by simp only [go_sem, eRun_exit, simprocAttr] <;> rfl)
  have hz : rCmpAt ws (k + 1) = rCompare y.text := by unfold rCmpAt; rw [hy]; exact if_pos h4
  refine WS_run 1000 (by simp only [go_sem, eRun_exit, simprocAttr, k_ref8_P_literal_p8, l0, l1, hkl, a1, h1k, hwr, hkl2, b1, b2, h4]; rfl) ?_
  refine WS_call (by simp only [go_sem, eRun_exit, simprocAttr]) (by simp only [go_sem, eRun_exit, simprocAttr]; rfl) ?_
  refine pcompare_ok C ?_
  by_cases hcz : rCompare y.text = 0
  · rw [hcz]
    refine WS_runB 1000 (by simp only [go_sem, eRun_exit, simprocAttr]; rfl) ?_
    exact atomP (hr0 (hz.trans hcz)) (by simp only [go_sem, eRun_exit, simprocAttr] <;> rfl) (by simp only [go_sem, eRun_exit, simprocAttr] <;> rfl)
  · have hpos : 0 < rCompare y.text := by omega
    refine WS_run 1000 (by simp only [go_sem, eRun_exit, simprocAttr, hpos]; rfl) ?_
    exact termP (fun h => hcz (hz.symm.trans h.2)) (by simp only [go_sem, eRun_exit, simprocAttr] <;> rfl) (by simp only [go_sem, eRun_exit, simprocAttr] <;> rfl) (by simp only [go_sem, eRun_exit, simprocAttr] <;> rfl)
end Go.Proofs.YtegdcbdicpfbpaaGreatDoor
