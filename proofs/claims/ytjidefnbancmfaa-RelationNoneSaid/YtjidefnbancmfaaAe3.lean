/- AE, part 3: a new block; a write; a draw. -/
import Derived.Test.YtjidefnbancmfaaAe2
set_option linter.unusedVariables false
namespace Go.AE

def Map.set (m : Map) (b : Nat) (e : Emb) : Map := fun x => if x = b then some e else m x
theorem Map.set_same (m : Map) (b : Nat) (e : Emb) : m.set b e b = some e := by simp [Map.set]
theorem Map.set_ne (m : Map) {b x : Nat} (e : Emb) (h : x ≠ b) : m.set b e x = m x := by simp [Map.set, h]
theorem Map.le_set {m : Map} {b : Nat} {e : Emb} (h : m b = none) : m.le (m.set b e) := by
  intro x y hx
  by_cases hxb : x = b
  · subst hxb; rw [h] at hx; cases hx
  · rw [Map.set_ne _ _ hxb]; exact hx
theorem Map.set_cases {m : Map} {b x : Nat} {e y : Emb} (h : m.set b e x = some y) : (x = b ∧ y = e) ∨ (x ≠ b ∧ m x = some y) := by
  by_cases hx : x = b
  · subst hx; rw [Map.set_same] at h; exact .inl ⟨rfl, (Option.some.inj h).symm⟩
  · rw [Map.set_ne _ _ hx] at h; exact .inr ⟨hx, h⟩

theorem BR.mono {aw aw' : AW} {m m' : Map} {w w' : World} {b : Nat} {e : Emb} {x : Blk} (hm : m.le m') (ha : ∀ sh l, x = .cells l sh → aw'.alive b sh = true → aw.alive b sh = true)
    (hw : w'.heap[e.c]? = w.heap[e.c]?) (h : BR aw m w b e x) : BR aw' m' w' b e x := by
  cases x with
  | cells l sh =>
    intro hal
    obtain ⟨cur, t, lo, hi, h1, h2, h3, h4, h5⟩ := h (ha sh l rfl hal)
    exact ⟨cur, t, lo, hi, hw.trans h1, h2, h3, h4, h5.mono hm⟩
  | map es ck => obtain ⟨es', h1, h2⟩ := h; exact ⟨es', hw.trans h1, h2.mono hm⟩
  | mapIter y s q l => obtain ⟨h0, r, h1, h2⟩ := h; exact ⟨h0, r, hw.trans h1, h2.mono hm⟩

def AW.new (aw : AW) (x : Blk) : AW := { aw with heap := aw.heap.put aw.next x, next := aw.next + 1 }
/-- a block that is no one else's. -/
def Blk.lone : Blk → Bool
  | .cells _ .own => true
  | .cells _ .lax => true
  | .cells _ _ => false
  | _ => true
theorem heap_new (w : World) (o : Obj) : (w.alloc o).heap[w.heap.size]? = some o := by
  show (w.heap.push o)[w.heap.size]? = _
  simp
theorem heap_old (w : World) (o : Obj) {c : Nat} (h : c < w.heap.size) : (w.alloc o).heap[c]? = w.heap[c]? := by
  show (w.heap.push o)[c]? = _
  rw [Array.getElem?_push, if_neg (by omega)]
theorem alive_new {aw : AW} {x : Blk} {b : Nat} {sh : Share} : (aw.new x).alive b sh = aw.alive b sh := rfl
theorem live_new {aw : AW} {x y : Blk} {b : Nat} : (aw.new x).live b y = aw.live b y := by cases y <;> rfl

/-- A new block. -/
theorem R.new {aw : AW} {w : World} {m : Map} {base : Nat} (hR : R aw w m base) (x : Blk) (o : Obj) (tot : Nat) (hx : x.lone = true)
    (hb : BR (aw.new x) (m.set aw.next ⟨w.heap.size, 0, tot⟩) (w.alloc o) aw.next ⟨w.heap.size, 0, tot⟩ x) :
    R (aw.new x) (w.alloc o) (m.set aw.next ⟨w.heap.size, 0, tot⟩) base ∧ Goes aw (aw.new x) w (w.alloc o) m (m.set aw.next ⟨w.heap.size, 0, tot⟩) := by
  have hnone : m aw.next = none := by
    cases h : m aw.next with
    | none => rfl
    | some e => exact absurd (hR.lt _ _ h).1 (by omega)
  have hle : m.le (m.set aw.next ⟨w.heap.size, 0, tot⟩) := Map.le_set hnone
  have hsz : (w.alloc o).heap.size = w.heap.size + 1 := by simp
  constructor
  · constructor
    · intro b e l f h hy
      rcases Map.set_cases h with ⟨rfl, rfl⟩ | ⟨h1, h2⟩
      · rcases T.get_put hy with ⟨_, q5⟩ | ⟨q3, _⟩
        · subst q5; simp [Blk.lone] at hx
        · exact absurd rfl q3
      · simp only [AW.new] at hy ⊢; rw [T.get_put_ne h1] at hy; have := hR.famlt b e l f h2 hy; omega
    · have := hR.size; omega
    · intro b e h
      rcases Map.set_cases h with ⟨rfl, rfl⟩ | ⟨h1, h2⟩
      · exact ⟨by simp [AW.new], by simp⟩
      · have := hR.lt b e h2; exact ⟨by simp only [AW.new]; omega, by omega⟩
    · intro b e h
      rcases Map.set_cases h with ⟨rfl, rfl⟩ | ⟨h1, h2⟩
      · exact .inl hR.size
      · rcases hR.base b e h2 with h3 | ⟨l, h3⟩
        · exact .inl h3
        · exact .inr ⟨l, by simp only [AW.new]; rw [T.get_put_ne h1]; exact h3⟩
    · intro b e y h hy
      rcases Map.set_cases h with ⟨rfl, rfl⟩ | ⟨h1, h2⟩
      · rcases T.get_put hy with ⟨_, rfl⟩ | ⟨h3, _⟩
        · exact hb
        · exact absurd rfl h3
      · have hy' : aw.heap.get b = some y := by simp only [AW.new] at hy; rw [T.get_put_ne h1] at hy; exact hy
        exact BR.mono hle (fun _ _ _ h => h) (heap_old w o (hR.lt b e h2).2) (hR.blk b e y h2 hy')
    · intro b e y b' e' y' h hy h' hy' hl hl' hne hec
      rcases Map.set_cases h with ⟨rfl, rfl⟩ | ⟨h1, h2⟩
      · rcases Map.set_cases h' with ⟨rfl, rfl⟩ | ⟨h3, h4⟩
        · exact absurd rfl hne
        · have := (hR.lt b' e' h4).2; simp at hec; omega
      · rcases Map.set_cases h' with ⟨rfl, rfl⟩ | ⟨h3, h4⟩
        · have := (hR.lt b e h2).2; simp at hec; omega
        · simp only [AW.new] at hy hy'
          rw [T.get_put_ne h1] at hy
          rw [T.get_put_ne h3] at hy'
          exact hR.apart b e y b' e' y' h2 hy h4 hy' (by rw [live_new] at hl; exact hl) (by rw [live_new] at hl'; exact hl') hne hec
    · intro f F hf
      obtain ⟨h1, h2⟩ := hR.fam f F hf
      refine ⟨by simp only [AW.new]; omega, ?_⟩
      intro b e l e' l' hb1 hb2 hb3 hl1 hl2 hec
      have key : ∀ {b : Nat} {e : Emb} {l : List V}, (m.set aw.next ⟨w.heap.size, 0, tot⟩) b = some e → (aw.new x).heap.get b = some (.cells l (.fam f)) → m b = some e ∧ aw.heap.get b = some (.cells l (.fam f)) := by
        intro b e l q1 q2
        rcases Map.set_cases q1 with ⟨rfl, rfl⟩ | ⟨q3, q4⟩
        · rcases T.get_put q2 with ⟨_, q5⟩ | ⟨q3, _⟩
          · subst q5; simp [Blk.lone] at hx
          · exact absurd rfl q3
        · simp only [AW.new] at q2; rw [T.get_put_ne q3] at q2; exact ⟨q4, q2⟩
      obtain ⟨k1, k2⟩ := key hb1 hb2
      obtain ⟨k3, k4⟩ := key hl1 hl2
      exact h2 b e l e' l' k1 k2 hb3 k3 k4 hec
  · constructor
    · exact hle
    · intro b e h
      rcases Map.set_cases h with ⟨rfl, rfl⟩ | ⟨h1, h2⟩
      · exact .inr ⟨Nat.le_refl _, .inl (Nat.le_refl _)⟩
      · exact .inl h2
    · simp [AW.new]
    · omega
    · rfl
    · rfl
    · rfl
    · intro b l h hlt; simp only [AW.new]; rw [T.get_put_ne (by omega)]; exact h
    · intro b l h hlt; simp only [AW.new] at h; rw [T.get_put_ne (by omega)] at h; exact ⟨l, h⟩
    · intro c hc _; exact heap_old w o hc
    · intro b hlt h; simp only [AW.new]; rw [T.get_put_ne (by omega)]; exact h

/-- A draw. -/
theorem R.drew {aw : AW} {w : World} {m : Map} {base : Nat} (hR : R aw w m base) : R aw w.drew m base :=
  ⟨hR.famlt, hR.size, hR.lt, hR.base, fun b e x h1 h2 => BR.mono (.refl m) (fun _ _ _ h => h) rfl (hR.blk b e x h1 h2), hR.apart, hR.fam⟩
theorem Goes.drew (aw : AW) (w : World) (m : Map) : Goes aw aw w w.drew m m :=
  ⟨.refl m, fun _ _ h => .inl h, Nat.le_refl _, Nat.le_refl _, rfl, rfl, rfl, fun _ _ h _ => h, fun _ l h _ => ⟨l, h⟩, fun _ _ _ => rfl, fun _ _ h => h⟩

/-- an object put in the place of another one. -/
def setObjW (w : World) (c : Nat) (o : Obj) : World := { w with heap := w.heap.setIfInBounds c o }
theorem setObjW_same {w : World} {c : Nat} {o : Obj} (h : c < w.heap.size) : (setObjW w c o).heap[c]? = some o := by simp [setObjW, h]
theorem setObjW_ne {w : World} {c d : Nat} {o : Obj} (h : d ≠ c) : (setObjW w c o).heap[d]? = w.heap[d]? := by
  simp only [setObjW]; exact Array.getElem?_setIfInBounds_ne (Ne.symm h)

def AW.kill (aw : AW) (b : Nat) : Share → T Fam
  | .fam f => aw.fams.put f ⟨b, aw.next, b⟩
  | _ => aw.fams
/-- a block's content turned; where it has mates, they are no more to be read. -/
def AW.turn (aw : AW) (b : Nat) (x : Blk) : AW :=
  { aw with heap := aw.heap.put b x, fams := match x with | .cells _ sh => aw.kill b sh | _ => aw.fams }
def Blk.share : Blk → Option Share
  | .cells _ sh => some sh
  | _ => none

theorem alive_turn {aw : AW} {b b' : Nat} {x : Blk} {sh' : Share} (hlt : b' < aw.next) (hne : b' ≠ b) (h : (aw.turn b x).alive b' sh' = true) :
    aw.alive b' sh' = true ∧ ∀ f, x.share = some (.fam f) → sh' ≠ .fam f := by
  cases sh' with
  | own => exact ⟨rfl, fun f _ h => by cases h⟩
  | lax => exact ⟨rfl, fun f _ h => by cases h⟩
  | ro => exact ⟨rfl, fun f _ h => by cases h⟩
  | fam g =>
    cases x with
    | map es ck => exact ⟨h, fun f hf => by simp [Blk.share] at hf⟩
    | mapIter a c d e => exact ⟨h, fun f hf => by simp [Blk.share] at hf⟩
    | cells l sh =>
      cases sh with
      | own => exact ⟨h, fun f hf => by simp [Blk.share] at hf⟩
      | lax => exact ⟨h, fun f hf => by simp [Blk.share] at hf⟩
      | ro => exact ⟨h, fun f hf => by simp [Blk.share] at hf⟩
      | fam f =>
        simp only [AW.alive, AW.turn, AW.kill] at h
        split at h
        · rename_i F hF
          rcases T.get_put hF with ⟨rfl, rfl⟩ | ⟨h1, h2⟩
          · simp only [Bool.or_eq_true, Nat.ble_eq] at h
            rcases h with h | h
            · exact absurd (Nat.eq_of_beq_eq_true h) hne
            · omega
          · refine ⟨?_, fun f' hf' => ?_⟩
            · simp only [AW.alive, h2]; exact h
            · simp only [Blk.share, Option.some.injEq, Share.fam.injEq] at hf'
              intro hc
              cases hc
              exact h1 hf'.symm
        · cases h

/-- A block is turned. -/
theorem R.turn {aw : AW} {w : World} {m : Map} {base : Nat} (hR : R aw w m base) {b : Nat} {e : Emb} {x y : Blk} {o : Obj} (hm : m b = some e) (hx : aw.heap.get b = some x) (hl : aw.live b x = true)
    (hro : x.share ≠ some .ro) (hs : y.share = x.share) (hb : BR (aw.turn b y) m (setObjW w e.c o) b e y) :
    R (aw.turn b y) (setObjW w e.c o) m base ∧ Goes aw (aw.turn b y) w (setObjW w e.c o) m m := by
  have hlt := hR.lt b e hm
  have hsz : (setObjW w e.c o).heap.size = w.heap.size := by simp [setObjW]
  -- a block beside the turned one that is still to be read lies elsewhere
  have away : ∀ (b' : Nat) (e' : Emb) (z : Blk), m b' = some e' → aw.heap.get b' = some z → (aw.turn b y).live b' z = true → b' ≠ b → aw.live b' z = true ∧ e'.c ≠ e.c := by
    intro b' e' z h1 h2 h3 h4
    have hlt' := (hR.lt b' e' h1).1
    cases z with
    | map es ck =>
      refine ⟨rfl, fun hec => ?_⟩
      have := hR.apart b' e' _ b e x h1 h2 hm hx rfl hl h4 hec
      cases x <;> simp [Blk.mates] at this
    | mapIter r1 r2 r3 r4 =>
      refine ⟨rfl, fun hec => ?_⟩
      have := hR.apart b' e' _ b e x h1 h2 hm hx rfl hl h4 hec
      cases x <;> simp [Blk.mates] at this
    | cells l' sh' =>
      obtain ⟨k1, k2⟩ := alive_turn hlt' h4 h3
      refine ⟨k1, fun hec => ?_⟩
      have hmt := hR.apart b' e' _ b e x h1 h2 hm hx k1 hl h4 hec
      cases x with
      | map es ck => simp [Blk.mates] at hmt
      | mapIter r1 r2 r3 r4 => simp [Blk.mates] at hmt
      | cells l sh =>
        cases sh with
        | own => cases sh' <;> simp [Blk.mates] at hmt
        | lax => cases sh' <;> simp [Blk.mates] at hmt
        | ro => exact hro rfl
        | fam f =>
          cases sh' with
          | own => simp [Blk.mates] at hmt
          | lax => simp [Blk.mates] at hmt
          | ro => simp [Blk.mates] at hmt
          | fam g =>
            simp only [Blk.mates, beq_iff_eq] at hmt
            exact k2 f (by rw [hs]; rfl) (by rw [hmt])
  constructor
  · constructor
    · intro b' e' l f h hy
      by_cases hbb : b' = b
      · subst hbb
        rcases T.get_put hy with ⟨_, h3⟩ | ⟨h3, _⟩
        · cases x with
          | cells lx shx =>
            rw [← h3] at hs
            simp only [Blk.share, Option.some.injEq] at hs
            subst hs
            exact hR.famlt b' e lx f hm hx
          | map es ck => rw [← h3] at hs; simp [Blk.share] at hs
          | mapIter r1 r2 r3 r4 => rw [← h3] at hs; simp [Blk.share] at hs
        · exact absurd rfl h3
      · simp only [AW.turn] at hy ⊢; rw [T.get_put_ne hbb] at hy; exact hR.famlt b' e' l f h hy
    · rw [hsz]; exact hR.size
    · intro b' e' h; rw [hsz]; exact hR.lt b' e' h
    · intro b' e' h
      rcases hR.base b' e' h with h1 | ⟨l, h1⟩
      · exact .inl h1
      · refine .inr ⟨l, ?_⟩
        have hne : b' ≠ b := by
          rintro rfl
          rw [hx] at h1
          cases h1
          exact hro rfl
        simp only [AW.turn]; rw [T.get_put_ne hne]; exact h1
    · intro b' e' z h hz
      by_cases hbb : b' = b
      · subst hbb
        rw [hm] at h; cases h
        rcases T.get_put hz with ⟨_, rfl⟩ | ⟨h3, _⟩
        · exact hb
        · exact absurd rfl h3
      · have hz' : aw.heap.get b' = some z := by simp only [AW.turn] at hz; rw [T.get_put_ne hbb] at hz; exact hz
        have hold := hR.blk b' e' z h hz'
        cases z with
        | cells l' sh' =>
          intro hal
          have ⟨q1, q2⟩ := away b' e' _ h hz' hal hbb
          obtain ⟨cur, t, lo, hi, p1, p2, p3, p4, p5⟩ := hold q1
          exact ⟨cur, t, lo, hi, by rw [setObjW_ne q2]; exact p1, p2, p3, p4, p5⟩
        | map es ck =>
          have ⟨q1, q2⟩ := away b' e' _ h hz' rfl hbb
          obtain ⟨es', p1, p2⟩ := hold
          exact ⟨es', by rw [setObjW_ne q2]; exact p1, p2⟩
        | mapIter r1 r2 r3 r4 =>
          have ⟨q1, q2⟩ := away b' e' _ h hz' rfl hbb
          obtain ⟨p0, r, p1, p2⟩ := hold
          exact ⟨p0, r, by rw [setObjW_ne q2]; exact p1, p2⟩
    · intro b1 e1 z1 b2 e2 z2 h1 hz1 h2 hz2 hl1 hl2 hne hec
      by_cases hb1 : b1 = b
      · subst hb1
        rw [hm] at h1; cases h1
        have hb2 : b2 ≠ b1 := Ne.symm hne
        have hz2' : aw.heap.get b2 = some z2 := by simp only [AW.turn] at hz2; rw [T.get_put_ne hb2] at hz2; exact hz2
        exact absurd hec.symm (away b2 e2 z2 h2 hz2' hl2 hb2).2
      · have hz1' : aw.heap.get b1 = some z1 := by simp only [AW.turn] at hz1; rw [T.get_put_ne hb1] at hz1; exact hz1
        have ⟨q1, q2⟩ := away b1 e1 z1 h1 hz1' hl1 hb1
        by_cases hb2 : b2 = b
        · subst hb2
          rw [hm] at h2; cases h2
          exact absurd hec q2
        · have hz2' : aw.heap.get b2 = some z2 := by simp only [AW.turn] at hz2; rw [T.get_put_ne hb2] at hz2; exact hz2
          have ⟨q3, q4⟩ := away b2 e2 z2 h2 hz2' hl2 hb2
          exact hR.apart b1 e1 z1 b2 e2 z2 h1 hz1' h2 hz2' q1 q3 hne hec
    · intro f F hf
      have step : aw.fams.get f = some F ∨ (F = ⟨b, aw.next, b⟩ ∧ y.share = some (.fam f)) := by
        simp only [AW.turn] at hf
        split at hf
        · rename_i l sh
          cases sh with
          | own => exact .inl hf
          | lax => exact .inl hf
          | ro => exact .inl hf
          | fam g =>
            simp only [AW.kill] at hf
            rcases T.get_put hf with ⟨rfl, rfl⟩ | ⟨_, h2⟩
            · exact .inr ⟨rfl, rfl⟩
            · exact .inl h2
        · exact .inl hf
      have flo : F.floor ≤ (aw.turn b y).next := by
        rcases step with h | ⟨rfl, _⟩
        · exact (hR.fam f F h).1
        · exact Nat.le_refl _
      refine ⟨flo, ?_⟩
      intro b1 e1 l1 e2 l2 h1 hz1 ha1 h2 hz2 hec
      by_cases hlast : b1 = F.last
      · subst hlast
        rw [h1] at h2; cases h2
        rw [hz1] at hz2; cases hz2
        omega
      · -- two unlike blocks of one family: the turned one is none of them, if both are still to be read
        by_cases hyf : y.share = some (.fam f)
        · -- the family is the turned block's: only it is still to be read
          exfalso
          have hb1 : b1 = b := by
            apply Classical.byContradiction
            intro hb1
            exact (alive_turn (hR.lt b1 e1 h1).1 hb1 ha1).2 f hyf rfl
          subst hb1
          rcases step with h | ⟨rfl, _⟩
          · -- F is the new one all the same
            cases y with
            | cells ly shy =>
              simp only [Blk.share, Option.some.injEq] at hyf
              subst hyf
              simp only [AW.turn, AW.kill] at hf
              rcases T.get_put hf with ⟨_, rfl⟩ | ⟨h3, _⟩
              · exact hlast rfl
              · exact h3 rfl
            | map es ck => simp [Blk.share] at hyf
            | mapIter r1 r2 r3 r4 => simp [Blk.share] at hyf
          · exact hlast rfl
        · have hF : aw.fams.get f = some F := by
            rcases step with h | ⟨_, h⟩
            · exact h
            · exact absurd h hyf
          have hb1 : b1 ≠ b := by
            rintro rfl
            rcases T.get_put hz1 with ⟨_, h3⟩ | ⟨h3, _⟩
            · exact hyf (by rw [← h3]; rfl)
            · exact h3 rfl
          have hb2 : F.last ≠ b := by
            intro h
            rw [h] at hz2
            rcases T.get_put hz2 with ⟨_, h3⟩ | ⟨h3, _⟩
            · exact hyf (by rw [← h3]; rfl)
            · exact h3 rfl
          have hz1' : aw.heap.get b1 = some (.cells l1 (.fam f)) := by simp only [AW.turn] at hz1; rw [T.get_put_ne hb1] at hz1; exact hz1
          have hz2' : aw.heap.get F.last = some (.cells l2 (.fam f)) := by simp only [AW.turn] at hz2; rw [T.get_put_ne hb2] at hz2; exact hz2
          exact (hR.fam f F hF).2 b1 e1 l1 e2 l2 h1 hz1' (alive_turn (hR.lt b1 e1 h1).1 hb1 ha1).1 h2 hz2' hec
  · constructor
    · exact .refl m
    · intro b' e' h; exact .inl h
    · exact Nat.le_refl _
    · rw [hsz]; exact Nat.le_refl _
    · rfl
    · rfl
    · rfl
    · intro b' l h _
      have hne : b' ≠ b := by
        rintro rfl
        rw [hx] at h
        cases h
        exact hro rfl
      simp only [AW.turn]; rw [T.get_put_ne hne]; exact h
    · intro b' l h _
      by_cases hne : b' = b
      · subst hne
        rcases T.get_put h with ⟨_, h3⟩ | ⟨h3, _⟩
        · rw [← h3] at hs
          exact absurd hs.symm hro
        · exact absurd rfl h3
      · simp only [AW.turn] at h; rw [T.get_put_ne hne] at h; exact ⟨l, h⟩
    · intro c hc hno
      apply setObjW_ne
      intro hce
      refine hno b e x hm hx (fun l hl' => ?_) hce.symm
      cases hl'
      exact hro rfl
    · intro b' hlt' h
      have hne : b' ≠ b := by
        rintro rfl
        rw [hx] at h
        cases h
      simp only [AW.turn]; rw [T.get_put_ne hne]; exact h
end Go.AE
