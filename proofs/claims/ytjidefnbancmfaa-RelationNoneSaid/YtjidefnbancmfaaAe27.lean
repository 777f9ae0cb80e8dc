/- AE, part 27: the abstract steps, carried out. -/
import Derived.Test.YtjidefnbancmfaaAe26
set_option linter.unusedVariables false
set_option linter.unusedSimpArgs false
namespace Go.AE

structure XTab where
  code : Nat → Option AFun
  prim : Nat → List V → AW → Option (V × AW)
  ext : Nat → List V → AW → Option V
def XTab.tab (x : XTab) : Tab := ⟨x.code, fun f args aw v aw' => x.prim f args aw = some (v, aw'), fun f args aw v => x.ext f args aw = some v⟩

abbrev X := ACode → Fr → AW → Option (AExit × Fr × AW)
def xCall (x : XTab) (rec : X) (f : Nat) (args : List V) (aw : AW) : Option (V × AW) :=
  match x.prim f args aw with
  | some r => some r
  | none => match x.code f with
    | some af => match Nat.ble args.length af.ntmps with
      | true => match rec af.body (initFr args 0) aw with
        | some (.exit _, _, _) => none
        | some (_, fr', aw') => match resV fr' aw' af.results with
          | some vs => some (resOne vs, aw')
          | none => none
        | none => none
      | false => none
    | none => none
def xOne (x : XTab) (rec : X) (o : AOper) (fr : Fr) (aw : AW) : Option (V × AW) :=
  match wanted fr o.guard with
  | some true => match aop o.op fr aw with
    | some (.val v, aw1) => some (v, aw1)
    | some (.skip, aw1) => some (.undef, aw1)
    | some (.call f args, aw0) => match x.ext f args aw0 with
      | some v => some (v, aw0)
      | none => xCall x rec f args aw0
    | none => none
  | some false => some (.undef, aw)
  | none => none
def xOps (x : XTab) (rec : X) : List AOper → Fr → AW → Option (Fr × AW)
  | [], fr, aw => some (fr, aw)
  | o :: l, fr, aw => match xOne x rec o fr aw with
    | some (v, aw1) => xOps x rec l (putO fr o.dst v) aw1
    | none => none
def xPass (x : XTab) (rec : X) : List DOper → Fr → AW → Option (List Stp × Fr × AW)
  | [], fr, aw => some ([], fr, aw)
  | d :: l, fr, aw => match xOne x rec d.op (hideL fr d.hide) aw with
    | some (v, aw1) => match xPass x rec l (putO fr d.op.dst v) aw1 with
      | some (st, fr', aw') => some (⟨hideL fr d.hide, v, aw, aw1⟩ :: st, fr', aw')
      | none => none
    | none => none
def xStep (x : XTab) (rec : X) : X := fun c fr aw => match c with
  | .skip => some (.normal, fr, aw)
  | .region l => match xOps x rec l fr aw with
    | some (fr', aw') => some (.normal, fr', aw')
    | none => none
  | .drawn l => match xPass x rec l fr aw with
    | some (st, fr', aw') => match drawnOK l st with
      | true => some (.normal, fr', aw')
      | false => none
    | none => none
  | .seq a b => match rec a fr aw with
    | some (.normal, fr1, aw1) => rec b fr1 aw1
    | r => r
  | .cond c a b => match c.ev fr with
    | some (.bool true) => rec a fr aw
    | some (.bool false) => rec b fr aw
    | _ => none
  | .block id b => match rec b fr aw with
    | some (.exit id', fr1, aw1) => match Nat.beq id' id with
      | true => some (.normal, fr1, aw1)
      | false => some (.exit id', fr1, aw1)
    | r => r
  | .loop b => match rec b fr aw with
    | some (.normal, fr1, aw1) => rec (.loop b) fr1 aw1
    | r => r
  | .exit id => some (.exit id, fr, aw)
  | .scope b => rec b fr aw
  | .ret => some (.ret, fr, aw)
def xRun (x : XTab) (n : Nat) : X := Nat.rec (fun _ _ _ => none) (fun _ ih => xStep x ih) n

section
variable {x : XTab}
def RecOK (x : XTab) (rec : X) : Prop := ∀ (c : ACode) (fr : Fr) (aw : AW) (e : AExit) (fr' : Fr) (aw' : AW), rec c fr aw = some (e, fr', aw') → Exec x.tab c fr aw e fr' aw'
theorem xCall_ok {rec : X} (hr : RecOK x rec) {f : Nat} {args : List V} {aw : AW} {v : V} {aw' : AW} (h : xCall x rec f args aw = some (v, aw')) : CallR x.tab f args aw v aw' := by
  unfold xCall at h
  split at h
  · rename_i hp; cases h; exact .prim hp
  · split at h
    · rename_i af haf
      split at h
      · rename_i hn
        split at h
        · cases h
        · rename_i e fr1 aw1 hne hrec
          split at h
          · rename_i vs hvs
            cases h
            refine .code haf (Nat.le_of_ble_eq_true hn) (hr _ _ _ _ _ _ hrec) ?_ hvs
            cases e with
            | normal => exact .inl rfl
            | ret => exact .inr rfl
            | exit id => exact (hne id rfl).elim
          · cases h
        · cases h
      · cases h
    · cases h
theorem xOne_ok {rec : X} (hr : RecOK x rec) {o : AOper} {fr : Fr} {aw : AW} {v : V} {aw' : AW} (h : xOne x rec o fr aw = some (v, aw')) : One x.tab o fr aw v aw' := by
  unfold xOne at h
  split at h
  · rename_i hw
    split at h
    · rename_i ha; cases h; exact .val hw ha
    · rename_i ha; cases h; exact .skip hw ha
    · rename_i ha
      split at h
      · rename_i hx; cases h; exact .ext hw ha hx
      · exact .call hw ha (xCall_ok hr h)
    · cases h
  · rename_i hw; cases h; exact .pass hw
  · cases h
theorem xOps_ok {rec : X} (hr : RecOK x rec) : ∀ {l : List AOper} {fr : Fr} {aw : AW} {fr' : Fr} {aw' : AW}, xOps x rec l fr aw = some (fr', aw') → Ops x.tab l fr aw fr' aw'
  | [], fr, aw, fr', aw', h => by cases h; exact .nil
  | o :: l, fr, aw, fr', aw', h => by
    simp only [xOps] at h
    split at h
    · rename_i v aw1 h1
      exact .cons (xOne_ok hr h1) (xOps_ok hr h)
    · cases h
theorem xPass_ok {rec : X} (hr : RecOK x rec) : ∀ {l : List DOper} {fr : Fr} {aw : AW} {st : List Stp} {fr' : Fr} {aw' : AW}, xPass x rec l fr aw = some (st, fr', aw') → Pass x.tab l fr aw st fr' aw'
  | [], fr, aw, st, fr', aw', h => by cases h; exact .nil
  | d :: l, fr, aw, st, fr', aw', h => by
    simp only [xPass] at h
    split at h
    · rename_i v aw1 h1
      split at h
      · rename_i h2
        cases h
        exact .cons (xOne_ok hr h1) (xPass_ok hr h2)
      · cases h
    · cases h
theorem xStep_ok {rec : X} (hr : RecOK x rec) : RecOK x (xStep x rec) := by
  intro c fr aw e fr' aw' h
  unfold xStep at h
  cases c with
  | skip => cases h; exact .skip
  | region l =>
    simp only at h
    split at h
    · rename_i h1; cases h; exact .region (xOps_ok hr h1)
    · cases h
  | drawn l =>
    simp only at h
    split at h
    · rename_i h1
      split at h
      · rename_i h2; cases h; exact .drawn (xPass_ok hr h1) h2
      · cases h
    · cases h
  | seq a b =>
    simp only at h
    split at h
    · rename_i h1; exact .seq (hr _ _ _ _ _ _ h1) (hr _ _ _ _ _ _ h)
    · rename_i hne
      cases e with
      | normal => exact absurd h (hne _ _)
      | exit id => exact .seqE (hr _ _ _ _ _ _ h)
      | ret => exact .seqR (hr _ _ _ _ _ _ h)
  | cond c a b =>
    simp only at h
    split at h
    · rename_i h1; exact .condT h1 (hr _ _ _ _ _ _ h)
    · rename_i h1; exact .condF h1 (hr _ _ _ _ _ _ h)
    · cases h
  | block id b =>
    simp only at h
    split at h
    · rename_i id' fr1 aw1 h1
      split at h
      · rename_i hb; cases h
        have := Nat.eq_of_beq_eq_true hb
        subst this
        exact .blockX (hr _ _ _ _ _ _ h1)
      · rename_i hb; cases h
        exact .blockE (hr _ _ _ _ _ _ h1) (fun hh => by subst hh; rw [Nat.beq_refl] at hb; cases hb)
    · rename_i hne
      cases e with
      | normal => exact .block (hr _ _ _ _ _ _ h)
      | exit id => exact absurd h (hne _ _ _)
      | ret => exact .blockR (hr _ _ _ _ _ _ h)
  | loop b =>
    simp only at h
    split at h
    · rename_i h1; exact .loop (hr _ _ _ _ _ _ h1) (hr _ _ _ _ _ _ h)
    · rename_i hne
      cases e with
      | normal => exact absurd h (hne _ _)
      | exit id => exact .loopE (hr _ _ _ _ _ _ h)
      | ret => exact .loopR (hr _ _ _ _ _ _ h)
  | exit id => cases h; exact .exit
  | scope b => exact .scope (hr _ _ _ _ _ _ h)
  | ret => cases h; exact .ret
theorem xRun_ok : ∀ (n : Nat), RecOK x (xRun x n)
  | 0 => fun c fr aw e fr' aw' h => by cases h
  | n + 1 => xStep_ok (xRun_ok n)
theorem run_ok {n f : Nat} {args : List V} {aw : AW} {v : V} {aw' : AW} (h : xCall x (xRun x n) f args aw = some (v, aw')) : CallR x.tab f args aw v aw' := xCall_ok (xRun_ok n) h
end
end Go.AE
