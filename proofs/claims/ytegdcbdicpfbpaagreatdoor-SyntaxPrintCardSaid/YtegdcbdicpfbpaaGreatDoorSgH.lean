/- A part of the proof: Ae39, STab, W1, W2, W3. -/
import Derived.Test.YtegdcbdicpfbpaaGreatDoorSgG
import Derived.Lib.ParseIntB
import Derived.Lib.Join
import Derived.Lib.LaidTab
import Derived.Lib.AppendIntMem
import Derived.Lib.AtoiErrMem
import Derived.Shelf.Strconv.Itoa4
import Derived.Shelf.Strconv.ParseIntPublic10
import Derived.Shelf.Strings.OnBuilder
import Derived.LaidSub
import GoSem.ClaimSeven
import Derived.Test.YtegdcbdicpfbpaaGreatDoorSgE
set_option linter.unusedVariables false
set_option linter.unusedSectionVars false
set_option linter.unusedSimpArgs false
namespace Go.AE
open Delphi Go.RowKit
variable [Globs]
section
def ParsesAt (P : Program) (f : Nat) : Prop := ∀ (s : ByteArray) (v : Int) (w : World), s.size ≤ 16 → Lib.parseIntB 64 s.data.toList = .ok v →
  Calls P f #[.string s, .int .i64 10, .int .i64 64] w fun e w' => e = .returned (.tuple #[.int .i64 v, .nilIface]) ∧ Below w.heap.size w w'
def parseI (args : List V) (aw : AW) : Option (V × AW) :=
  match args with
  | [.str s, .int .i64 10, .int .i64 64] => if numT s = true ∧ s.length ≤ 16 then some (.tuple [.int .i64 (numV s), .niliface], aw) else none
  | _ => none
theorem u8_digit {b : UInt8} (h : isDigit b.toNat = true) : 48 ≤ b.toNat ∧ b.toNat ≤ 57 := by
  unfold isDigit at h
  simp only [Bool.and_eq_true, decide_eq_true_eq] at h
  exact h
theorem foldDig_le : ∀ (l : List UInt8) (n k : Nat), n < 10 ^ k → (∀ b ∈ l, isDigit b.toNat = true) → (l.map (·.toNat)).foldl rDig n < 10 ^ (k + l.length)
  | [], n, k, h, _ => by simpa using h
  | b :: l, n, k, h, hd => by
    have h1 := u8_digit (hd b (by simp))
    rw [List.map_cons, List.foldl_cons, digit_step (hd b (by simp)), List.length_cons, Nat.add_comm l.length 1, ← Nat.add_assoc]
    refine foldDig_le l _ (k + 1) ?_ fun x hx => hd x (by simp [hx])
    rw [Nat.pow_succ]; omega
theorem parseM : ∀ (l : List UInt8) (n k : Nat), n < 10 ^ k → k + l.length ≤ 16 → (∀ b ∈ l, isDigit b.toNat = true) → Lib.parseUintM 18446744073709551615 n l = .ok ((l.map (·.toNat)).foldl rDig n)
  | [], n, k, h, _, _ => rfl
  | b :: l, n, k, h, hk, hd => by
    have h1 := u8_digit (hd b (by simp))
    rw [List.length_cons] at hk
    have h10 : 10 ^ k ≤ 10 ^ 15 := Nat.pow_le_pow_right (by omega) (by omega)
    rw [List.map_cons, List.foldl_cons, digit_step (hd b (by simp))]
    unfold Lib.parseUintM
    rw [if_pos h1, if_neg (by omega), if_neg (by omega)]
    exact parseM l _ (k + 1) (by rw [Nat.pow_succ]; omega) (by omega) fun x hx => hd x (by simp [hx])
theorem parse_num {s : ByteArray} (h : numT (strL s) = true) (hl : s.size ≤ 16) : Lib.parseIntB 64 s.data.toList = .ok (numV (strL s)) := by
  have hlen : s.data.toList.length ≤ 16 := by rw [Array.length_toList]; exact hl
  unfold numT at h
  unfold numV rNum
  unfold strL at h ⊢
  generalize s.data.toList = l at h hlen ⊢
  cases l with
  | nil => simp at h
  | cons c r =>
    simp only [List.map_cons, List.head?_cons, Option.some.injEq, List.drop_succ_cons, List.drop_zero, Bool.and_eq_true, Bool.not_eq_true', List.all_eq_true] at h ⊢
    have e64 : (2 : Nat) ^ 64 - 1 = 18446744073709551615 := by decide
    have e63 : (2 : Nat) ^ (64 - 1) = 9223372036854775808 := by decide
    unfold Lib.parseIntB
    simp only
    by_cases h45 : c.toNat = 45
    · rw [if_pos h45] at h
      rw [if_pos h45, if_pos (.inr h45)]
      obtain ⟨h1, h2⟩ := h
      have hd : ∀ b ∈ r, isDigit b.toNat = true := fun b hb => h2 b.toNat (by simp only [List.mem_map]; exact ⟨b, hb, rfl⟩)
      have hr : r ≠ [] := by intro he; rw [he] at h1; simp at h1
      rw [List.length_cons] at hlen
      have hp := parseM r 0 0 (by simp) (by omega) hd
      have hle := foldDig_le r 0 0 (by simp) hd
      have h15 : 10 ^ (0 + r.length) ≤ 10 ^ 15 := Nat.pow_le_pow_right (by omega) (by omega)
      unfold Lib.parseUintB
      rw [if_neg hr, e64, hp, e63]
      have hz : (c.toNat :: r.map (·.toNat)).foldl rDig 0 = (r.map (·.toNat)).foldl rDig 0 := by
        rw [List.foldl_cons]; congr 1; unfold rDig; rw [if_pos h45]
      simp only [h45, not_true_eq_false, false_and, if_false, true_and]
      rw [if_neg (by omega), if_pos trivial]
      rw [h45] at hz
      rw [hz]
    · rw [if_neg h45] at h
      rw [if_neg h45]
      obtain ⟨h1, h2⟩ := h
      have hd : ∀ b ∈ c :: r, isDigit b.toNat = true := fun b hb => h2 b.toNat (by
        rcases List.mem_cons.1 hb with rfl | hb
        · simp
        · rw [List.mem_cons]; right; rw [List.mem_map]; exact ⟨b, hb, rfl⟩)
      have h43 : ¬ (c.toNat = 43 ∨ c.toNat = 45) := by
        have := u8_digit (hd c (by simp)); omega
      rw [if_neg h43]
      have hp := parseM (c :: r) 0 0 (by simp) (by omega) hd
      have hle := foldDig_le (c :: r) 0 0 (by simp) hd
      have h16 : 10 ^ (0 + (c :: r).length) ≤ 10 ^ 16 := Nat.pow_le_pow_right (by omega) (by omega)
      unfold Lib.parseUintB
      rw [if_neg (by simp), e64, hp, e63]
      simp only [h45, not_false_eq_true, true_and, false_and, if_false]
      rw [if_neg (by omega)]
      rfl
theorem parseI_ok {P : Program} {f : Nat} (hF : ParsesAt P f) {args : List V} {aw : AW} {v : V} {aw' : AW} (h : parseI args aw = some (v, aw')) (w : World) (m : Map) (base : Nat) (args' : Array Value) (hR : R aw w m base) (hargs : VRs m args args'.toList) :
    Calls P f args' w fun r w' => ∃ v' m', r = .returned v' ∧ VR m' v v' ∧ R aw' w' m' base ∧ Goes aw aw' w w' m m' := by
  unfold parseI at h
  split at h
  · rename_i s
    split at h
    · rename_i hn
      cases h
      obtain ⟨x, r1, e1, ⟨t, hx, hs⟩, e2⟩ := hargs
      obtain ⟨y, r2, e3, hy, e4⟩ := e2
      obtain ⟨z, r3, e5, hz, e6⟩ := e4
      cases e6
      have hy' : y = .int .i64 10 := hy
      have hz' : z = .int .i64 64 := hz
      subst hx; subst hy'; subst hz'; subst hs
      obtain rfl : args' = #[.string t, .int .i64 10, .int .i64 64] := by cases args'; simp_all
      have hsz : t.size ≤ 16 := by have := hn.2; rw [strL_length] at this; exact this
      refine (hF t _ w hsz (parse_num hn.1 hsz)).mono ?_
      rintro r w' ⟨rfl, hbel⟩
      obtain ⟨q1, q2⟩ := hR.below hbel
      exact ⟨_, m, rfl, ⟨_, rfl, _, _, rfl, rfl, _, _, rfl, rfl, rfl⟩, q1, q2⟩
    · cases h
  · cases h
def JoinsAt (P : Program) (f : Nat) : Prop :=
  (∀ (a : Option Addr) (c : Nat) (w : World), Calls P f #[.slice a 0 c, .string ⟨#[44, 32]⟩] w fun e w' => e = .returned (.string ⟨#[]⟩) ∧ w' = w) ∧
  ∀ (bk o c : Nat) (xs : List ByteArray) (w : World), (∀ (j : Nat) x, xs[j]? = some x → w.cell? ⟨bk, o + j, none⟩ = some (.string x)) → bk < w.heap.size → xs.length ≤ 140737488355328 → xs.length ≤ c →
    (Lib.join (xs.map (·.data.toList)) [44, 32]).length ≤ 140737488355328 →
    Calls P f #[.slice (some ⟨bk, o, none⟩) xs.length c, .string ⟨#[44, 32]⟩] w fun e w' => e = .returned (.string ⟨(Lib.join (xs.map (·.data.toList)) [44, 32]).toArray⟩) ∧ Below w.heap.size w w'
def strsV : List V → Option (List (List Nat))
  | [] => some []
  | .str s :: l => match strsV l with
    | some r => some (s :: r)
    | none => none
  | _ :: _ => none
def joinFit : V → Bool
  | .nilslice => true
  | .slice _ _ n (.known c) => Nat.ble n c
  | .slice _ _ _ (.upTo _) => true
  | _ => false
def joinI (args : List V) (aw : AW) : Option (V × AW) :=
  match args with
  | [v, .str [44, 32]] => match joinFit v, aw.elems 1 v with
    | true, some (_, cs) => match strsV cs with
      | some l => if (joinN l).length ≤ 100000000000000 ∧ l.length ≤ 1000 then some (.str (joinN l), aw) else none
      | none => none
    | _, _ => none
  | _ => none
theorem strsV_map : ∀ (l : List (List Nat)), strsV (l.map V.str) = some l
  | [] => rfl
  | s :: l => by simp only [List.map_cons, strsV, strsV_map l]
theorem strsV_inv {m : Map} : ∀ {cs : List V} {l : List (List Nat)} {ys : List Value}, strsV cs = some l → VRs m cs ys → ∃ xs : List ByteArray, ys = xs.map Value.string ∧ l = xs.map strL
  | [], l, ys, h, hr => by cases h; cases hr; exact ⟨[], rfl, rfl⟩
  | c :: cs, l, ys, h, hr => by
    cases c <;> simp only [strsV] at h
    case str s =>
      split at h
      · rename_i r hr'
        cases h
        obtain ⟨y, ys', rfl, ⟨t, rfl, rfl⟩, h2⟩ := hr
        obtain ⟨xs, rfl, rfl⟩ := strsV_inv hr' h2
        exact ⟨t :: xs, rfl, rfl⟩
      · cases h
    all_goals cases h
theorem join_eq (xs : List ByteArray) : joinN (xs.map strL) = (Lib.join (xs.map (·.data.toList)) [44, 32]).map (·.toNat) := by
  cases xs with
  | nil => rfl
  | cons x xs =>
    rw [List.map_cons, List.map_cons, Lib.join_cons]
    simp only [joinN, Lib.joinTail, List.map_append, List.flatMap_map]
    congr 1
    induction xs with
    | nil => rfl
    | cons y ys ih =>
      simp only [List.flatMap_cons, List.map_cons, List.flatten_cons, List.map_append, ih]
      rfl
theorem joinI_ok {P : Program} {f : Nat} (hF : JoinsAt P f) {args : List V} {aw : AW} {v : V} {aw' : AW} (h : joinI args aw = some (v, aw')) (w : World) (m : Map) (base : Nat) (args' : Array Value) (hR : R aw w m base) (hargs : VRs m args args'.toList) :
    Calls P f args' w fun r w' => ∃ v' m', r = .returned v' ∧ VR m' v v' ∧ R aw' w' m' base ∧ Goes aw aw' w w' m m' := by
  unfold joinI at h
  split at h
  · rename_i v0
    split at h
    · rename_i n cs hfit hel
      split at h
      · rename_i l hl
        split at h
        · rename_i hsz
          cases h
          obtain ⟨x, r1, e1, hx, e2⟩ := hargs
          obtain ⟨y, r2, e3, ⟨t, hy, ht⟩, e4⟩ := e2
          cases e4
          have ht' : t = ⟨#[44, 32]⟩ := by
            have h1 : t.data.toList.map (·.toNat) = [44, 32] := ht
            have h2 : t.data.toList = [44, 32] := by
              cases hh : t.data.toList with
              | nil => rw [hh] at h1; simp at h1
              | cons a r =>
                cases r with
                | nil => rw [hh] at h1; simp at h1
                | cons b r =>
                  cases r with
                  | nil =>
                    rw [hh] at h1
                    simp only [List.map_cons, List.map_nil, List.cons.injEq, and_true] at h1
                    rw [show a = 44 from UInt8.toNat_inj.1 h1.1, show b = 32 from UInt8.toNat_inj.1 h1.2]
                  | cons c r => rw [hh] at h1; simp at h1
            apply ByteArray.ext
            apply Array.ext'
            rw [h2]
          subst hy; subst ht'
          obtain rfl : args' = #[x, .string ⟨#[44, 32]⟩] := by cases args'; simp_all
          have noneC : ∀ (a : Option Addr) (c : Nat), l = [] → x = .slice a 0 c → Calls P f #[x, .string ⟨#[44, 32]⟩] w fun r w' => ∃ v' m', r = .returned v' ∧ VR m' (.str (joinN l)) v' ∧ R aw w' m' base ∧ Goes aw aw w w' m m' := by
            intro a c hl0 hxx
            subst hl0; subst hxx
            refine (hF.1 a c w).mono ?_
            rintro r w' ⟨rfl, rfl⟩
            obtain ⟨q1, q2⟩ := hR.below (Below.refl _ _)
            exact ⟨_, m, rfl, ⟨_, rfl, rfl⟩, q1, q2⟩
          cases v0 with
          | nilslice =>
            cases hel; cases hl; cases hx
            exact noneC _ _ rfl rfl
          | slice b off len cap =>
            have hcap : ∀ {c}, cap = .known c → len ≤ c := by
              rintro c rfl; exact Nat.le_of_ble_eq_true hfit
            cases len with
            | zero =>
              cases hel; cases hl
              obtain ⟨e, _, h2⟩ := hx
              cases cap with
              | known c => simp only [] at h2; exact noneC _ _ rfl h2
              | upTo z => obtain ⟨ad, cp, h3, _⟩ := h2; exact noneC _ _ rfl h3
            | succ len =>
              have hel : (match aw.load b off ((len + 1) * 1) with | some l => some (len + 1, l) | none => none) = some (n, cs) := hel
              split at hel
              · rename_i l' hl'
                cases hel
                obtain ⟨e, hm, h2⟩ := hx
                obtain ⟨ys, y1, y2, y3⟩ := load_cells hR hm hl'
                obtain ⟨xs, rfl, rfl⟩ := strsV_inv hl y2
                rw [List.length_map] at y1
                have hcells : ∀ (j : Nat) z, xs[j]? = some z → w.cell? ⟨e.c, e.s + off + j, none⟩ = some (.string z) := by
                  intro j z hj
                  have h9 := y3 j _ (by rw [List.getElem?_map, hj]; rfl)
                  by_cases h0 : j = 0
                  · subst h0; simpa [Addr.add] using h9
                  · simpa [Addr.add, h0] using h9
                have hbk : e.c < w.heap.size := by
                  obtain ⟨z, hz⟩ : ∃ z, xs[0]? = some z := ⟨_, List.getElem?_eq_getElem (by omega)⟩
                  have := hcells 0 z hz
                  unfold World.cell? at this
                  by_cases hlt : e.c < w.heap.size
                  · exact hlt
                  · rw [Array.getElem?_eq_none (by show w.heap.size ≤ e.c; omega)] at this
                    cases this
                have hj := join_eq xs
                have hjl : (Lib.join (xs.map (·.data.toList)) [44, 32]).length ≤ 140737488355328 := by
                  have := congrArg List.length hj
                  rw [List.length_map] at this
                  rw [← this]; have := hsz.1; omega
                have fine : ∀ c, xs.length ≤ c → x = .slice (some ⟨e.c, e.s + off, Option.none⟩) xs.length c → Calls P f #[x, .string ⟨#[44, 32]⟩] w fun r w' => ∃ v' m', r = .returned v' ∧ VR m' (.str (joinN (xs.map strL))) v' ∧ R aw w' m' base ∧ Goes aw aw w w' m m' := by
                  intro c hc hxx
                  subst hxx
                  refine (hF.2 e.c (e.s + off) c xs w hcells hbk (by have := hsz.2; rw [List.length_map] at this; omega) hc hjl).mono ?_
                  rintro r w' ⟨rfl, hbel⟩
                  obtain ⟨q1, q2⟩ := hR.below hbel
                  refine ⟨_, m, rfl, ⟨_, rfl, ?_⟩, q1, q2⟩
                  rw [hj]; simp [strL]
                have hlen : xs.length = len + 1 := by omega
                cases cap with
                | known c =>
                  simp only [] at h2
                  exact fine c (by have := hcap rfl; omega) (by rw [hlen]; exact h2)
                | upTo z =>
                  obtain ⟨ad, cp, h3, hle, hcase⟩ := h2
                  rcases hcase with ⟨rfl, _⟩ | h0
                  · exact fine cp (by omega) (by rw [hlen]; exact h3)
                  · omega
              · cases hel
          | _ => cases hfit
        · cases h
      · cases h
    · cases h
  · cases h
end
end Go.AE
set_option linter.unusedVariables false
set_option maxRecDepth 100000
namespace Go.Proofs.YtegdcbdicpfbpaaGreatDoor
open Go.AE Go.RowKit Go.Shelf Delphi
def zFormat_ren : Go.Shelf.Ren := ⟨fun | 173 => 109 | 246 => 130 | 283 => 148 | 284 => 149 | 285 => 150 | 286 => 151 | 129 => 157 | 317 => 156 | 318 => 158 | 319 => 159 | 320 => 160 | 337 => 167 | 338 => 168 | n => n, fun | 2 => 2 | 3 => 3 | 9 => 9 | 4 => 4 | 171 => 209 | 0 => 0 | 53 => 210 | 37 => 143 | 5 => 5 | 173 => 213 | 212 => 219 | 51 => 220 | 20 => 20 | 213 => 221 | 46 => 190 | 232 => 235 | 233 => 236 | n => n, fun | 17 => 1 | 18 => 4 | 19 => 5 | n => n⟩
theorem zFormat : Go.Proofs.LaysM.n173 Tryz.prog zFormat_ren where
  mixed := by kernel_rfl
  f129 := Tryz.func157.trans (congrArg some (by kernel_rfl))
  f173 := Tryz.func109.trans (congrArg some (by kernel_rfl))
  f246 := Tryz.func130.trans (congrArg some (by kernel_rfl))
  f283 := Tryz.func148.trans (congrArg some (by kernel_rfl))
  f284 := Tryz.func149.trans (congrArg some (by kernel_rfl))
  f285 := Tryz.func150.trans (congrArg some (by kernel_rfl))
  f286 := Tryz.func151.trans (congrArg some (by kernel_rfl))
  f317 := Tryz.func156.trans (congrArg some (by kernel_rfl))
  f318 := Tryz.func158.trans (congrArg some (by kernel_rfl))
  f319 := Tryz.func159.trans (congrArg some (by kernel_rfl))
  f320 := Tryz.func160.trans (congrArg some (by kernel_rfl))
  f337 := Tryz.func167.trans (congrArg some (by kernel_rfl))
  f338 := Tryz.func168.trans (congrArg some (by kernel_rfl))
  t0 := Tryz.underlying0
  a0 := Tryz.isAgg0
  z0 := Tryz.sizeOf0
  v0 := Tryz.zeroValue0
  t2 := Tryz.underlying2
  a2 := Tryz.isAgg2
  z2 := Tryz.sizeOf2
  v2 := Tryz.zeroValue2
  t3 := Tryz.underlying3
  a3 := Tryz.isAgg3
  z3 := Tryz.sizeOf3
  v3 := Tryz.zeroValue3
  t4 := Tryz.underlying4
  a4 := Tryz.isAgg4
  z4 := Tryz.sizeOf4
  v4 := Tryz.zeroValue4
  t5 := Tryz.underlying5
  a5 := Tryz.isAgg5
  z5 := Tryz.sizeOf5
  v5 := Tryz.zeroValue5
  t9 := Tryz.underlying9
  a9 := Tryz.isAgg9
  z9 := Tryz.sizeOf9
  v9 := Tryz.zeroValue9
  t20 := Tryz.underlying20
  a20 := Tryz.isAgg20
  z20 := Tryz.sizeOf20
  v20 := Tryz.zeroValue20
  t37 := Tryz.underlying143
  a37 := Tryz.isAgg143
  z37 := Tryz.sizeOf143
  v37 := Tryz.zeroValue143
  t46 := Tryz.underlying190
  a46 := Tryz.isAgg190
  z46 := Tryz.sizeOf190
  v46 := Tryz.zeroValue190
  t51 := Tryz.underlying220
  a51 := Tryz.isAgg220
  z51 := Tryz.sizeOf220
  v51 := Tryz.zeroValue220
  t53 := Tryz.underlying210
  a53 := Tryz.isAgg210
  z53 := Tryz.sizeOf210
  v53 := Tryz.zeroValue210
  t171 := Tryz.underlying209
  a171 := Tryz.isAgg209
  z171 := Tryz.sizeOf209
  v171 := Tryz.zeroValue209
  t173 := Tryz.underlying213
  a173 := Tryz.isAgg213
  z173 := Tryz.sizeOf213
  v173 := Tryz.zeroValue213
  t212 := Tryz.underlying219
  a212 := Tryz.isAgg219
  z212 := Tryz.sizeOf219
  v212 := Tryz.zeroValue219
  t213 := Tryz.underlying221
  a213 := Tryz.isAgg221
  z213 := Tryz.sizeOf221
  t232 := Tryz.underlying235
  a232 := Tryz.isAgg235
  z232 := Tryz.sizeOf235
  v232 := Tryz.zeroValue235
  t233 := Tryz.underlying236
  a233 := Tryz.isAgg236
  z233 := Tryz.sizeOf236
  v233 := Tryz.zeroValue236
  g17 := by kernel_rfl
  g18 := by kernel_rfl
  g19 := by kernel_rfl
  i0 := by kernel_rfl
  i2 := by kernel_rfl
  i3 := by kernel_rfl
  i4 := by kernel_rfl
  i5 := by kernel_rfl
  i9 := by kernel_rfl
  i20 := by kernel_rfl
  i37 := by kernel_rfl
  i46 := by kernel_rfl
  i51 := by kernel_rfl
  i53 := by kernel_rfl
  i171 := by kernel_rfl
  i173 := by kernel_rfl
  i212 := by kernel_rfl
  i232 := by kernel_rfl
  i233 := by kernel_rfl
  m17 := by kernel_rfl
  m18 := by kernel_rfl
  m19 := by kernel_rfl
def zParse_ren : Go.Shelf.Ren := ⟨fun | 174 => 142 | 247 => 154 | 245 => 155 | 287 => 162 | 279 => 163 | 280 => 164 | 281 => 165 | 282 => 166 | 321 => 169 | 322 => 170 | 316 => 171 | 171 => 122 | 205 => 172 | 243 => 145 | 246 => 130 | 283 => 148 | 284 => 149 | 285 => 150 | 286 => 151 | 129 => 157 | 317 => 156 | 318 => 158 | 319 => 159 | 320 => 160 | 337 => 167 | 338 => 168 | n => n, fun | 9 => 9 | 3 => 3 | 2 => 2 | 75 => 147 | 85 => 198 | 4 => 4 | 167 => 223 | 5 => 5 | 53 => 210 | 175 => 224 | 46 => 190 | 168 => 226 | 37 => 143 | 0 => 0 | 210 => 233 | 21 => 21 | 127 => 173 | 145 => 239 | 143 => 237 | 171 => 209 | 173 => 213 | 212 => 219 | 51 => 220 | 20 => 20 | 213 => 221 | 232 => 235 | 233 => 236 | 80 => 150 | n => n, fun | 15 => 2 | 16 => 3 | 17 => 1 | 18 => 4 | 19 => 5 | n => n⟩
theorem zParse : Go.Proofs.LaysC.n174 Tryz.prog zParse_ren where
  mixed := by kernel_rfl
  f129 := Tryz.func157.trans (congrArg some (by kernel_rfl))
  f171 := Tryz.func122.trans (congrArg some (by kernel_rfl))
  f174 := Tryz.func142.trans (congrArg some (by kernel_rfl))
  f205 := Tryz.func172.trans (congrArg some (by kernel_rfl))
  f243 := Tryz.func145.trans (congrArg some (by kernel_rfl))
  f245 := Tryz.func155.trans (congrArg some (by kernel_rfl))
  f246 := Tryz.func130.trans (congrArg some (by kernel_rfl))
  f247 := Tryz.func154.trans (congrArg some (by kernel_rfl))
  f279 := Tryz.func163.trans (congrArg some (by kernel_rfl))
  f280 := Tryz.func164.trans (congrArg some (by kernel_rfl))
  f281 := Tryz.func165.trans (congrArg some (by kernel_rfl))
  f282 := Tryz.func166.trans (congrArg some (by kernel_rfl))
  f283 := Tryz.func148.trans (congrArg some (by kernel_rfl))
  f284 := Tryz.func149.trans (congrArg some (by kernel_rfl))
  f285 := Tryz.func150.trans (congrArg some (by kernel_rfl))
  f286 := Tryz.func151.trans (congrArg some (by kernel_rfl))
  f287 := Tryz.func162.trans (congrArg some (by kernel_rfl))
  f316 := Tryz.func171.trans (congrArg some (by kernel_rfl))
  f317 := Tryz.func156.trans (congrArg some (by kernel_rfl))
  f318 := Tryz.func158.trans (congrArg some (by kernel_rfl))
  f319 := Tryz.func159.trans (congrArg some (by kernel_rfl))
  f320 := Tryz.func160.trans (congrArg some (by kernel_rfl))
  f321 := Tryz.func169.trans (congrArg some (by kernel_rfl))
  f322 := Tryz.func170.trans (congrArg some (by kernel_rfl))
  f337 := Tryz.func167.trans (congrArg some (by kernel_rfl))
  f338 := Tryz.func168.trans (congrArg some (by kernel_rfl))
  t0 := Tryz.underlying0
  a0 := Tryz.isAgg0
  z0 := Tryz.sizeOf0
  v0 := Tryz.zeroValue0
  t2 := Tryz.underlying2
  a2 := Tryz.isAgg2
  z2 := Tryz.sizeOf2
  v2 := Tryz.zeroValue2
  t3 := Tryz.underlying3
  a3 := Tryz.isAgg3
  z3 := Tryz.sizeOf3
  v3 := Tryz.zeroValue3
  t4 := Tryz.underlying4
  a4 := Tryz.isAgg4
  z4 := Tryz.sizeOf4
  v4 := Tryz.zeroValue4
  t5 := Tryz.underlying5
  a5 := Tryz.isAgg5
  z5 := Tryz.sizeOf5
  v5 := Tryz.zeroValue5
  t9 := Tryz.underlying9
  a9 := Tryz.isAgg9
  z9 := Tryz.sizeOf9
  v9 := Tryz.zeroValue9
  t20 := Tryz.underlying20
  a20 := Tryz.isAgg20
  z20 := Tryz.sizeOf20
  v20 := Tryz.zeroValue20
  t21 := Tryz.underlying21
  a21 := Tryz.isAgg21
  z21 := Tryz.sizeOf21
  v21 := Tryz.zeroValue21
  t37 := Tryz.underlying143
  a37 := Tryz.isAgg143
  z37 := Tryz.sizeOf143
  v37 := Tryz.zeroValue143
  t46 := Tryz.underlying190
  a46 := Tryz.isAgg190
  z46 := Tryz.sizeOf190
  v46 := Tryz.zeroValue190
  t51 := Tryz.underlying220
  a51 := Tryz.isAgg220
  z51 := Tryz.sizeOf220
  v51 := Tryz.zeroValue220
  t53 := Tryz.underlying210
  a53 := Tryz.isAgg210
  z53 := Tryz.sizeOf210
  v53 := Tryz.zeroValue210
  t75 := Tryz.underlying147
  a75 := Tryz.isAgg147
  z75 := Tryz.sizeOf147
  v75 := Tryz.zeroValue147
  t85 := Tryz.underlying198
  a85 := Tryz.isAgg198
  z85 := Tryz.sizeOf198
  v85 := Tryz.zeroValue198
  t127 := Tryz.underlying173
  a127 := Tryz.isAgg173
  z127 := Tryz.sizeOf173
  v127 := Tryz.zeroValue173
  t143 := Tryz.underlying237
  a143 := Tryz.isAgg237
  z143 := Tryz.sizeOf237
  v143 := Tryz.zeroValue237
  t145 := Tryz.underlying239
  a145 := Tryz.isAgg239
  z145 := Tryz.sizeOf239
  v145 := Tryz.zeroValue239
  t167 := Tryz.underlying223
  a167 := Tryz.isAgg223
  z167 := Tryz.sizeOf223
  v167 := Tryz.zeroValue223
  t168 := Tryz.underlying226
  a168 := Tryz.isAgg226
  z168 := Tryz.sizeOf226
  v168 := Tryz.zeroValue226
  t171 := Tryz.underlying209
  a171 := Tryz.isAgg209
  z171 := Tryz.sizeOf209
  v171 := Tryz.zeroValue209
  t173 := Tryz.underlying213
  a173 := Tryz.isAgg213
  z173 := Tryz.sizeOf213
  v173 := Tryz.zeroValue213
  t175 := Tryz.underlying224
  a175 := Tryz.isAgg224
  z175 := Tryz.sizeOf224
  v175 := Tryz.zeroValue224
  t210 := Tryz.underlying233
  a210 := Tryz.isAgg233
  z210 := Tryz.sizeOf233
  v210 := Tryz.zeroValue233
  t212 := Tryz.underlying219
  a212 := Tryz.isAgg219
  z212 := Tryz.sizeOf219
  v212 := Tryz.zeroValue219
  t213 := Tryz.underlying221
  a213 := Tryz.isAgg221
  z213 := Tryz.sizeOf221
  t232 := Tryz.underlying235
  a232 := Tryz.isAgg235
  z232 := Tryz.sizeOf235
  v232 := Tryz.zeroValue235
  t233 := Tryz.underlying236
  a233 := Tryz.isAgg236
  z233 := Tryz.sizeOf236
  v233 := Tryz.zeroValue236
  g15 := by kernel_rfl
  g16 := by kernel_rfl
  g17 := by kernel_rfl
  g18 := by kernel_rfl
  g19 := by kernel_rfl
  t80 := Tryz.underlying150
  a80 := Tryz.isAgg150
  z80 := Tryz.sizeOf150
  v80 := Tryz.zeroValue150
  i0 := by kernel_rfl
  i2 := by kernel_rfl
  i3 := by kernel_rfl
  i4 := by kernel_rfl
  i5 := by kernel_rfl
  i9 := by kernel_rfl
  i20 := by kernel_rfl
  i21 := by kernel_rfl
  i37 := by kernel_rfl
  i46 := by kernel_rfl
  i51 := by kernel_rfl
  i53 := by kernel_rfl
  i75 := by kernel_rfl
  i80 := by kernel_rfl
  i85 := by kernel_rfl
  i127 := by kernel_rfl
  i143 := by kernel_rfl
  i145 := by kernel_rfl
  i167 := by kernel_rfl
  i168 := by kernel_rfl
  i171 := by kernel_rfl
  i173 := by kernel_rfl
  i175 := by kernel_rfl
  i210 := by kernel_rfl
  i212 := by kernel_rfl
  i232 := by kernel_rfl
  i233 := by kernel_rfl
  m15 := by kernel_rfl
  m16 := by kernel_rfl
  m17 := by kernel_rfl
  m18 := by kernel_rfl
  m19 := by kernel_rfl
  c0 := by kernel_rfl
  c2 := by kernel_rfl
  c3 := by kernel_rfl
  c4 := by kernel_rfl
  c5 := by kernel_rfl
  c9 := by kernel_rfl
  c20 := by kernel_rfl
  c21 := by kernel_rfl
  c37 := by kernel_rfl
  c46 := by kernel_rfl
  c51 := by kernel_rfl
  c53 := by kernel_rfl
  c75 := by kernel_rfl
  c80 := by kernel_rfl
  c85 := by kernel_rfl
  c127 := by kernel_rfl
  c143 := by kernel_rfl
  c145 := by kernel_rfl
  c167 := by kernel_rfl
  c168 := by kernel_rfl
  c171 := by kernel_rfl
  c173 := by kernel_rfl
  c175 := by kernel_rfl
  c210 := by kernel_rfl
  c212 := by kernel_rfl
  c213 := by kernel_rfl
  c232 := by kernel_rfl
  c233 := by kernel_rfl
def zJoin_ren : Go.Shelf.Ren := ⟨fun | 156 => 46 | 165 => 77 | 166 => 78 | 169 => 79 | 240 => 110 | 241 => 111 | 276 => 131 | 277 => 132 | n => n, fun | 31 => 98 | 9 => 9 | 3 => 3 | 4 => 4 | 0 => 0 | 20 => 20 | 72 => 145 | 76 => 148 | 70 => 142 | 37 => 143 | 75 => 147 | 127 => 173 | 164 => 192 | 5 => 5 | 80 => 150 | n => n, fun | n => n⟩
theorem zJoin : Go.Proofs.Lays.n156 Tryz.prog zJoin_ren where
  mixed := by kernel_rfl
  f156 := Tryz.func46.trans (congrArg some (by kernel_rfl))
  f165 := Tryz.func77.trans (congrArg some (by kernel_rfl))
  f166 := Tryz.func78.trans (congrArg some (by kernel_rfl))
  f169 := Tryz.func79.trans (congrArg some (by kernel_rfl))
  f240 := Tryz.func110.trans (congrArg some (by kernel_rfl))
  f241 := Tryz.func111.trans (congrArg some (by kernel_rfl))
  f276 := Tryz.func131.trans (congrArg some (by kernel_rfl))
  f277 := Tryz.func132.trans (congrArg some (by kernel_rfl))
  t0 := Tryz.underlying0
  a0 := Tryz.isAgg0
  z0 := Tryz.sizeOf0
  v0 := Tryz.zeroValue0
  t3 := Tryz.underlying3
  a3 := Tryz.isAgg3
  z3 := Tryz.sizeOf3
  v3 := Tryz.zeroValue3
  t4 := Tryz.underlying4
  a4 := Tryz.isAgg4
  z4 := Tryz.sizeOf4
  v4 := Tryz.zeroValue4
  t9 := Tryz.underlying9
  a9 := Tryz.isAgg9
  z9 := Tryz.sizeOf9
  v9 := Tryz.zeroValue9
  t20 := Tryz.underlying20
  a20 := Tryz.isAgg20
  z20 := Tryz.sizeOf20
  v20 := Tryz.zeroValue20
  t31 := Tryz.underlying98
  a31 := Tryz.isAgg98
  z31 := Tryz.sizeOf98
  v31 := Tryz.zeroValue98
  t37 := Tryz.underlying143
  a37 := Tryz.isAgg143
  z37 := Tryz.sizeOf143
  v37 := Tryz.zeroValue143
  t70 := Tryz.underlying142
  a70 := Tryz.isAgg142
  z70 := Tryz.sizeOf142
  v70 := Tryz.zeroValue142
  t72 := Tryz.underlying145
  a72 := Tryz.isAgg145
  z72 := Tryz.sizeOf145
  v72 := Tryz.zeroValue145
  t75 := Tryz.underlying147
  a75 := Tryz.isAgg147
  z75 := Tryz.sizeOf147
  v75 := Tryz.zeroValue147
  t76 := Tryz.underlying148
  a76 := Tryz.isAgg148
  z76 := Tryz.sizeOf148
  v76 := Tryz.zeroValue148
  t127 := Tryz.underlying173
  a127 := Tryz.isAgg173
  z127 := Tryz.sizeOf173
  v127 := Tryz.zeroValue173
  t164 := Tryz.underlying192
  a164 := Tryz.isAgg192
  z164 := Tryz.sizeOf192
  v164 := Tryz.zeroValue192
theorem zExtra : Go.Proofs.Builder.Extra Tryz.prog zJoin_ren where
  sizeBuilder := by kernel_rfl
  liesBuilder := by kernel_rfl
  t5 := Tryz.underlying5
  a5 := Tryz.isAgg5
  z5 := Tryz.sizeOf5
  v5 := Tryz.zeroValue5
  infoByte := by kernel_rfl
  cellsByte := by kernel_rfl
  sizeByte := by kernel_rfl
  neB5 := by decide
theorem var_at {w : World} {l : List Value} : (∃ t fz, w.heap[1]? = some (.cells l.toArray t fz)) ↔ w.var? Tryz.prog "internal/strconv.uint64pow10" = some l.toArray := by
  have hg : Tryz.prog.globalNamed "internal/strconv.uint64pow10" = some 1 := by kernel_rfl
  unfold World.var?
  rw [hg]
  constructor
  · rintro ⟨t, fz, h⟩
    simp [h]
  · intro h
    simp only [Option.bind_some] at h
    split at h
    · rename_i cs t fz hh
      cases h
      exact ⟨t, fz, hh⟩
    · cases h
theorem formats : FormatsAt Tryz.prog 109 1 := by
  intro n w h0 h1 hh
  have htab : Lib.TabIs Tryz.prog w "internal/strconv.uint64pow10" .u64 Lib.pow10Tab := by
    unfold Lib.TabIs
    exact var_at.1 hh
  refine (Any.strconv_FormatInt_10 zFormat n h0 h1 w htab).mono ?_
  rintro e w' ⟨rfl, k, os, rfl⟩
  exact ⟨rfl, Lib.below_grow _ _ (Nat.le_refl _) k os⟩
theorem parses : ParsesAt Tryz.prog 142 := by
  intro s v w hs hv
  refine (Any.strconv_ParseInt_10_at64_ok zParse s (by omega) v hv w).mono ?_
  rintro e w' ⟨rfl, hw⟩
  refine ⟨rfl, ?_⟩
  rcases hw with rfl | ⟨t, rfl⟩
  · exact Below.refl _ _
  · exact Lib.bytesWorld_below _ _ _
theorem joins : JoinsAt Tryz.prog 46 :=
  ⟨fun a c w => Any.strings_Join_none zJoin zExtra a c _ w, fun bk o c xs w h1 h2 h3 h4 h5 => Any.strings_Join zJoin zExtra bk o c xs _ w h1 h2 h3 h4 h5⟩
def baseT (P : Program) : XTab where
  code := (XTab.of P).code
  prim f args aw := match f with
    | 109 => formatI args aw
    | 142 => parseI args aw
    | 46 => joinI args aw
    | _ => Option.none
  ext f args aw := match f with
    | 161 => match extIdx args with
      | some v => some (v, aw)
      | Option.none => Option.none
    | _ => Option.none
theorem base_ok : TabOK Tryz.prog (baseT Tryz.prog).tab where
  mixed := by kernel_rfl
  code := (XTab.of_ok (P := Tryz.prog) (by kernel_rfl)).code
  prim f args aw v aw' h := by
    simp only [XTab.tab, baseT] at h
    split at h
    · exact ⟨⟨_, Tryz.func109, by kernel_rfl, by decide +kernel⟩, fun w m base args' hR hargs => formatI_ok formats rfl h w m base args' hR hargs⟩
    · exact ⟨⟨_, Tryz.func142, by kernel_rfl, by decide +kernel⟩, fun w m base args' hR hargs => parseI_ok parses h w m base args' hR hargs⟩
    · exact ⟨⟨_, Tryz.func46, by kernel_rfl, by decide +kernel⟩, fun w m base args' hR hargs => joinI_ok joins h w m base args' hR hargs⟩
    · cases h
  ext f args aw v aw' h w m base args' hR hargs := by
    simp only [XTab.tab, baseT] at h
    split at h
    · split at h
      · rename_i u hu
        cases h
        exact ext_still hR (extIdx_ok Tryz.func161 (by kernel_rfl) (by kernel_rfl) (by kernel_rfl) (by kernel_rfl) hu w m args' hargs)
      · cases h
    · cases h
theorem vrs_ints {m : Map} : ∀ {l : List V}, (∀ x ∈ l, ∃ k n, x = .int k n) → VRs m l (l.map toValI)
  | [], _ => rfl
  | x :: l, h => by
    obtain ⟨k, n, rfl⟩ := h x (by simp)
    exact ⟨_, _, rfl, rfl, vrs_ints fun y hy => h y (by simp [hy])⟩
theorem pow_ints : ∀ x ∈ pow10V, ∃ k n, x = .int k n := by
  intro x hx
  simp only [pow10V, List.mem_cons, List.not_mem_nil, or_false] at hx
  rcases hx with rfl | rfl | rfl | rfl | rfl | rfl | rfl | rfl | rfl | rfl | rfl | rfl | rfl | rfl | rfl | rfl | rfl | rfl | rfl | rfl <;> exact ⟨_, _, rfl⟩
theorem globs_one {w : World} (h : ∃ t fz, w.heap[1]? = some (.cells (pow10V.map toValI).toArray t fz)) : GlobsAre w := by
  intro i g l hi
  obtain ⟨t, fz, h⟩ := h
  cases i with
  | zero =>
    cases hi
    exact ⟨_, t, fz, h, vrs_ints pow_ints⟩
  | succ i => cases hi
theorem globs_laid {w : World} {l : List (String × DataW Unit)} (hl : laidMetH Tryz.prog l w)
    (hm : ("internal/strconv.uint64pow10", Lib.tabData .u64 Lib.pow10Tab) ∈ l.filter fun x => x.2.handleName?.isNone) : GlobsAre w := by
  obtain ⟨ps, hv, _⟩ := (laidMetH_iff.1 hl).1
  have go : ∀ {l : List (String × DataW Unit)} {ps : List MemPlace}, DataW.LaidVars Tryz.prog w l ps → ("internal/strconv.uint64pow10", Lib.tabData .u64 Lib.pow10Tab) ∈ l → GlobsAre w := by
    intro l
    induction l with
    | nil => intro ps _ h; cases h
    | cons x l ih =>
      intro ps h hm
      obtain ⟨n, d⟩ := x
      obtain ⟨g, t, cs, fuel, p, q, h1, h2, h3, h4, h5, _⟩ := h
      rcases List.mem_cons.1 hm with e | e
      · cases e
        have hg : Tryz.prog.globalNamed "internal/strconv.uint64pow10" = some 1 := by kernel_rfl
        rw [hg] at h1
        cases h1
        have ht : (Tryz.prog.globals[1]?).map (·.type) = some 219 := by kernel_rfl
        rw [ht] at h2
        cases h2
        have := Lib.cells_of_tab Tryz.underlying219 Tryz.underlying210 (by kernel_rfl) (by kernel_rfl) h4
        refine globs_one ?_
        have hx := (var_at (l := cs.toList)).2 (by simpa using h3)
        rw [this] at hx
        exact hx
      · exact ih h5 e
  exact go hv hm
theorem allRo_start {b : Nat} {x : Blk} (h : AW.start.heap.get b = some x) : ∃ l, x = .cells l .ro := by
  obtain ⟨_, _, l, _, _, h3⟩ := gblocks_get (k := 0) h
  exact ⟨l, h3⟩
def tabS (P : Program) : Tab := (baseT P).tab
end Go.Proofs.YtegdcbdicpfbpaaGreatDoor
set_option linter.unusedVariables false
set_option linter.unusedSectionVars false
set_option linter.unusedSimpArgs false
namespace Go.AE
variable [Globs]
section
variable {tab : Tab}
def WX (tab : Tab) (c : ACode) (fr : Fr) (aw : AW) (Q : AExit → Fr → AW → Prop) : Prop := ∃ e fr' aw', Exec tab c fr aw e fr' aw' ∧ Q e fr' aw'
def WO (tab : Tab) (l : List AOper) (fr : Fr) (aw : AW) (K : Fr → AW → Prop) : Prop := ∃ fr' aw', Ops tab l fr aw fr' aw' ∧ K fr' aw'
def W1 (tab : Tab) (o : AOper) (fr : Fr) (aw : AW) (K : V → AW → Prop) : Prop := ∃ v aw', One tab o fr aw v aw' ∧ K v aw'
def WF (tab : Tab) (f : Nat) (args : List V) (aw : AW) (K : V → AW → Prop) : Prop := ∃ v aw', CallR tab f args aw v aw' ∧ K v aw'
def WD (tab : Tab) (l : List DOper) (fr : Fr) (aw : AW) (K : List Stp → Fr → AW → Prop) : Prop := ∃ st fr' aw', Pass tab l fr aw st fr' aw' ∧ K st fr' aw'
theorem WX.mono {c : ACode} {fr : Fr} {aw : AW} {Q Q' : AExit → Fr → AW → Prop} (h : WX tab c fr aw Q) (hq : ∀ e f a, Q e f a → Q' e f a) : WX tab c fr aw Q' := by
  obtain ⟨e, f, a, h1, h2⟩ := h; exact ⟨e, f, a, h1, hq _ _ _ h2⟩
theorem WF.mono {f : Nat} {args : List V} {aw : AW} {K K' : V → AW → Prop} (h : WF tab f args aw K) (hk : ∀ v a, K v a → K' v a) : WF tab f args aw K' := by
  obtain ⟨v, a, h1, h2⟩ := h; exact ⟨v, a, h1, hk _ _ h2⟩
def onw (Q : AExit → Fr → AW → Prop) (N : Fr → AW → Prop) : AExit → Fr → AW → Prop
  | .normal, f, a => N f a
  | e, f, a => Q e f a
def inB (id : Nat) (Q : AExit → Fr → AW → Prop) : AExit → Fr → AW → Prop
  | .exit id', f, a => if id' = id then Q .normal f a else Q (.exit id') f a
  | e, f, a => Q e f a
@[simp] theorem onw_normal {Q : AExit → Fr → AW → Prop} {N : Fr → AW → Prop} {f : Fr} {a : AW} : onw Q N .normal f a = N f a := rfl
@[simp] theorem onw_exit {Q : AExit → Fr → AW → Prop} {N : Fr → AW → Prop} {f : Fr} {a : AW} {id : Nat} : onw Q N (.exit id) f a = Q (.exit id) f a := rfl
@[simp] theorem onw_ret {Q : AExit → Fr → AW → Prop} {N : Fr → AW → Prop} {f : Fr} {a : AW} : onw Q N .ret f a = Q .ret f a := rfl
@[simp] theorem inB_normal {Q : AExit → Fr → AW → Prop} {f : Fr} {a : AW} {id : Nat} : inB id Q .normal f a = Q .normal f a := rfl
@[simp] theorem inB_exit {Q : AExit → Fr → AW → Prop} {f : Fr} {a : AW} {id id' : Nat} : inB id Q (.exit id') f a = if id' = id then Q .normal f a else Q (.exit id') f a := rfl
@[simp] theorem inB_ret {Q : AExit → Fr → AW → Prop} {f : Fr} {a : AW} {id : Nat} : inB id Q .ret f a = Q .ret f a := rfl
def condK (o : Option V) (A B : Prop) : Prop :=
  match o with
  | some (.bool b) => bif b then A else B
  | _ => False
theorem condK_of {b : Bool} {A B : Prop} (h1 : b = true → A) (h2 : b = false → B) : condK (some (.bool b)) A B := by
  cases b
  · exact h2 rfl
  · exact h1 rfl
theorem WX_skip {fr : Fr} {aw : AW} {Q : AExit → Fr → AW → Prop} : WX tab .skip fr aw Q = Q .normal fr aw := by
  refine propext ⟨?_, fun h => ⟨_, _, _, .skip, h⟩⟩
  rintro ⟨_, _, _, h1, h2⟩; cases h1; exact h2
theorem WX_ret {fr : Fr} {aw : AW} {Q : AExit → Fr → AW → Prop} : WX tab .ret fr aw Q = Q .ret fr aw := by
  refine propext ⟨?_, fun h => ⟨_, _, _, .ret, h⟩⟩
  rintro ⟨_, _, _, h1, h2⟩; cases h1; exact h2
theorem WX_exit {id : Nat} {fr : Fr} {aw : AW} {Q : AExit → Fr → AW → Prop} : WX tab (.exit id) fr aw Q = Q (.exit id) fr aw := by
  refine propext ⟨?_, fun h => ⟨_, _, _, .exit, h⟩⟩
  rintro ⟨_, _, _, h1, h2⟩; cases h1; exact h2
theorem WX_region {l : List AOper} {fr : Fr} {aw : AW} {Q : AExit → Fr → AW → Prop} : WX tab (.region l) fr aw Q = WO tab l fr aw (fun f a => Q .normal f a) := by
  refine propext ⟨?_, ?_⟩
  · rintro ⟨_, _, _, h1, h2⟩; cases h1; rename_i h; exact ⟨_, _, h, h2⟩
  · rintro ⟨_, _, h1, h2⟩; exact ⟨_, _, _, .region h1, h2⟩
theorem WX_drawn {l : List DOper} {fr : Fr} {aw : AW} {Q : AExit → Fr → AW → Prop} : WX tab (.drawn l) fr aw Q = WD tab l fr aw (fun st f a => drawnOK l st = true ∧ Q .normal f a) := by
  refine propext ⟨?_, ?_⟩
  · rintro ⟨_, _, _, h1, h2⟩; cases h1; rename_i h h'; exact ⟨_, _, _, h', h, h2⟩
  · rintro ⟨_, _, _, h1, h', h2⟩; exact ⟨_, _, _, .drawn h1 h', h2⟩
theorem WX_seq {a b : ACode} {fr : Fr} {aw : AW} {Q : AExit → Fr → AW → Prop} : WX tab (.seq a b) fr aw Q = WX tab a fr aw (onw Q fun f w => WX tab b f w Q) := by
  refine propext ⟨?_, ?_⟩
  · rintro ⟨_, _, _, h1, h2⟩
    cases h1 with
    | seq i1 i2 => exact ⟨_, _, _, i1, _, _, _, i2, h2⟩
    | seqE i1 => exact ⟨_, _, _, i1, h2⟩
    | seqR i1 => exact ⟨_, _, _, i1, h2⟩
  · rintro ⟨e, _, _, h1, h2⟩
    cases e with
    | normal => obtain ⟨_, _, _, i2, h3⟩ := h2; exact ⟨_, _, _, .seq h1 i2, h3⟩
    | exit id => exact ⟨_, _, _, .seqE h1, h2⟩
    | ret => exact ⟨_, _, _, .seqR h1, h2⟩
theorem WX_cond {c : Opd} {a b : ACode} {fr : Fr} {aw : AW} {Q : AExit → Fr → AW → Prop} : WX tab (.cond c a b) fr aw Q = condK (c.ev fr) (WX tab a fr aw Q) (WX tab b fr aw Q) := by
  refine propext ⟨?_, ?_⟩
  · rintro ⟨_, _, _, h1, h2⟩
    cases h1 with
    | condT i0 i1 => rw [i0]; exact ⟨_, _, _, i1, h2⟩
    | condF i0 i1 => rw [i0]; exact ⟨_, _, _, i1, h2⟩
  · intro h
    unfold condK at h
    split at h
    · rename_i v hv
      cases v with
      | true => obtain ⟨_, _, _, i1, h2⟩ := h; exact ⟨_, _, _, .condT hv i1, h2⟩
      | false => obtain ⟨_, _, _, i1, h2⟩ := h; exact ⟨_, _, _, .condF hv i1, h2⟩
    · exact h.elim
theorem WX_block {id : Nat} {b : ACode} {fr : Fr} {aw : AW} {Q : AExit → Fr → AW → Prop} : WX tab (.block id b) fr aw Q = WX tab b fr aw (inB id Q) := by
  refine propext ⟨?_, ?_⟩
  · rintro ⟨_, _, _, h1, h2⟩
    cases h1 with
    | block i1 => exact ⟨_, _, _, i1, h2⟩
    | blockX i1 => exact ⟨_, _, _, i1, by simpa using h2⟩
    | blockE i1 hne => exact ⟨_, _, _, i1, by simpa [hne] using h2⟩
    | blockR i1 => exact ⟨_, _, _, i1, h2⟩
  · rintro ⟨e, _, _, h1, h2⟩
    cases e with
    | normal => exact ⟨_, _, _, .block h1, h2⟩
    | exit id' =>
      simp only [inB_exit] at h2
      split at h2
      · rename_i he; subst he; exact ⟨_, _, _, .blockX h1, h2⟩
      · rename_i he; exact ⟨_, _, _, .blockE h1 he, h2⟩
    | ret => exact ⟨_, _, _, .blockR h1, h2⟩
theorem WX_scope {b : ACode} {fr : Fr} {aw : AW} {Q : AExit → Fr → AW → Prop} : WX tab (.scope b) fr aw Q = WX tab b fr aw Q := by
  refine propext ⟨?_, ?_⟩
  · rintro ⟨_, _, _, h1, h2⟩; cases h1; rename_i h; exact ⟨_, _, _, h, h2⟩
  · rintro ⟨_, _, _, h1, h2⟩; exact ⟨_, _, _, .scope h1, h2⟩
theorem WX_loop {b : ACode} {fr : Fr} {aw : AW} {Q : AExit → Fr → AW → Prop} : WX tab (.loop b) fr aw Q = WX tab b fr aw (onw Q fun f w => WX tab (.loop b) f w Q) := by
  refine propext ⟨?_, ?_⟩
  · rintro ⟨_, _, _, h1, h2⟩
    cases h1 with
    | loop i1 i2 => exact ⟨_, _, _, i1, _, _, _, i2, h2⟩
    | loopE i1 => exact ⟨_, _, _, i1, h2⟩
    | loopR i1 => exact ⟨_, _, _, i1, h2⟩
  · rintro ⟨e, _, _, h1, h2⟩
    cases e with
    | normal => obtain ⟨_, _, _, i2, h3⟩ := h2; exact ⟨_, _, _, .loop h1 i2, h3⟩
    | exit id => exact ⟨_, _, _, .loopE h1, h2⟩
    | ret => exact ⟨_, _, _, .loopR h1, h2⟩
theorem WO_nil {fr : Fr} {aw : AW} {K : Fr → AW → Prop} : WO tab [] fr aw K = K fr aw := by
  refine propext ⟨?_, fun h => ⟨_, _, .nil, h⟩⟩
  rintro ⟨_, _, h1, h2⟩; cases h1; exact h2
theorem WO_cons {o : AOper} {l : List AOper} {fr : Fr} {aw : AW} {K : Fr → AW → Prop} : WO tab (o :: l) fr aw K = W1 tab o fr aw (fun v a => WO tab l (putO fr o.dst v) a K) := by
  refine propext ⟨?_, ?_⟩
  · rintro ⟨_, _, h1, h2⟩; cases h1; rename_i i1 i2; exact ⟨_, _, i1, _, _, i2, h2⟩
  · rintro ⟨_, _, i1, _, _, i2, h2⟩; exact ⟨_, _, .cons i1 i2, h2⟩
theorem WD_nil {fr : Fr} {aw : AW} {K : List Stp → Fr → AW → Prop} : WD tab [] fr aw K = K [] fr aw := by
  refine propext ⟨?_, fun h => ⟨_, _, _, .nil, h⟩⟩
  rintro ⟨_, _, _, h1, h2⟩; cases h1; exact h2
theorem WD_cons {d : DOper} {l : List DOper} {fr : Fr} {aw : AW} {K : List Stp → Fr → AW → Prop} : WD tab (d :: l) fr aw K = W1 tab d.op (hideL fr d.hide) aw (fun v a => WD tab l (putO fr d.op.dst v) a (fun st f w => K (⟨hideL fr d.hide, v, aw, a⟩ :: st) f w)) := by
  refine propext ⟨?_, ?_⟩
  · rintro ⟨_, _, _, h1, h2⟩; cases h1; rename_i i1 i2; exact ⟨_, _, i1, _, _, _, i2, h2⟩
  · rintro ⟨_, _, i1, _, _, _, i2, h2⟩; exact ⟨_, _, _, .cons i1 i2, h2⟩
def WC (tab : Tab) (f : Nat) (args : List V) (aw : AW) (K : V → AW → Prop) : Prop := WF tab f args aw K ∨ ∃ v aw', tab.ext f args aw v aw' ∧ K v aw'
theorem WC.of {f : Nat} {args : List V} {aw : AW} {K : V → AW → Prop} (h : WF tab f args aw K) : WC tab f args aw K := .inl h
def resK (tab : Tab) (r : Option (Res × AW)) (K : V → AW → Prop) : Prop :=
  match r with
  | some (.val v, a) => K v a
  | some (.skip, a) => K .undef a
  | some (.call f args, a) => WC tab f args a K
  | none => False
def wantK (w : Option Bool) (A : Prop) (B : Prop) : Prop :=
  match w with
  | some b => bif b then A else B
  | none => False
theorem W1_eq {o : AOper} {fr : Fr} {aw : AW} {K : V → AW → Prop} : W1 tab o fr aw K = wantK (wanted fr o.guard) (resK tab (aop o.op fr aw) K) (K .undef aw) := by
  refine propext ⟨?_, fun h => ?_⟩
  · rintro ⟨v, a, h1, h2⟩
    cases h1 with
    | pass hw => rw [hw]; exact h2
    | val hw ha => rw [hw, ha]; exact h2
    | skip hw ha => rw [hw, ha]; exact h2
    | call hw ha hc => rw [hw, ha]; exact .inl ⟨_, _, hc, h2⟩
    | ext hw ha hc => rw [hw, ha]; exact .inr ⟨_, _, hc, h2⟩
  · unfold wantK at h
    split at h
    · rename_i b hw
      cases b with
      | true =>
        unfold resK at h
        simp only [cond_true] at h
        split at h
        · rename_i ha; exact ⟨_, _, .val hw ha, h⟩
        · rename_i ha; exact ⟨_, _, .skip hw ha, h⟩
        · rename_i ha
          rcases h with ⟨v, a, h1, h2⟩ | ⟨v, a, h1, h2⟩
          · exact ⟨_, _, .call hw ha h1, h2⟩
          · exact ⟨_, _, .ext hw ha h1, h2⟩
        · exact h.elim
      | false => exact ⟨_, _, .pass hw, h⟩
    · exact h.elim
theorem WF_code {f : Nat} {args : List V} {aw : AW} {K : V → AW → Prop} {af : AFun} (hc : tab.code f = some af) (hn : args.length ≤ af.ntmps)
    (h : WX tab af.body (initFr args 0) aw (fun e fr' aw' => (e = .normal ∨ e = .ret) ∧ ∃ vs, resV fr' aw' af.results = some vs ∧ K (resOne vs) aw')) : WF tab f args aw K := by
  obtain ⟨e, fr', aw', h1, h2, vs, h3, h4⟩ := h
  exact ⟨_, _, .code hc hn h1 h2 h3, h4⟩
end
end Go.AE
set_option linter.unusedVariables false
set_option linter.unusedSectionVars false
set_option linter.unusedSimpArgs false
namespace Go.AE
variable [Globs]
inductive SI where
  | code (c : ACode)
  | ops (l : List AOper)
  | endB (id : Nat)
section
variable {tab : Tab}
def KS (tab : Tab) : List SI → (Fr → AW → Prop) → AExit → Fr → AW → Prop
  | [], Q => fun e f w => match e with
    | .exit _ => False
    | _ => Q f w
  | .endB id :: s, Q => inB id (KS tab s Q)
  | .code c :: s, Q => onw (KS tab s Q) (fun f w => WX tab c f w (KS tab s Q))
  | .ops l :: s, Q => onw (KS tab s Q) (fun f w => WO tab l f w (fun f w => KS tab s Q .normal f w))
def WS (tab : Tab) (s : List SI) (fr : Fr) (aw : AW) (Q : Fr → AW → Prop) : Prop := KS tab s Q .normal fr aw
def popTo (id : Nat) : List SI → Option (List SI)
  | [] => none
  | .endB id' :: s => if id = id' then some s else popTo id s
  | .code _ :: s => popTo id s
  | .ops _ :: s => popTo id s
theorem KS_ret {Q : Fr → AW → Prop} {f : Fr} {w : AW} (h : Q f w) : ∀ {s : List SI}, KS tab s Q .ret f w
  | [] => h
  | .endB id :: s => KS_ret (s := s) h
  | .code c :: s => KS_ret (s := s) h
  | .ops l :: s => KS_ret (s := s) h
theorem KS_exit {id : Nat} {Q : Fr → AW → Prop} {f : Fr} {w : AW} : ∀ {s s' : List SI}, popTo id s = some s' → WS tab s' f w Q → KS tab s Q (.exit id) f w
  | [], s', h, _ => by cases h
  | .endB id' :: s, s', h, hw => by
    simp only [popTo] at h
    split at h
    · rename_i hb
      subst hb
      cases h
      simp only [KS, inB, if_pos]
      exact hw
    · rename_i hb
      simp only [KS, inB, if_neg hb]
      exact KS_exit h hw
  | .code c :: s, s', h, hw => KS_exit (s := s) h hw
  | .ops l :: s, s', h, hw => KS_exit (s := s) h hw
theorem WS_nil {fr : Fr} {aw : AW} {Q : Fr → AW → Prop} (h : Q fr aw) : WS tab [] fr aw Q := h
theorem WS_endB {id : Nat} {s : List SI} {fr : Fr} {aw : AW} {Q : Fr → AW → Prop} (h : WS tab s fr aw Q) : WS tab (.endB id :: s) fr aw Q := h
theorem WS_skip {s : List SI} {fr : Fr} {aw : AW} {Q : Fr → AW → Prop} (h : WS tab s fr aw Q) : WS tab (.code .skip :: s) fr aw Q := by
  show WX tab .skip fr aw _; rw [WX_skip]; exact h
theorem WS_seq {a b : ACode} {s : List SI} {fr : Fr} {aw : AW} {Q : Fr → AW → Prop} (h : WS tab (.code a :: .code b :: s) fr aw Q) : WS tab (.code (.seq a b) :: s) fr aw Q := by
  show WX tab (.seq a b) fr aw _; rw [WX_seq]; exact h
theorem WS_block {id : Nat} {b : ACode} {s : List SI} {fr : Fr} {aw : AW} {Q : Fr → AW → Prop} (h : WS tab (.code b :: .endB id :: s) fr aw Q) : WS tab (.code (.block id b) :: s) fr aw Q := by
  show WX tab (.block id b) fr aw _; rw [WX_block]; exact h
theorem WS_scope {b : ACode} {s : List SI} {fr : Fr} {aw : AW} {Q : Fr → AW → Prop} (h : WS tab (.code b :: s) fr aw Q) : WS tab (.code (.scope b) :: s) fr aw Q := by
  show WX tab (.scope b) fr aw _; rw [WX_scope]; exact h
theorem WS_region {l : List AOper} {s : List SI} {fr : Fr} {aw : AW} {Q : Fr → AW → Prop} (h : WS tab (.ops l :: s) fr aw Q) : WS tab (.code (.region l) :: s) fr aw Q := by
  show WX tab (.region l) fr aw _; rw [WX_region]; exact h
theorem WS_exit {id : Nat} {s s' : List SI} {fr : Fr} {aw : AW} {Q : Fr → AW → Prop} (hp : popTo id s = some s') (h : WS tab s' fr aw Q) : WS tab (.code (.exit id) :: s) fr aw Q := by
  show WX tab (.exit id) fr aw _; rw [WX_exit]; exact KS_exit hp h
theorem WS_ret {s : List SI} {fr : Fr} {aw : AW} {Q : Fr → AW → Prop} (h : Q fr aw) : WS tab (.code .ret :: s) fr aw Q := by
  show WX tab .ret fr aw _; rw [WX_ret]; exact KS_ret h
theorem WS_loop1 {b : ACode} {s : List SI} {fr : Fr} {aw : AW} {Q : Fr → AW → Prop} (h : WS tab (.code b :: .code (.loop b) :: s) fr aw Q) : WS tab (.code (.loop b) :: s) fr aw Q := by
  show WX tab (.loop b) fr aw _; rw [WX_loop]; exact h
theorem WS_loop {b : ACode} {s : List SI} {Q : Fr → AW → Prop} (I : Nat → Fr → AW → Prop)
    (step : ∀ n f w, I n f w → (∀ n' f' w', n' < n → I n' f' w' → WS tab (.code (.loop b) :: s) f' w' Q) → WS tab (.code b :: .code (.loop b) :: s) f w Q) :
    ∀ (n : Nat) {fr : Fr} {aw : AW}, I n fr aw → WS tab (.code (.loop b) :: s) fr aw Q := by
  intro n
  induction n using Nat.strongRecOn with
  | ind n ih => intro fr aw hI; exact WS_loop1 (step n fr aw hI fun n' f' w' h1 h2 => ih n' h1 h2)
theorem WS_cond {c : Opd} {a b : ACode} {s : List SI} {fr : Fr} {aw : AW} {Q : Fr → AW → Prop} {t : Bool} (hc : c.ev fr = some (.bool t)) (h1 : t = true → WS tab (.code a :: s) fr aw Q) (h2 : t = false → WS tab (.code b :: s) fr aw Q) : WS tab (.code (.cond c a b) :: s) fr aw Q := by
  show WX tab (.cond c a b) fr aw _; rw [WX_cond, hc]
  exact condK_of h1 h2
theorem WS_condT {c : Opd} {a b : ACode} {s : List SI} {fr : Fr} {aw : AW} {Q : Fr → AW → Prop} (hc : c.ev fr = some (.bool true)) (h1 : WS tab (.code a :: s) fr aw Q) : WS tab (.code (.cond c a b) :: s) fr aw Q :=
  WS_cond hc (fun _ => h1) (fun h => by cases h)
theorem WS_condF {c : Opd} {a b : ACode} {s : List SI} {fr : Fr} {aw : AW} {Q : Fr → AW → Prop} (hc : c.ev fr = some (.bool false)) (h1 : WS tab (.code b :: s) fr aw Q) : WS tab (.code (.cond c a b) :: s) fr aw Q :=
  WS_cond hc (fun h => by cases h) (fun _ => h1)
theorem WS_opsNil {s : List SI} {fr : Fr} {aw : AW} {Q : Fr → AW → Prop} (h : WS tab s fr aw Q) : WS tab (.ops [] :: s) fr aw Q := by
  show WO tab [] fr aw _; rw [WO_nil]; exact h
theorem WS_val {o : AOper} {l : List AOper} {s : List SI} {fr : Fr} {aw aw1 : AW} {v : V} {Q : Fr → AW → Prop} (hw : wanted fr o.guard = some true) (ha : aop o.op fr aw = some (.val v, aw1)) (h : WS tab (.ops l :: s) (putO fr o.dst v) aw1 Q) : WS tab (.ops (o :: l) :: s) fr aw Q := by
  show WO tab (o :: l) fr aw _; rw [WO_cons, W1_eq, hw, ha]; exact h
theorem WS_eff {o : AOper} {l : List AOper} {s : List SI} {fr : Fr} {aw aw1 : AW} {Q : Fr → AW → Prop} (hw : wanted fr o.guard = some true) (ha : aop o.op fr aw = some (.skip, aw1)) (h : WS tab (.ops l :: s) (putO fr o.dst .undef) aw1 Q) : WS tab (.ops (o :: l) :: s) fr aw Q := by
  show WO tab (o :: l) fr aw _; rw [WO_cons, W1_eq, hw, ha]; exact h
theorem WS_pass {o : AOper} {l : List AOper} {s : List SI} {fr : Fr} {aw : AW} {Q : Fr → AW → Prop} (hw : wanted fr o.guard = some false) (h : WS tab (.ops l :: s) (putO fr o.dst .undef) aw Q) : WS tab (.ops (o :: l) :: s) fr aw Q := by
  show WO tab (o :: l) fr aw _; rw [WO_cons, W1_eq, hw]; exact h
theorem WS_call {o : AOper} {l : List AOper} {s : List SI} {fr : Fr} {aw aw1 : AW} {f : Nat} {args : List V} {Q : Fr → AW → Prop} (hw : wanted fr o.guard = some true) (ha : aop o.op fr aw = some (.call f args, aw1)) (h : WF tab f args aw1 (fun v w => WS tab (.ops l :: s) (putO fr o.dst v) w Q)) : WS tab (.ops (o :: l) :: s) fr aw Q := by
  show WO tab (o :: l) fr aw _; rw [WO_cons, W1_eq, hw, ha]; exact .inl h
theorem WS_ext {o : AOper} {l : List AOper} {s : List SI} {fr : Fr} {aw aw1 aw2 : AW} {f : Nat} {args : List V} {v : V} {Q : Fr → AW → Prop} (hw : wanted fr o.guard = some true) (ha : aop o.op fr aw = some (.call f args, aw1)) (hx : tab.ext f args aw1 v aw2) (h : WS tab (.ops l :: s) (putO fr o.dst v) aw2 Q) : WS tab (.ops (o :: l) :: s) fr aw Q := by
  show WO tab (o :: l) fr aw _; rw [WO_cons, W1_eq, hw, ha]; exact .inr ⟨v, aw2, hx, h⟩
theorem WF_of {f : Nat} {args : List V} {aw : AW} {K : V → AW → Prop} {af : AFun} (hc : tab.code f = some af) (hn : Nat.ble args.length af.ntmps = true)
    (h : WS tab [.code af.body] (initFr args 0) aw (fun fr' aw' => ∃ vs, resV fr' aw' af.results = some vs ∧ K (resOne vs) aw')) : WF tab f args aw K := by
  refine WF_code hc (Nat.le_of_ble_eq_true hn) (WX.mono h ?_)
  intro e f w hk
  cases e with
  | normal => exact ⟨.inl rfl, hk⟩
  | ret => exact ⟨.inr rfl, hk⟩
  | exit id => exact hk.elim
inductive RS where
  | on (s : List SI) (fr : Fr) (aw : AW)
  | none
def eRun0 : Nat → List SI → Fr → AW → RS
  | 0, s, fr, aw => RS.on s fr aw
  | n + 1, [], fr, aw => RS.on [] fr aw
  | n + 1, .endB _ :: s, fr, aw => eRun0 n s fr aw
  | n + 1, .ops [] :: s, fr, aw => eRun0 n s fr aw
  | n + 1, .ops (o :: l) :: s, fr, aw => match wanted fr o.guard with
    | some true => match aop o.op fr aw with
      | some (.val v, aw1) => eRun0 n (.ops l :: s) (putO fr o.dst v) aw1
      | some (.skip, aw1) => eRun0 n (.ops l :: s) (putO fr o.dst .undef) aw1
      | _ => RS.on (.ops (o :: l) :: s) fr aw
    | some false => eRun0 n (.ops l :: s) (putO fr o.dst .undef) aw
    | none => RS.on (.ops (o :: l) :: s) fr aw
  | n + 1, .code c :: s, fr, aw => match c with
    | .skip => eRun0 n s fr aw
    | .seq a b => eRun0 n (.code a :: .code b :: s) fr aw
    | .block id b => eRun0 n (.code b :: .endB id :: s) fr aw
    | .scope b => eRun0 n (.code b :: s) fr aw
    | .region l => eRun0 n (.ops l :: s) fr aw
    | .exit id => match popTo id s with
      | some s' => eRun0 n s' fr aw
      | none => RS.on (.code (.exit id) :: s) fr aw
    | .cond c a b => match c.ev fr with
      | some (.bool true) => eRun0 n (.code a :: s) fr aw
      | some (.bool false) => eRun0 n (.code b :: s) fr aw
      | _ => RS.on (.code (.cond c a b) :: s) fr aw
    | .loop b => RS.on (.code (.loop b) :: s) fr aw
    | .drawn l => RS.on (.code (.drawn l) :: s) fr aw
    | .ret => RS.on [.code .ret] fr aw
theorem eRun0_at : ∀ (n : Nat) {s : List SI} {fr : Fr} {aw : AW}, eRun0 n s fr aw ≠ RS.none
  | 0, s, fr, aw => by intro h; cases h
  | n + 1, [], fr, aw => by intro h; cases h
  | n + 1, .endB _ :: s, fr, aw => eRun0_at n
  | n + 1, .ops [] :: s, fr, aw => eRun0_at n
  | n + 1, .ops (o :: l) :: s, fr, aw => by
    simp only [eRun0]
    split
    · split
      · exact eRun0_at n
      · exact eRun0_at n
      · intro h; cases h
    · exact eRun0_at n
    · intro h; cases h
  | n + 1, .code c :: s, fr, aw => by
    cases c with
    | skip => exact eRun0_at n
    | seq a b => exact eRun0_at n
    | block id b => exact eRun0_at n
    | scope b => exact eRun0_at n
    | region l => exact eRun0_at n
    | exit id =>
      simp only [eRun0]
      split
      · exact eRun0_at n
      · intro h; cases h
    | cond c a b =>
      simp only [eRun0]
      split
      · exact eRun0_at n
      · exact eRun0_at n
      · intro h; cases h
    | loop b => intro h; cases h
    | drawn l => intro h; cases h
    | ret => intro h; cases h
theorem WS_run0 {Q : Fr → AW → Prop} : ∀ (n : Nat) {s s' : List SI} {fr fr' : Fr} {aw aw' : AW}, eRun0 n s fr aw = RS.on s' fr' aw' → WS tab s' fr' aw' Q → WS tab s fr aw Q
  | 0, s, s', fr, fr', aw, aw', h, hw => by cases h; exact hw
  | n + 1, [], s', fr, fr', aw, aw', h, hw => by cases h; exact hw
  | n + 1, .endB _ :: s, s', fr, fr', aw, aw', h, hw => WS_endB (WS_run0 n h hw)
  | n + 1, .ops [] :: s, s', fr, fr', aw, aw', h, hw => WS_opsNil (WS_run0 n h hw)
  | n + 1, .ops (o :: l) :: s, s', fr, fr', aw, aw', h, hw => by
    simp only [eRun0] at h
    split at h
    · rename_i h1
      split at h
      · rename_i h2; exact WS_val h1 h2 (WS_run0 n h hw)
      · rename_i h2; exact WS_eff h1 h2 (WS_run0 n h hw)
      · cases h; exact hw
    · rename_i h1; exact WS_pass h1 (WS_run0 n h hw)
    · cases h; exact hw
  | n + 1, .code c :: s, s', fr, fr', aw, aw', h, hw => by
    cases c with
    | skip => exact WS_skip (WS_run0 n h hw)
    | seq a b => exact WS_seq (WS_run0 n h hw)
    | block id b => exact WS_block (WS_run0 n h hw)
    | scope b => exact WS_scope (WS_run0 n h hw)
    | region l => exact WS_region (WS_run0 n h hw)
    | exit id =>
      simp only [eRun0] at h
      split at h
      · rename_i h1; exact WS_exit h1 (WS_run0 n h hw)
      · cases h; exact hw
    | cond c a b =>
      simp only [eRun0] at h
      split at h
      · rename_i h1; exact WS_condT h1 (WS_run0 n h hw)
      · rename_i h1; exact WS_condF h1 (WS_run0 n h hw)
      · cases h; exact hw
    | loop b => cases h; exact hw
    | drawn l => cases h; exact hw
    | ret => cases h; have h0 : WX tab .ret fr aw (KS tab [] Q) := hw; rw [WX_ret] at h0; exact WS_ret h0
theorem WS_back {Q : Fr → AW → Prop} : ∀ (n : Nat) {s s' : List SI} {fr fr' : Fr} {aw aw' : AW}, eRun0 n s fr aw = RS.on s' fr' aw' → WS tab s fr aw Q → WS tab s' fr' aw' Q
  | 0, s, s', fr, fr', aw, aw', h, hw => by cases h; exact hw
  | n + 1, [], s', fr, fr', aw, aw', h, hw => by cases h; exact hw
  | n + 1, .endB _ :: s, s', fr, fr', aw, aw', h, hw => WS_back n h hw
  | n + 1, .ops [] :: s, s', fr, fr', aw, aw', h, hw => by
    have hw : WO tab [] fr aw _ := hw
    rw [WO_nil] at hw; exact WS_back n h hw
  | n + 1, .ops (o :: l) :: s, s', fr, fr', aw, aw', h, hw => by
    have hw0 : WO tab (o :: l) fr aw _ := hw
    rw [WO_cons, W1_eq] at hw0
    simp only [eRun0] at h
    split at h
    · rename_i h1
      rw [h1] at hw0
      split at h
      · rename_i h2; rw [h2] at hw0; exact WS_back n h hw0
      · rename_i h2; rw [h2] at hw0; exact WS_back n h hw0
      · cases h; exact hw
    · rename_i h1; rw [h1] at hw0; exact WS_back n h hw0
    · cases h; exact hw
  | n + 1, .code c :: s, s', fr, fr', aw, aw', h, hw => by
    have hw0 : WX tab c fr aw _ := hw
    cases c with
    | skip => rw [WX_skip] at hw0; exact WS_back n h hw0
    | seq a b => rw [WX_seq] at hw0; exact WS_back n (s := .code a :: .code b :: s) h hw0
    | block id b => rw [WX_block] at hw0; exact WS_back n (s := .code b :: .endB id :: s) h hw0
    | scope b => rw [WX_scope] at hw0; exact WS_back n (s := .code b :: s) h hw0
    | region l => rw [WX_region] at hw0; exact WS_back n (s := .ops l :: s) h hw0
    | exit id =>
      rw [WX_exit] at hw0
      simp only [eRun0] at h
      split at h
      · rename_i s1 h1
        refine WS_back n h ?_
        clear h hw
        induction s with
        | nil => cases h1
        | cons x s ih =>
          cases x with
          | code c => exact ih hw0 h1
          | ops l => exact ih hw0 h1
          | endB id' =>
            simp only [popTo] at h1
            split at h1
            · rename_i he; subst he; cases h1
              simp only [KS, inB, if_pos] at hw0; exact hw0
            · rename_i he
              simp only [KS, inB, if_neg he] at hw0; exact ih hw0 h1
      · cases h; exact hw
    | cond c a b =>
      rw [WX_cond] at hw0
      simp only [eRun0] at h
      split at h
      · rename_i h1; rw [h1] at hw0; exact WS_back n (s := .code a :: s) h hw0
      · rename_i h1; rw [h1] at hw0; exact WS_back n (s := .code b :: s) h hw0
      · cases h; exact hw
    | loop b => cases h; exact hw
    | drawn l => cases h; exact hw
    | ret =>
      cases h
      rw [WX_ret] at hw0
      have : ∀ {s : List SI}, KS tab s Q .ret fr aw → Q fr aw := by
        intro s
        induction s with
        | nil => intro h; exact h
        | cons x s ih => intro h; cases x <;> exact ih h
      exact WS_ret (this hw0)
theorem eRun_ex : ∃ f : Nat → List SI → Fr → AW → RS, f = eRun0 := ⟨_, rfl⟩
@[irreducible] noncomputable def eRun : Nat → List SI → Fr → AW → RS := Classical.choose eRun_ex
theorem eRun_eq : eRun = eRun0 := by unfold eRun; exact Classical.choose_spec eRun_ex
theorem WS_run {Q : Fr → AW → Prop} (n : Nat) {s s' : List SI} {fr fr' : Fr} {aw aw' : AW} (h : eRun n s fr aw = RS.on s' fr' aw') (hw : WS tab s' fr' aw' Q) : WS tab s fr aw Q := by
  rw [eRun_eq] at h; exact WS_run0 n h hw
theorem WS_runB {Q : Fr → AW → Prop} (n : Nat) {m : Nat} {s s' : List SI} {fr fr' : Fr} {aw aw' : AW} (h : eRun n s fr aw = eRun m s' fr' aw') (hw : WS tab s' fr' aw' Q) : WS tab s fr aw Q := by
  rw [eRun_eq] at h
  cases he : eRun0 m s' fr' aw' with
  | on s1 f1 a1 => rw [he] at h; exact WS_run0 n h (WS_back m he hw)
  | none => exact absurd he (eRun0_at m)
theorem eRun_nil {n : Nat} {fr : Fr} {aw : AW} : eRun (n + 1) [] fr aw = RS.on [] fr aw := by rw [eRun_eq]; rfl
theorem eRun_endB {n id : Nat} {s : List SI} {fr : Fr} {aw : AW} : eRun (n + 1) (.endB id :: s) fr aw = eRun n s fr aw := by rw [eRun_eq]; rfl
theorem eRun_opsNil {n : Nat} {s : List SI} {fr : Fr} {aw : AW} : eRun (n + 1) (.ops [] :: s) fr aw = eRun n s fr aw := by rw [eRun_eq]; rfl
theorem eRun_ops {n : Nat} {o : AOper} {l : List AOper} {s : List SI} {fr : Fr} {aw : AW} : eRun (n + 1) (.ops (o :: l) :: s) fr aw = match wanted fr o.guard with
    | some true => match aop o.op fr aw with
      | some (.val v, aw1) => eRun n (.ops l :: s) (putO fr o.dst v) aw1
      | some (.skip, aw1) => eRun n (.ops l :: s) (putO fr o.dst .undef) aw1
      | _ => RS.on (.ops (o :: l) :: s) fr aw
    | some false => eRun n (.ops l :: s) (putO fr o.dst .undef) aw
    | none => RS.on (.ops (o :: l) :: s) fr aw := by rw [eRun_eq]; rfl
theorem eRun_skip {n : Nat} {s : List SI} {fr : Fr} {aw : AW} : eRun (n + 1) (.code .skip :: s) fr aw = eRun n s fr aw := by rw [eRun_eq]; rfl
theorem eRun_seq {n : Nat} {a b : ACode} {s : List SI} {fr : Fr} {aw : AW} : eRun (n + 1) (.code (.seq a b) :: s) fr aw = eRun n (.code a :: .code b :: s) fr aw := by rw [eRun_eq]; rfl
theorem eRun_block {n id : Nat} {b : ACode} {s : List SI} {fr : Fr} {aw : AW} : eRun (n + 1) (.code (.block id b) :: s) fr aw = eRun n (.code b :: .endB id :: s) fr aw := by rw [eRun_eq]; rfl
theorem eRun_scope {n : Nat} {b : ACode} {s : List SI} {fr : Fr} {aw : AW} : eRun (n + 1) (.code (.scope b) :: s) fr aw = eRun n (.code b :: s) fr aw := by rw [eRun_eq]; rfl
theorem eRun_region {n : Nat} {l : List AOper} {s : List SI} {fr : Fr} {aw : AW} : eRun (n + 1) (.code (.region l) :: s) fr aw = eRun n (.ops l :: s) fr aw := by rw [eRun_eq]; rfl
theorem eRun_exit {n id : Nat} {s : List SI} {fr : Fr} {aw : AW} : eRun (n + 1) (.code (.exit id) :: s) fr aw = match popTo id s with
      | some s' => eRun n s' fr aw
      | none => RS.on (.code (.exit id) :: s) fr aw := by rw [eRun_eq]; rfl
theorem eRun_cond {n : Nat} {c : Opd} {a b : ACode} {s : List SI} {fr : Fr} {aw : AW} : eRun (n + 1) (.code (.cond c a b) :: s) fr aw = match c.ev fr with
      | some (.bool true) => eRun n (.code a :: s) fr aw
      | some (.bool false) => eRun n (.code b :: s) fr aw
      | _ => RS.on (.code (.cond c a b) :: s) fr aw := by rw [eRun_eq]; rfl
theorem eRun_loop {n : Nat} {b : ACode} {s : List SI} {fr : Fr} {aw : AW} : eRun (n + 1) (.code (.loop b) :: s) fr aw = RS.on (.code (.loop b) :: s) fr aw := by rw [eRun_eq]; rfl
theorem eRun_drawn {n : Nat} {l : List DOper} {s : List SI} {fr : Fr} {aw : AW} : eRun (n + 1) (.code (.drawn l) :: s) fr aw = RS.on (.code (.drawn l) :: s) fr aw := by rw [eRun_eq]; rfl
theorem eRun_ret {n : Nat} {s : List SI} {fr : Fr} {aw : AW} : eRun (n + 1) (.code .ret :: s) fr aw = RS.on [.code .ret] fr aw := by rw [eRun_eq]; rfl
theorem T.get_putk {α : Type} {t : T α} {k j : Nat} {x : α} : (t.put k x).get j = if j = k then some x else t.get j := by
  by_cases hj : j = k
  · subst hj; rw [if_pos rfl, get_put_same]
  · rw [if_neg hj, get_put_ne hj]
theorem initFr_nil {k : Nat} : initFr [] k = .e := rfl
theorem initFr_cons {v : V} {l : List V} {k : Nat} : initFr (v :: l) k = (initFr l (k + 1)).put k v := rfl
theorem putO_some {fr : Fr} {d : Nat} {v : V} : putO fr (some d) v = fr.put d v := rfl
theorem putO_none {fr : Fr} {v : V} : putO fr none v = fr := rfl
theorem wanted_none {fr : Fr} : wanted fr none = some true := rfl
theorem ev_tmp {fr : Fr} {t : Nat} : (Opd.tmp t).ev fr = fr.get t := rfl
theorem ev_const {fr : Fr} {v : V} : (Opd.const v).ev fr = some v := rfl
theorem resOne_one {v : V} : resOne [v] = v := rfl
theorem resOne_two {v u : V} : resOne [v, u] = .tuple [v, u] := rfl
theorem natBeq {a b : Nat} : Nat.beq a b = decide (a = b) := by
  cases h : Nat.beq a b with
  | true => simp [Nat.eq_of_beq_eq_true h]
  | false => simp [Nat.ne_of_beq_eq_false h]
theorem natBle {a b : Nat} : Nat.ble a b = decide (a ≤ b) := by
  cases h : Nat.ble a b with
  | true => simp [Nat.le_of_ble_eq_true h]
  | false => simp only [Bool.false_eq, decide_eq_false_iff_not]; exact Nat.not_le_of_not_ble_eq_true (by simp [h])
theorem natBlt {a b : Nat} : Nat.blt a b = decide (a < b) := by
  unfold Nat.blt; rw [natBle]; rfl
theorem wrap_id {n : Int} (h1 : -9223372036854775808 ≤ n) (h2 : n ≤ 9223372036854775807) : IntKind.wrap .i64 n = n := by
  have h : IntKind.wrap .i64 n = if n % 18446744073709551616 ≥ 9223372036854775808 then n % 18446744073709551616 - 18446744073709551616 else n % 18446744073709551616 := by
    simp [IntKind.wrap, IntKind.bits, IntKind.signed]
  rw [h]; split <;> omega
theorem wrap_add {a b : Nat} (h : a + b ≤ 9223372036854775807) : IntKind.wrap .i64 (Int.ofNat a + Int.ofNat b) = Int.ofNat (a + b) := by
  have e1 : Int.ofNat a = (a : Int) := rfl
  have e2 : Int.ofNat b = (b : Int) := rfl
  have e3 : Int.ofNat (a + b) = ((a + b : Nat) : Int) := rfl
  rw [wrap_id] <;> omega
theorem wrap_succ {a : Nat} (h : a + 1 ≤ 9223372036854775807) : IntKind.wrap .i64 (Int.ofNat a + 1) = Int.ofNat (a + 1) := wrap_add (b := 1) h
theorem gt_nn {a b : Nat} : decide (Int.ofNat a > Int.ofNat b) = decide (b < a) := by simp
theorem ge_nn {a b : Nat} : decide (Int.ofNat a ≥ Int.ofNat b) = decide (b ≤ a) := by simp
theorem le_nn {a b : Nat} : decide (Int.ofNat a ≤ Int.ofNat b) = decide (a ≤ b) := by simp
theorem lt_nn {a b : Nat} : decide (Int.ofNat a < Int.ofNat b) = decide (a < b) := by simp
theorem eq_nn {a b : Nat} : (Int.ofNat a == Int.ofNat b) = decide (a = b) := by
  by_cases h : a = b
  · simp [h]
  · simp only [h, decide_false, beq_eq_false_iff_ne, ne_eq]; intro e; exact h (Int.ofNat.inj e)
theorem ne_nn {a b : Nat} : (Int.ofNat a != Int.ofNat b) = !decide (a = b) := by
  simp only [bne, eq_nn]
theorem gt_nl {a b : Nat} : decide (Int.ofNat a > (no_index (@OfNat.ofNat Int b instOfNat))) = decide (@OfNat.ofNat Nat b (instOfNatNat b) < a) := gt_nn
theorem ge_nl {a b : Nat} : decide (Int.ofNat a ≥ (no_index (@OfNat.ofNat Int b instOfNat))) = decide (@OfNat.ofNat Nat b (instOfNatNat b) ≤ a) := ge_nn
theorem le_nl {a b : Nat} : decide (Int.ofNat a ≤ (no_index (@OfNat.ofNat Int b instOfNat))) = decide (a ≤ @OfNat.ofNat Nat b (instOfNatNat b)) := le_nn
theorem lt_nl {a b : Nat} : decide (Int.ofNat a < (no_index (@OfNat.ofNat Int b instOfNat))) = decide (a < @OfNat.ofNat Nat b (instOfNatNat b)) := lt_nn
theorem eq_nl {a b : Nat} : (Int.ofNat a == (no_index (@OfNat.ofNat Int b instOfNat))) = decide (a = @OfNat.ofNat Nat b (instOfNatNat b)) := eq_nn
theorem ne_nl {a b : Nat} : (Int.ofNat a != (no_index (@OfNat.ofNat Int b instOfNat))) = !decide (a = @OfNat.ofNat Nat b (instOfNatNat b)) := ne_nn
theorem gt_ln {a b : Nat} : decide ((no_index (@OfNat.ofNat Int b instOfNat)) > Int.ofNat a) = decide (a < @OfNat.ofNat Nat b (instOfNatNat b)) := gt_nn
theorem ge_ln {a b : Nat} : decide ((no_index (@OfNat.ofNat Int b instOfNat)) ≥ Int.ofNat a) = decide (a ≤ @OfNat.ofNat Nat b (instOfNatNat b)) := ge_nn
theorem lt_ln {a b : Nat} : decide ((no_index (@OfNat.ofNat Int b instOfNat)) < Int.ofNat a) = decide (@OfNat.ofNat Nat b (instOfNatNat b) < a) := lt_nn
theorem le_ln {a b : Nat} : decide ((no_index (@OfNat.ofNat Int b instOfNat)) ≤ Int.ofNat a) = decide (@OfNat.ofNat Nat b (instOfNatNat b) ≤ a) := le_nn
theorem take_drop_all {α : Type} {k : Nat} {s : List α} : (s.drop k).take (s.length - k) = s.drop k := List.take_of_length_le (by simp)
theorem take_drop_mid {α : Type} {k n : Nat} {s : List α} : (s.drop k).take (k + n - k) = (s.drop k).take n := by rw [Nat.add_sub_cancel_left]
structure Ext (N : Nat) (w w' : AW) : Prop where
  le : N ≤ w.next
  next : w.next ≤ w'.next
  heap : ∀ b, b < N → w'.heap.get b = w.heap.get b
  fams : ∀ b, b < N → w'.fams.get b = w.fams.get b
theorem Ext.refl (w : AW) : Ext w.next w w := ⟨Nat.le_refl _, Nat.le_refl _, fun _ _ => rfl, fun _ _ => rfl⟩
theorem Ext.trans {N : Nat} {a b c : AW} (h : Ext N a b) (h' : Ext N b c) : Ext N a c :=
  ⟨h.le, Nat.le_trans h.next h'.next, fun k hk => (h'.heap k hk).trans (h.heap k hk), fun k hk => (h'.fams k hk).trans (h.fams k hk)⟩
theorem Ext.mono {N M : Nat} {a b : AW} (h : Ext N a b) (hm : M ≤ N) : Ext M a b :=
  ⟨Nat.le_trans hm h.le, h.next, fun k hk => h.heap k (Nat.lt_of_lt_of_le hk hm), fun k hk => h.fams k (Nat.lt_of_lt_of_le hk hm)⟩
theorem Ext.new {N : Nat} {w : AW} (h : N ≤ w.next) (x : Blk) : Ext N w (w.new x) :=
  ⟨h, Nat.le_succ _, fun b hb => T.get_put_ne (by omega), fun _ _ => rfl⟩
theorem Ext.le' {N : Nat} {a b : AW} (h : Ext N a b) : N ≤ b.next := Nat.le_trans h.le h.next
inductive Own (N : Nat) (w : AW) : V → Nat → Nat → List V → Prop
  | nil {esz : Nat} : Own N w .nilslice esz 0 []
  | blk {b n esz : Nat} {cs : List V} {sh : Share} (hN : N ≤ b) (hb : b < w.next) (hx : w.heap.get b = some (.cells cs sh)) (hl : cs.length = n * esz) (he : 0 < esz) (hn : 0 < n)
      (hs : sh = .own ∨ sh = .lax ∨ ∃ f F, sh = .fam f ∧ N ≤ f ∧ f < w.next ∧ w.fams.get f = some F ∧ F.last = b ∧ F.floor ≤ w.next ∧ w.alive b sh = true) : Own N w (.slice b 0 n (.upTo esz)) esz n cs
theorem Own.ext {N : Nat} {w w' : AW} {v : V} {esz n : Nat} {cs : List V} (h : Own N w v esz n cs) {M : Nat} (hM : w.next ≤ M) (he : Ext M w w') : Own N w' v esz n cs := by
  cases h with
  | nil => exact .nil
  | blk hN hb hx hl he' hn hs =>
    refine .blk hN (Nat.lt_of_lt_of_le hb he.next) ((he.heap _ (by omega)).trans hx) hl he' hn ?_
    rcases hs with rfl | rfl | ⟨f, F, rfl, h1, h2, h3, h4, h6, h5⟩
    · exact .inl rfl
    · exact .inr (.inl rfl)
    · refine .inr (.inr ⟨f, F, rfl, h1, Nat.lt_of_lt_of_le h2 he.next, (he.fams f (by omega)).trans h3, h4, Nat.le_trans h6 he.next, ?_⟩)
      simp only [AW.alive, h3, (he.fams f (by omega)).trans h3] at h5 ⊢
      exact h5
theorem takeN_all : ∀ (l : List V) (n : Nat), l.length = n → takeN n l = some l
  | [], n, h => by cases h; rfl
  | x :: l, n, h => by
    cases n with
    | zero => cases h
    | succ n => simp only [takeN, takeN_all l n (by simpa using h)]
theorem takeN_some : ∀ (n : Nat) (l : List V), n ≤ l.length → takeN n l = some (l.take n)
  | 0, l, h => by simp [takeN]
  | n + 1, [], h => by simp at h
  | n + 1, x :: l, h => by simp only [takeN, takeN_some n l (by simpa using h), List.take_succ_cons]
theorem Own.alive {N : Nat} {w : AW} {b n esz : Nat} {cs : List V} {sh : Share} (hs : sh = .own ∨ sh = .lax ∨ ∃ f F, sh = .fam f ∧ N ≤ f ∧ f < w.next ∧ w.fams.get f = some F ∧ F.last = b ∧ F.floor ≤ w.next ∧ w.alive b sh = true) : w.alive b sh = true := by
  rcases hs with rfl | rfl | ⟨f, F, rfl, h1, h2, h3, h4, h6, h5⟩
  · rfl
  · rfl
  · exact h5
theorem Own.len {N : Nat} {w : AW} {v : V} {esz n : Nat} {cs : List V} (h : Own N w v esz n cs) : cs.length = n * esz := by
  cases h with
  | nil => simp
  | blk hN hb hx hl he' hn hs => exact hl
theorem Own.load {N : Nat} {w : AW} {b n esz : Nat} {c : Cap} {cs : List V} (h : Own N w (.slice b 0 n c) esz n cs) {o k : Nat} (hk : o + k ≤ cs.length) : w.load b o k = some ((cs.drop o).take k) := by
  cases h with
  | blk hN hb hx hl he' hn hs =>
    simp only [AW.load, hx, Own.alive (n := n) (esz := esz) (cs := cs) hs]
    exact takeN_some _ _ (by simp; omega)
theorem Own.append {N : Nat} {w : AW} {v : V} {esz n k bytes : Nat} {cs news : List V} (h : Own N w v esz n cs) (hNw : N ≤ w.next) (he : 0 < esz) (hk : 0 < k) (hl : news.length = k * esz) (h1 : allOne news = true) (hb : (n + k) * bytes ≤ 70368744177664) (hb' : n + k ≤ 70368744177664) :
    ∃ v' w', w.appendV esz bytes v k news = some (v', w') ∧ Own N w' v' esz (n + k) (cs ++ news) ∧ Ext N w w' := by
  obtain ⟨k, rfl⟩ : ∃ m, k = m + 1 := ⟨k - 1, by omega⟩
  cases h with
  | nil =>
    refine ⟨.slice w.next 0 (k + 1) (.upTo esz), w.fresh news, ?_, ?_, Ext.new hNw _⟩
    · simp only [AW.appendV]; rw [if_pos ⟨by simpa using hb, by omega⟩]
    · rw [Nat.zero_add]
      exact .blk hNw (Nat.lt_succ_self _) T.get_put_same (by simpa using hl) he (by omega) (.inl rfl)
  | @blk b _ _ _ sh hN hbw hx hlen he' hn hs =>
    have hbeq : Nat.beq (0 + n * esz) cs.length = true := by rw [Nat.zero_add, hlen, Nat.beq_refl]
    have hin : esz = esz ∧ (n + (k + 1)) * bytes ≤ 70368744177664 ∧ n + (k + 1) ≤ 70368744177664 ∧ allOne news = true ∧ 0 < esz := ⟨rfl, hb, hb', h1, he⟩
    -- from a family's block
    have fam : ∀ (u : AW) (f : Nat) (F : Fam), u.heap.get b = some (.cells cs (.fam f)) → N ≤ f → f < u.next → b < u.next → N ≤ u.next → u.fams.get f = some F → F.last = b → F.floor ≤ u.next → u.alive b (.fam f) = true →
        ∃ v' w', u.appendFam esz b 0 n (k + 1) news = some (v', w') ∧ Own N w' v' esz (n + (k + 1)) (cs ++ news) ∧ Ext N u w' := by
      intro u f F hx hNf hfu hbu hNu hF hlast hfl hal
      refine ⟨.slice u.next 0 (n + (k + 1)) (.upTo esz), u.grow b f F (cs.drop 0 ++ news), ?_, ?_, ?_⟩
      · simp only [AW.appendFam, hx, hal, hF, hbeq]
      · have hg : (u.grow b f F (cs.drop 0 ++ news)).fams.get f = some ⟨F.keep, F.floor, u.next⟩ := by
          simp only [AW.grow, T.get_putk, if_true, hlast, Nat.beq_refl]
        refine .blk hNu (Nat.lt_succ_self _) (sh := .fam f) ?_ ?_ he (by omega) (.inr (.inr ⟨f, ⟨F.keep, F.floor, u.next⟩, rfl, hNf, Nat.lt_succ_of_lt hfu, hg, rfl, Nat.le_succ_of_le hfl, ?_⟩))
        · simp only [AW.grow, T.get_putk, if_true, List.drop_zero]
        · rw [List.length_append, hlen, hl, Nat.add_mul n]
        · simp only [AW.alive, hg, Bool.or_eq_true]
          exact .inr (Nat.ble_eq_true_of_le hfl)
      · refine ⟨hNu, Nat.le_succ _, fun c hc => ?_, fun c hc => ?_⟩
        · exact T.get_put_ne (by omega)
        · exact T.get_put_ne (by omega)
    have fnd : sh = .own ∨ sh = .lax → ∃ v' w', (w.found b cs).appendFam esz b 0 n (k + 1) news = some (v', w') ∧ Own N w' v' esz (n + (k + 1)) (cs ++ news) ∧ Ext N w w' := by
      intro _
      obtain ⟨v', w', q1, q2, q3⟩ := fam (w.found b cs) w.next ⟨b, w.next + 1, b⟩ T.get_put_same hNw (Nat.lt_succ_self _) (Nat.lt_succ_of_lt hbw) (Nat.le_succ_of_le hNw) T.get_put_same rfl (Nat.le_refl _)
        (by simp only [AW.alive, AW.found, T.get_putk, if_true, Nat.beq_refl, Bool.true_or])
      refine ⟨v', w', q1, q2, Ext.trans ⟨hNw, Nat.le_succ _, fun c hc => ?_, fun c hc => ?_⟩ q3⟩
      · exact T.get_put_ne (by omega)
      · exact T.get_put_ne (by omega)
    have happ : w.appendV esz bytes (.slice b 0 n (.upTo esz)) (k + 1) news = w.appendUp esz b 0 n (k + 1) news := if_pos hin
    rw [happ]
    simp only [AW.appendUp, hx, hbeq]
    rcases hs with rfl | rfl | ⟨f, F, rfl, g1, g2, g3, g4, g6, g5⟩
    · exact fnd (.inl rfl)
    · exact fnd (.inr rfl)
    · exact fam w f F hx g1 g2 hbw hNw g3 g4 g6 g5
def dRun : List DOper → Fr → AW → Option Fr
  | [], fr, _ => some fr
  | d :: l, fr, aw => match wanted (hideL fr d.hide) d.op.guard with
    | some true => match aop d.op.op (hideL fr d.hide) aw with
      | some (.val v, _) => dRun l (putO fr d.op.dst v) aw
      | _ => none
    | some false => dRun l (putO fr d.op.dst .undef) aw
    | none => none
theorem Pass.len {l : List DOper} {fr : Fr} {aw : AW} {st : List Stp} {fr' : Fr} {aw' : AW} : Pass tab l fr aw st fr' aw' → st.length = l.length := by
  induction l generalizing fr aw st with
  | nil => intro h; cases h; rfl
  | cons d l ih => intro h; cases h; rename_i h1 h2; simp [ih h2]
theorem idx_lit {k : IntKind} {n : Nat} : idx (.int k (no_index (@OfNat.ofNat Int n instOfNat))) = some (@OfNat.ofNat Nat n (instOfNatNat n)) := rfl
theorem idx_nat {k : IntKind} {n : Nat} : idx (.int k (Int.ofNat n)) = some n := rfl
theorem elems_fresh {w : AW} {esz n : Nat} {cs : List V} {c : Cap} (hn : 0 < n) (hl : cs.length = n * esz) : (w.fresh cs).elems esz (.slice w.next 0 n c) = some (n, cs) := by
  obtain ⟨n, rfl⟩ : ∃ m, n = m + 1 := ⟨n - 1, by omega⟩
  simp only [AW.elems, AW.load, AW.fresh, AW.new, T.get_putk, if_true, AW.alive, List.drop_zero]
  rw [takeN_all cs _ hl]
theorem Own.push {N : Nat} {w : AW} {v : V} {esz n bytes : Nat} {cs news : List V} (h : Own N w v esz n cs) (hNw : N ≤ w.next) (he : 0 < esz) (hl : news.length = esz) (h1 : allOne news = true) (hb : (n + 1) * bytes ≤ 70368744177664) (hb' : n + 1 ≤ 70368744177664) :
    ∃ v' w', (w.fresh news).appendV esz bytes v 1 news = some (v', w') ∧ Own N w' v' esz (n + 1) (cs ++ news) ∧ Ext N w w' := by
  have hx : Ext w.next w (w.fresh news) := Ext.new (Nat.le_refl _) _
  obtain ⟨v', w', h2, h3, h4⟩ := (h.ext (Nat.le_refl _) hx).append (news := news) (bytes := bytes) (k := 1) (Nat.le_trans hNw hx.next) he (by omega) (by omega) h1 hb hb'
  exact ⟨v', w', h2, h3, (hx.mono hNw).trans h4⟩
theorem drop_flat {α : Type} {enc : α → List V} {sz : Nat} (h : ∀ x, (enc x).length = sz) : ∀ (l : List α) (i : Nat), (l.flatMap enc).drop (i * sz) = (l.drop i).flatMap enc
  | [], i => by simp
  | x :: l, 0 => by simp
  | x :: l, i + 1 => by
    have e : (i + 1) * sz = sz + i * sz := by rw [Nat.add_mul, Nat.one_mul, Nat.add_comm]
    rw [List.flatMap_cons, e, ← List.drop_drop, List.drop_append_of_le_length (by rw [h x]; exact Nat.le_refl _)]
    have : List.drop sz (enc x) = [] := List.drop_eq_nil_of_le (by rw [h x]; exact Nat.le_refl _)
    rw [this, List.nil_append, drop_flat h l i, List.drop_succ_cons]
theorem flat_len {α : Type} {enc : α → List V} {sz : Nat} (h : ∀ x, (enc x).length = sz) : ∀ (l : List α), (l.flatMap enc).length = l.length * sz
  | [] => by simp
  | x :: l => by rw [List.flatMap_cons, List.length_append, h x, flat_len h l, List.length_cons, Nat.add_mul, Nat.one_mul, Nat.add_comm]
theorem flat_part {α : Type} {enc : α → List V} {sz : Nat} (h : ∀ x, (enc x).length = sz) {l : List α} {i j k : Nat} {x : α} (hx : l[i]? = some x) (hj : j + k ≤ sz) : (((l.flatMap enc).drop (0 + i * sz + j)).take k) = ((enc x).drop j).take k := by
  have hi : i < l.length := (List.getElem?_eq_some_iff.1 hx).1
  have hd : l.drop i = x :: l.drop (i + 1) := by
    rw [List.drop_eq_getElem_cons hi]; rw [List.getElem?_eq_getElem hi] at hx; rw [Option.some.inj hx]
  rw [Nat.zero_add, ← List.drop_drop, drop_flat h, hd, List.flatMap_cons, List.drop_append_of_le_length (by rw [h x]; omega), List.take_append_of_le_length (by rw [List.length_drop, h x]; omega)]
theorem Own.part {α : Type} {enc : α → List V} {N : Nat} {w : AW} {b n sz : Nat} {c : Cap} {l : List α} (h : ∀ x, (enc x).length = sz) (ho : Own N w (.slice b 0 n c) sz n (l.flatMap enc)) {i j k : Nat} {x : α} (hx : l[i]? = some x) (hj : j + k ≤ sz) :
    w.load b (0 + i * sz + j) k = some (((enc x).drop j).take k) := by
  have hi : i < l.length := (List.getElem?_eq_some_iff.1 hx).1
  rw [ho.load ?_, flat_part h hx hj]
  rw [flat_len h]
  have : i * sz + sz ≤ l.length * sz := by
    have : (i + 1) * sz ≤ l.length * sz := Nat.mul_le_mul_right _ hi
    rwa [Nat.add_mul, Nat.one_mul] at this
  omega
theorem Own.inv {N : Nat} {w : AW} {v : V} {esz n : Nat} {cs : List V} (h : Own N w v esz n cs) : (v = .nilslice ∧ n = 0 ∧ cs = []) ∨ ∃ b, v = .slice b 0 n (.upTo esz) ∧ 0 < n := by
  cases h with
  | nil => exact .inl ⟨rfl, rfl, rfl⟩
  | blk hN hb hx hl he hn hs => exact .inr ⟨_, rfl, hn⟩
end
end Go.AE
set_option linter.unusedSectionVars false
namespace Go.AE
variable [Globs]
theorem lenV_nil : lenV .nilslice = some 0 := rfl
theorem lenV_slice {b o n : Nat} {c : Cap} : lenV (.slice b o n c) = some n := rfl
attribute [go_sem] lenV_nil lenV_slice eRun_nil eRun_endB eRun_opsNil eRun_ops eRun_skip eRun_seq eRun_block eRun_scope eRun_region eRun_cond eRun_loop eRun_drawn eRun_ret dRun hideL T.get_delk evOpt Option.getD_none Option.getD_some Nat.le_refl and_self true_and and_true take_drop_all take_drop_mid gt_nn ge_nn le_nn lt_nn eq_nn ne_nn gt_nl ge_nl le_nl lt_nl eq_nl ne_nl gt_ln ge_ln le_ln lt_ln Bool.true_and Bool.false_and popTo wanted_none wanted aop ev_tmp ev_const evs initFr_cons initFr_nil putO_some putO_none AE.valOf T.get_putk T.get_e idx_lit idx_nat List.getElem?_cons_zero List.getElem?_cons_succ aBin binI aUn beq_self_eq_true Bool.true_beq Bool.false_beq Bool.not_true Bool.not_false List.append_nil List.nil_append List.cons_append natBeq natBle natBlt decide_true decide_false resV resOne_one resOne_two
end Go.AE
