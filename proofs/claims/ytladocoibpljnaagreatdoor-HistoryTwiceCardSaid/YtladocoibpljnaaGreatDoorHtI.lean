/- A part of the proof: C12, Ae31, Ae32, Ae33, Ae34, Ae35, Ae38, HTab. -/
import Derived.Test.YtladocoibpljnaaGreatDoorHtE
import Derived.Lib.Bytealg
import Derived.ProofKit
import Derived.OpenShut
import Derived.Carry
import Derived.ChangeSame
import Derived.Below
import Derived.Lib.ItoaMem
import Derived.Test.YtladocoibpljnaaGreatDoorHtF
import Derived.Test.YtladocoibpljnaaGreatDoorHtG
import Derived.Test.YtladocoibpljnaaGreatDoorHtH
set_option maxRecDepth 100000
set_option linter.unusedVariables false
namespace Go.Proofs.YtladocoibpljnaaGreatDoor
open Go.AE
def k_strings_HasPrefix : AFun := ⟨8, [.tmp 4], (.seq (.region [⟨some 4, none, .mov (.const (.bool false))⟩])
 (.seq (.region [⟨some 5, none, .mov (.tmp 0)⟩,
  ⟨some 6, none, .mov (.tmp 1)⟩,
  ⟨some 7, none, .call (.const (.func (.func n_int_stringslite_HasPrefix) [] [])) [(.tmp 5), (.tmp 6)]⟩,
  ⟨some 4, none, .mov (.tmp 7)⟩])
 .ret))⟩
theorem c_strings_HasPrefix : (XTab.of Tryz.prog).code 258 = some k_strings_HasPrefix := by kernel_rfl
def k_int_stringslite_IndexByte : AFun := ⟨8, [.tmp 4], (.seq (.region [⟨some 4, none, .mov (.const (.int .i64 0))⟩])
 (.seq (.region [⟨some 5, none, .mov (.tmp 0)⟩,
  ⟨some 6, none, .mov (.tmp 1)⟩,
  ⟨some 7, none, .call (.const (.func (.func n_int_bytealg_IndexByteString) [] [])) [(.tmp 5), (.tmp 6)]⟩,
  ⟨some 4, none, .mov (.tmp 7)⟩])
 .ret))⟩
theorem c_int_stringslite_IndexByte : (XTab.of Tryz.prog).code 264 = some k_int_stringslite_IndexByte := by kernel_rfl
def k_int_stringslite_HasPrefix : AFun := ⟨18, [.tmp 4], (.seq (.region [⟨some 4, none, .mov (.const (.bool false))⟩])
 (.seq (.region [⟨some 5, none, .mov (.tmp 0)⟩,
  ⟨some 6, none, .lenStr (.tmp 5)⟩,
  ⟨some 7, none, .mov (.tmp 1)⟩,
  ⟨some 8, none, .lenStr (.tmp 7)⟩,
  ⟨some 9, none, .bin .geq (.tmp 6) (.tmp 8)⟩,
  ⟨some 10, none, .mov (.tmp 9)⟩,
  ⟨some 11, (some (10, true)), .mov (.tmp 0)⟩,
  ⟨some 12, (some (10, true)), .mov (.tmp 1)⟩,
  ⟨some 13, (some (10, true)), .lenStr (.tmp 12)⟩,
  ⟨some 14, (some (10, true)), .sliceStr (.tmp 11) none (some (.tmp 13))⟩,
  ⟨some 15, (some (10, true)), .mov (.tmp 1)⟩,
  ⟨some 16, (some (10, true)), .bin .eql (.tmp 14) (.tmp 15)⟩,
  ⟨some 17, none, .pick (.tmp 10) (.tmp 16) (.const (.bool false))⟩,
  ⟨some 4, none, .mov (.tmp 17)⟩])
 .ret))⟩
theorem c_int_stringslite_HasPrefix : (XTab.of Tryz.prog).code 265 = some k_int_stringslite_HasPrefix := by kernel_rfl
end Go.Proofs.YtladocoibpljnaaGreatDoor
set_option linter.unusedVariables false
set_option linter.unusedSectionVars false
set_option linter.unusedSimpArgs false
namespace Go.AE
variable [Globs]
def aopK (o : AOp) : Fr → AW → Option (Res × AW) :=
  match o with
  | .stuck => fun fr aw => none
  | .mov x => fun fr aw => valOf (x.ev fr) aw
  | .pick c a b => fun fr aw => match c.ev fr with
    | some (.bool true) => valOf (a.ev fr) aw
    | some (.bool false) => valOf (b.ev fr) aw
    | _ => none
  | .bin op x y => fun fr aw => match x.ev fr, y.ev fr with
    | some a, some b => valOf (aBin op a b) aw
    | _, _ => none
  | .eqv neg ty x y => fun fr aw => match x.ev fr, y.ev fr with
    | some a, some b => match eqV ty a b with
      | some r => some (.val (.bool (neg != r)), aw)
      | none => none
    | _, _ => none
  | .eqAgg neg l x y => fun fr aw => match x.ev fr, y.ev fr with
    | some (.agg a), some (.agg b) => match eqCells l a b with
      | some r => some (.val (.bool (neg != r)), aw)
      | none => none
    | _, _ => none
  | .un op x => fun fr aw => match x.ev fr with
    | some a => valOf (aUn op a) aw
    | none => none
  | .conv k x => fun fr aw => match x.ev fr with
    | some (.int _ n) => some (.val (.int k (k.wrap n)), aw)
    | _ => none
  | .convStr x => fun fr aw => match x.ev fr with
    | some (.str l) => some (.val (.str l), aw)
    | _ => none
  | .bytesOf x => fun fr aw => match x.ev fr with
    | some (.str l) => if l.length ≤ 70368744177664 then some (.val (.slice aw.next 0 l.length (.upTo 1)), aw.freshLax (intCells l)) else none
    | _ => none
  | .strOf x => fun fr aw => match x.ev fr with
    | some .nilslice => some (.val (.str []), aw)
    | some (.slice b off len cap) => match aw.elems 1 (.slice b off len cap) with
      | some (_, l) => match bytesV l with
        | some cs => some (.val (.str cs), aw)
        | none => none
      | none => none
    | _ => none
  | .nilCheck x => fun fr aw => match x.ev fr with
    | some (.ptr b off) => some (.val (.ptr b off), aw)
    | some (.func (.func f) a c) => some (.val (.func (.func f) a c), aw)
    | some (.iface t v) => some (.val (.iface t v), aw)
    | _ => none
  | .fieldAddr off x => fun fr aw => match x.ev fr with
    | some (.ptr b o) => some (.val (.ptr b (o + off)), aw)
    | _ => none
  | .indexAddr esz x i => fun fr aw => match x.ev fr, i.ev fr with
    | some (.slice b off len _), some iv => match idx iv with
      | some n => if n < len then some (.val (.ptr b (off + n * esz)), aw) else none
      | none => none
    | _, _ => none
  | .indexArr n esz x i => fun fr aw => match x.ev fr, i.ev fr with
    | some (.ptr b off), some iv => match idx iv with
      | some j => if j < n then some (.val (.ptr b (off + j * esz)), aw) else none
      | none => none
    | _, _ => none
  | .indexStr x i => fun fr aw => match x.ev fr, i.ev fr with
    | some (.str l), some iv => match idx iv with
      | some n => match l[n]? with
        | some c => some (.val (.int .u8 (Int.ofNat c)), aw)
        | none => none
      | none => none
    | _, _ => none
  | .indexAgg n esz agg x i => fun fr aw => match x.ev fr, i.ev fr with
    | some (.agg l), some iv => match idx iv with
      | some j => if j < n then valOf (partV l (j * esz) esz agg) aw else none
      | none => none
    | _, _ => none
  | .field off sz agg x => fun fr aw => match x.ev fr with
    | some (.agg l) => valOf (partV l off sz agg) aw
    | _ => none
  | .load sz agg a => fun fr aw => match a.ev fr with
    | some (.ptr b off) => match agg with
      | true => match aw.load b off sz with
        | some l => some (.val (.agg l), aw)
        | none => none
      | false => match aw.load b off 1 with
        | some [v] => some (.val v, aw)
        | _ => none
    | _ => none
  | .store sz a v => fun fr aw => match a.ev fr, v.ev fr with
    | some (.ptr b off), some v => if v.cells.length = sz then match aw.store b off v.cells with
        | some aw' => some (.skip, aw')
        | none => none
      else none
    | _, _ => none
  | .alloc zero => fun fr aw => some (.val (.ptr aw.next 0), aw.fresh zero)
  | .box x => fun fr aw => match x.ev fr with
    | some v => some (.val (.ptr aw.next 0), aw.fresh v.cells)
    | none => none
  | .build zero parts => fun fr aw => match evParts fr parts with
    | some ps => match fillV zero ps with
      | some l => some (.val (.agg l), aw)
      | none => none
    | none => none
  | .buildSlice len zero parts => fun fr aw => match evParts fr parts with
    | some ps => match fillV zero ps with
      | some l => some (.val (.slice aw.next 0 len (.known len)), aw.fresh l)
      | none => none
    | none => none
  | .mkSlice esz bytes zero l c => fun fr aw => match l.ev fr, c.ev fr with
    | some lv, some cv => match idx lv, idx cv with
      | some l, some c => if l ≤ c ∧ c ≤ 70368744177664 ∧ c * bytes ≤ 70368744177664 then
          some (.val (.slice aw.next 0 l (.known c)), aw.fresh ((List.replicate c zero).flatten))
        else none
      | _, _ => none
    | _, _ => none
  | .slice esz x lo hi mx => fun fr aw => match x.ev fr, evOpt fr lo, evOpt fr hi, evOpt fr mx with
    | some (.slice b off len cap), some lo, some hi, some mx => valOf (aw.sliceW esz b off len cap lo hi mx) aw
    | some .nilslice, some lo, some hi, some mx => match lo.getD 0, hi.getD 0, mx.getD 0 with
      | 0, 0, 0 => if mx.isSome = true → hi.isSome = true then some (.val .nilslice, aw) else none
      | _, _, _ => none
    | _, _, _, _ => none
  | .sliceStr x lo hi => fun fr aw => match x.ev fr, evOpt fr lo, evOpt fr hi with
    | some (.str s), some lo, some hi =>
      let h := hi.getD s.length
      let l := lo.getD 0
      if h ≤ s.length ∧ l ≤ h then some (.val (.str ((s.drop l).take (h - l))), aw) else none
    | _, _, _ => none
  | .sliceArr n esz x lo hi mx => fun fr aw => match x.ev fr, evOpt fr lo, evOpt fr hi, evOpt fr mx with
    | some (.ptr b off), some lo, some hi, some mx => valOf (sliceV esz b off n (.known n) lo hi mx) aw
    | _, _, _, _ => none
  | .mkMap => fun fr aw => some (.val (.map aw.next), aw.new (.map [] 0))
  | .lookup t zero ok m k => fun fr aw => match m.ev fr, k.ev fr with
    | some m, some k => match aw.lookV t zero m k with
      | some (v, b) => some (.val (match ok with | true => .tuple [v, .bool b] | false => v), aw)
      | none => none
    | _, _ => none
  | .mapUpdate t m k v => fun fr aw => match m.ev fr, k.ev fr, v.ev fr with
    | some m, some k, some v => match aw.putV t m k v with
      | some aw' => some (.skip, aw')
      | none => none
    | _, _, _ => none
  | .mapEntry t zero m k => fun fr aw => match m.ev fr, k.ev fr with
    | some m, some k => match aw.entries m, keyOk t k with
      | some (some b, es, ck), true => match findE t k es 0 with
        | some (some (i, v, n)) => some (.val (.tuple [v, .int .i64 (Int.ofNat n)]), aw.turn b (.map (setE i k v es) ck))
        | some none => some (.val (.tuple [zero, .int .i64 (Int.ofNat ck)]), aw.turn b (.map (es ++ [(k, zero, ck)]) (ck + 1)))
        | none => none
      | _, _ => none
    | _, _ => none
  | .entryStore m s v => fun fr aw => match m.ev fr, s.ev fr, v.ev fr with
    | some m, some s, some v => match aw.entries m, idx s with
      | some (some b, es, ck), some n => match es.findIdx? (fun e => Nat.beq e.2.2 n) with
        | some i => match es[i]? with
          | some (k, _, n) => some (.skip, aw.turn b (.map (es.set i (k, v, n)) ck))
          | none => none
        | none => none
      | _, _ => none
    | _, _, _ => none
  | .delete t m k => fun fr aw => match m.ev fr, k.ev fr with
    | some m, some k => match aw.entries m, keyOk t k with
      | some (none, _, _), true => some (.val (.tuple []), aw)
      | some (some b, es, ck), true => match findE t k es 0 with
        | some (some (i, _, _)) => some (.val (.tuple []), aw.turn b (.map (es.eraseIdx i) ck))
        | some none => some (.val (.tuple []), aw.turn b (.map es ck))
        | none => none
      | _, _ => none
    | _, _ => none
  | .mkIface t x => fun fr aw => match x.ev fr with
    | some v => some (.val (.iface t v), aw)
    | none => none
  | .typeAssert t zero ok x => fun fr aw => match x.ev fr with
    | some (.iface t' v) => match Nat.beq t' t with
      | true => some (.val (match ok with | true => .tuple [v, .bool true] | false => v), aw)
      | false => match ok with
        | true => some (.val (.tuple [zero, .bool false]), aw)
        | false => none
    | some .niliface => match ok with
      | true => some (.val (.tuple [zero, .bool false]), aw)
      | false => none
    | _ => none
  | .mkFunc fn first cap => fun fr aw => match evs fr first, evs fr cap with
    | some f, some c => some (.val (.func fn f c), aw)
    | _, _ => none
  | .extract i x => fun fr aw => match x.ev fr with
    | some (.tuple l) => valOf (l[i]?) aw
    | _ => none
  | .lenStr x => fun fr aw => match x.ev fr with
    | some (.str l) => some (.val (.int .i64 (Int.ofNat l.length)), aw)
    | _ => none
  | .lenSl x => fun fr aw => match x.ev fr with
    | some v => match lenV v with
      | some n => some (.val (.int .i64 (Int.ofNat n)), aw)
      | none => none
    | none => none
  | .lenMap x => fun fr aw => match x.ev fr with
    | some m => match aw.entries m with
      | some (_, es, _) => some (.val (.int .i64 (Int.ofNat es.length)), aw)
      | none => none
    | none => none
  | .lenArr n => fun fr aw => some (.val (.int .i64 (Int.ofNat n)), aw)
  | .cap x => fun fr aw => match x.ev fr with
    | some (.slice _ _ _ (.known c)) => some (.val (.int .i64 (Int.ofNat c)), aw)
    | some .nilslice => some (.val (.int .i64 (Int.ofNat 0)), aw)
    | _ => none
  | .mn xs => fun fr aw => match evs fr xs with
    | some (v :: rest) => valOf (minL v rest) aw
    | _ => none
  | .mx xs => fun fr aw => match evs fr xs with
    | some (v :: rest) => valOf (maxL v rest) aw
    | _ => none
  | .append esz bytes s x => fun fr aw => match s.ev fr, x.ev fr with
    | some s, some x => match aw.elems esz x with
      | some (k, news) => match aw.appendV esz bytes s k news with
        | some (v, aw') => some (.val v, aw')
        | none => none
      | none => none
    | _, _ => none
  | .copy esz d s => fun fr aw => match d.ev fr, s.ev fr with
    | some (.slice b off len _), some s => match aw.elems esz s with
      | some (k, l) => match takeN (min k len * esz) l with
        | some cs => match cs with
          | [] => some (.val (.int .i64 (Int.ofNat (min k len))), aw)
          | cs => match aw.store b off cs with
            | some aw' => some (.val (.int .i64 (Int.ofNat (min k len))), aw')
            | none => none
        | none => none
      | none => none
    | some .nilslice, some s => match aw.elems esz s with
      | some (k, l) => some (.val (.int .i64 0), aw)
      | none => none
    | _, _ => none
  | .clear zero x => fun fr aw => match x.ev fr with
    | some .nilslice => some (.val (.tuple []), aw)
    | some (.slice b off len _) => match len with
      | 0 => some (.val (.tuple []), aw)
      | len => match aw.store b off ((List.replicate len zero).flatten) with
        | some aw' => some (.val (.tuple []), aw')
        | none => none
    | _ => none
  | .clearMap x => fun fr aw => match x.ev fr with
    | some m => match aw.entries m with
      | some (none, _, _) => some (.val (.tuple []), aw)
      | some (some b, _, ck) => some (.val (.tuple []), aw.turn b (.map [] ck))
      | none => none
    | none => none
  | .call f args => fun fr aw => match f.ev fr, evs fr args with
    | some (.func (.func f) first cap), some args => some (.call f (first ++ args ++ cap), aw)
    | _, _ => none
  | .inv tbl x args => fun fr aw => match x.ev fr, evs fr args with
    | some (.iface t v), some args => match lookT tbl t with
      | some (f, none) => some (.call f (v :: args), aw)
      | some (f, some (sz, agg)) => match v with
        | .ptr b off => match agg with
          | true => match aw.load b off sz with
            | some l => some (.call f (.agg l :: args), aw)
            | none => none
          | false => match aw.load b off 1 with
            | some [u] => some (.call f (u :: args), aw)
            | _ => none
        | _ => none
      | none => none
    | _, _ => none
  | .rangeMap x => fun fr aw => match x.ev fr with
    | some m => match aw.entries m with
      | some (b, _, ck) => some (.val (.ptr aw.next 0), aw.new (.mapIter b (match b with | some _ => ck | none => 0) [] (match b with | some _ => ck | none => 0)))
      | none => none
    | none => none
  | .nextMap x => fun fr aw => match x.ev fr with
    | some (.ptr r 0) => match aw.heap.get r with
      | some (.mapIter none _ _ _) => some (.val (.tuple [.bool false]), aw)
      | some (.mapIter (some b) since seen last) => match aw.heap.get b with
        | some (.map es ck) => match Nat.ble since last && allOld since es with
          | true => match unseen seen es with
            | [] => some (.val (.tuple [.bool false]), aw)
            | [(k, v, n)] => some (.val (.tuple [.bool true, k, v]), aw.turn r (.mapIter (some b) since (seen ++ [n]) ck))
            | _ => none
          | false => none
        | _ => none
      | _ => none
    | _ => none
  | .entry x => fun fr aw => match x.ev fr with
    | some (.ptr r 0) => match aw.heap.get r with
      | some (.mapIter (some b) _ seen last) => match aw.heap.get b, lastN seen with
        | some (.map es ck), some st => match Nat.beq ck last with
          | true => match findS st es with
            | some (k, v) => some (.val (.tuple [k, v]), aw)
            | none => none
          | false => none
        | _, _ => none
      | _ => none
    | _ => none
theorem aopK_eq (o : AOp) (fr : Fr) (aw : AW) : aopK o fr aw = aop o fr aw := by cases o <;> rfl
def xOneK (x : XTab) (rec : X) (o : AOper) (fr : Fr) (aw : AW) : Option (V × AW) :=
  match wanted fr o.guard with
  | some true => match aopK o.op fr aw with
    | some (.val v, aw1) => some (v, aw1)
    | some (.skip, aw1) => some (.undef, aw1)
    | some (.call f args, aw0) => match x.ext f args aw0 with
      | some r => some r
      | none => xCall x rec f args aw0
    | none => none
  | some false => some (.undef, aw)
  | none => none
theorem xOneK_eq (x : XTab) (rec : X) (o : AOper) (fr : Fr) (aw : AW) : xOneK x rec o fr aw = xOne x rec o fr aw := by
  unfold xOneK xOne; rw [aopK_eq] <;> rfl
def xOpsK (x : XTab) (rec : X) : List AOper → Fr → AW → Option (Fr × AW)
  | [], fr, aw => some (fr, aw)
  | o :: l, fr, aw => match xOneK x rec o fr aw with
    | some (v, aw1) => xOpsK x rec l (putO fr o.dst v) aw1
    | none => none
theorem xOpsK_eq (x : XTab) (rec : X) : ∀ (l : List AOper) (fr : Fr) (aw : AW), xOpsK x rec l fr aw = xOps x rec l fr aw
  | [], fr, aw => rfl
  | o :: l, fr, aw => by
    simp only [xOpsK, xOps, xOneK_eq]
    cases xOne x rec o fr aw with
    | none => rfl
    | some r => exact xOpsK_eq x rec l _ _
def xStepK (x : XTab) (rec : X) : X := fun c => match c with
  | .skip => fun fr aw => some (.normal, fr, aw)
  | .region l => fun fr aw => match xOpsK x rec l fr aw with
    | some (fr', aw') => some (.normal, fr', aw')
    | none => none
  | .drawn l => fun fr aw => xStep x rec (.drawn l) fr aw
  | .seq a b => fun fr aw => match rec a fr aw with
    | some (.normal, fr1, aw1) => rec b fr1 aw1
    | r => r
  | .cond c a b => fun fr aw => match c.ev fr with
    | some (.bool true) => rec a fr aw
    | some (.bool false) => rec b fr aw
    | _ => none
  | .block id b => fun fr aw => match rec b fr aw with
    | some (.exit id', fr1, aw1) => match Nat.beq id' id with
      | true => some (.normal, fr1, aw1)
      | false => some (.exit id', fr1, aw1)
    | r => r
  | .loop b => fun fr aw => match rec b fr aw with
    | some (.normal, fr1, aw1) => rec (.loop b) fr1 aw1
    | r => r
  | .exit id => fun fr aw => some (.exit id, fr, aw)
  | .scope b => fun fr aw => rec b fr aw
  | .ret => fun fr aw => some (.ret, fr, aw)
theorem xStepK_eq (x : XTab) (rec : X) (c : ACode) (fr : Fr) (aw : AW) : xStepK x rec c fr aw = xStep x rec c fr aw := by
  cases c <;> try rfl
  rename_i l
  simp only [xStepK, xStep, xOpsK_eq] <;> rfl
def xRunK (x : XTab) (n : Nat) : X := Nat.rec (fun _ _ _ => none) (fun _ ih => xStepK x ih) n
theorem xRunK_eq (x : XTab) : ∀ n, xRunK x n = xRun x n
  | 0 => rfl
  | n + 1 => by
    show xStepK x (xRunK x n) = xStep x (xRun x n)
    rw [xRunK_eq x n]
    funext c fr aw
    exact xStepK_eq _ _ _ _ _
theorem runK_true {x : XTab} {n f : Nat} {args : List V} {aw : AW} (h : isTrue (xCall x (xRunK x n) f args aw) = true) : isTrue (xCall x (xRun x n) f args aw) = true := by
  rw [← xRunK_eq]; exact h
end Go.AE
set_option linter.unusedVariables false
set_option linter.unusedSectionVars false
set_option linter.unusedSimpArgs false
open Go.RowKit
namespace Go.AE
variable [Globs]
theorem BR.same {aw : AW} {m : Map} {w w' : World} {b : Nat} {e : Emb} (h : w'.heap[e.c]? = w.heap[e.c]?) : ∀ {x : Blk}, BR aw m w b e x → BR aw m w' b e x := by
  intro x hx
  cases x with
  | cells l sh => intro ha; obtain ⟨cur, t, lo, hi, h1, h2⟩ := hx ha; exact ⟨cur, t, lo, hi, h.trans h1, h2⟩
  | map es ck => obtain ⟨es', h1, h2⟩ := hx; exact ⟨es', h.trans h1, h2⟩
  | mapIter x s q l => obtain ⟨h0, r, h1, h2⟩ := hx; exact ⟨h0, r, h.trans h1, h2⟩
theorem R.below {aw : AW} {w w' : World} {m : Map} {base : Nat} (hR : R aw w m base) (h : Below w.heap.size w w') : R aw w' m base ∧ Goes aw aw w w' m m := by
  have hb : ∀ b e, m b = some e → w'.heap[e.c]? = w.heap[e.c]? := fun b e he => h.block e.c (hR.lt b e he).2
  refine ⟨⟨hR.glob, hR.gblk, hR.famlt, Nat.le_trans hR.size h.size, fun b e he => ⟨(hR.lt b e he).1, Nat.lt_of_lt_of_le (hR.lt b e he).2 h.size⟩, hR.base, fun b e x he hx => (hR.blk b e x he hx).same (hb b e he), hR.apart, hR.fam⟩, ?_⟩
  exact ⟨.refl m, fun b e he => .inl he, Nat.le_refl _, h.size, h.os, h.tape, h.output, fun b l hl _ => hl, fun b l hl _ => ⟨l, hl⟩, fun c hc _ => h.block c hc, fun b _ hx => hx, fun _ _ _ => rfl⟩
def idxN : List Nat → Nat → Option Nat
  | [], _ => none
  | b :: l, c => match Nat.beq b c with
    | true => some 0
    | false => match idxN l c with
      | some n => some (n + 1)
      | none => none
def idxV (o : Option Nat) : V :=
  match o with
  | some n => .int .i64 (Int.ofNat n)
  | none => .int .i64 (-1)
def extIdx (args : List V) : Option V :=
  match args with
  | [.str l, .int .u8 (.ofNat c)] => match Nat.blt c 256 with
    | true => some (idxV (idxN l c))
    | false => none
  | _ => none
theorem idxN_ok {c : Nat} (hc : c < 256) : ∀ (l : List UInt8), V.int .i64 (Lib.indexByte l c.toUInt8) = idxV (idxN (l.map UInt8.toNat) c)
  | [] => rfl
  | b :: l => by
    have ih := idxN_ok hc l
    have hb : (b == c.toUInt8) = Nat.beq b.toNat c := by
      cases h : Nat.beq b.toNat c with
      | true =>
        have := Nat.eq_of_beq_eq_true h
        rw [beq_iff_eq]
        apply UInt8.toNat.inj
        rw [this]
        simp only [Nat.toUInt8, UInt8.toNat_ofNat']
        omega
      | false =>
        rw [beq_eq_false_iff_ne]
        intro he
        subst he
        have : (Nat.toUInt8 c).toNat = c := by simp only [Nat.toUInt8, UInt8.toNat_ofNat']; omega
        rw [this, Nat.beq_refl] at h; cases h
    simp only [Lib.indexByte, List.map_cons, idxN]
    rw [hb]
    cases h : Nat.beq b.toNat c with
    | true => rfl
    | false =>
      simp only [Bool.false_eq_true, if_false]
      cases hn : idxN (l.map UInt8.toNat) c with
      | none =>
        rw [hn] at ih
        simp only [idxV, V.int.injEq, true_and] at ih ⊢
        rw [ih]; rfl
      | some n =>
        rw [hn] at ih
        simp only [idxV, V.int.injEq, true_and] at ih ⊢
        rw [ih]
        have : (Int.ofNat n == -1) = false := by rw [beq_eq_false_iff_ne]; intro hh; cases hh
        rw [this]
        rfl
theorem extIdx_ok {P : Program} {f : Nat} {fn : Func} (hf : P.funcs[f]? = some fn) (h1 : (fn.name == "runtime.NumGoroutine") = false) (h2 : fn.body.isNone = true) (h3 : Extern.findNext fn = none) (h4 : Extern.find fn = some Extern.BytealgIndexByte.indexByte)
    {args : List V} {v : V} (h : extIdx args = some v) (w : World) (m : Map) (args' : Array Value) (hargs : VRs m args args'.toList) : ∃ v', (callFunc f args').run P w = .ok (.value v') w ∧ VR m v v' := by
  unfold extIdx at h
  split at h
  · rename_i l c
    split at h
    · rename_i hc
      cases h
      have hc := Nat.blt_eq.mp hc
      obtain ⟨y, ys, e1, ⟨s, rfl, hs⟩, e2⟩ := hargs
      obtain ⟨y2, ys2, e3, rfl, e4⟩ := e2
      cases e4
      obtain rfl : args' = #[.string s, .int .u8 (Int.ofNat c)] := by cases args'; simp_all
      refine ⟨_, by rw [run_callFunc_extern hf h1 h2 h3 h4, Lib.run_indexByteString]; rfl, ?_⟩
      have hx := idxN_ok hc s.data.toList
      have hl : s.data.toList.map UInt8.toNat = l := hs
      rw [hl] at hx
      rw [← hx]
      rfl
    · cases h
  · cases h
def cmpN : List Nat → List Nat → Int
  | [], [] => 0
  | [], _ :: _ => -1
  | _ :: _, [] => 1
  | a :: ar, b :: bs => match Nat.blt a b with
    | true => -1
    | false => match Nat.blt b a with
      | true => 1
      | false => cmpN ar bs
def extCmp (args : List V) : Option V :=
  match args with
  | [.str a, .str b] => some (.int .i64 (cmpN a b))
  | _ => none
theorem cmpN_ok : ∀ (a b : List UInt8), Lib.compareBytes a b = cmpN (a.map UInt8.toNat) (b.map UInt8.toNat)
  | [], [] => rfl
  | [], _ :: _ => rfl
  | _ :: _, [] => rfl
  | a :: ar, b :: bs => by
    simp only [Lib.compareBytes, List.map_cons, cmpN]
    have h1 : (a < b) = (Nat.blt a.toNat b.toNat = true) := by rw [Nat.blt_eq]; exact propext UInt8.lt_iff_toNat_lt
    have h2 : (b < a) = (Nat.blt b.toNat a.toNat = true) := by rw [Nat.blt_eq]; exact propext UInt8.lt_iff_toNat_lt
    simp only [h1, h2]
    cases Nat.blt a.toNat b.toNat with
    | true => rfl
    | false =>
      cases Nat.blt b.toNat a.toNat with
      | true => rfl
      | false => exact cmpN_ok ar bs
theorem extCmp_ok {P : Program} {f : Nat} {fn : Func} (hf : P.funcs[f]? = some fn) (h1 : (fn.name == "runtime.NumGoroutine") = false) (h2 : fn.body.isNone = true) (h3 : Extern.findNext fn = none) (h4 : Extern.find fn = some Extern.BytealgCompare.compare)
    {args : List V} {v : V} (h : extCmp args = some v) (w : World) (m : Map) (args' : Array Value) (hargs : VRs m args args'.toList) : ∃ v', (callFunc f args').run P w = .ok (.value v') w ∧ VR m v v' := by
  unfold extCmp at h
  split at h
  · rename_i a b
    cases h
    obtain ⟨y, ys, e1, ⟨s, rfl, hs⟩, e2⟩ := hargs
    obtain ⟨y2, ys2, e3, ⟨s2, rfl, hs2⟩, e4⟩ := e2
    cases e4
    obtain rfl : args' = #[.string s, .string s2] := by cases args'; simp_all
    refine ⟨_, by rw [run_callFunc_extern hf h1 h2 h3 h4, Lib.run_compareString]; rfl, ?_⟩
    show Value.int .i64 _ = _
    rw [cmpN_ok]
    have e1 : s.data.toList.map UInt8.toNat = a := hs
    have e2 : s2.data.toList.map UInt8.toNat = b := hs2
    rw [e1, e2]
  · cases h
theorem ext_still {P : Program} {f : Nat} {v : V} {aw : AW} {w : World} {m : Map} {base : Nat} {args' : Array Value} (hR : R aw w m base) (h : ∃ v', (callFunc f args').run P w = .ok (.value v') w ∧ VR m v v') : ∃ v' w' m', (callFunc f args').run P w = .ok (.value v') w' ∧ VR m' v v' ∧ R aw w' m' base ∧ Goes aw aw w w' m m' := by
  obtain ⟨v', h1, h2⟩ := h
  exact ⟨v', w, m, h1, h2, hR, .refl _ _ _⟩
end Go.AE
set_option linter.unusedVariables false
set_option linter.unusedSectionVars false
set_option linter.unusedSimpArgs false
open Go.RowKit Go.WideShapes Go.ChangeShapes
namespace Go.AE
variable [Globs]
section
variable {H : Type} {enc : TypeId × Value → H} {P : Program}
theorem below_trodAll (hl : laidOutB P = true) {W W' : World} (hb : Below W.heap.size W W') : ∀ {ts : List TypeId} {vs : List Value} {ds : List (DataW H)} {ps : List MemPlace}, (∀ t ∈ ts, P.readableRec t = true ∧ t < P.types.size) →
    DataW.TrodAll enc P W 0 (fun _ => true) true ts vs ds ps → (∀ x ∈ ps, x.block < W.heap.size) → DataW.TrodAll enc P W' 0 (fun b => decide (b < W.heap.size)) true ts vs ds ps
  | [], vs, ds, ps, _, h, _ => by
    obtain ⟨rfl, rfl, rfl⟩ := trodAll_nil h
    exact trodAll_mk0
  | t :: ts, vs, ds, ps, hr, h, hlt => by
    obtain ⟨v, vs', d, ds', p, q, rfl, rfl, rfl, hd, hrest⟩ := trodAll_cons h
    have h1 := hr t (by simp)
    exact trodAll_cons_mk (Below.trod hl h1.1 h1.2 hd hb (fun x hx => hlt x (by simp [hx]))) (below_trodAll hl hb (fun t ht => hr t (by simp [ht])) hrest (fun x hx => hlt x (by simp [hx])))
theorem law_post {f : Func} {s : ChangeSpec} {apart fresh handsOn : Bool} {W W' : World} {args : Array Value} {ds gs : List (DataW H)} {before : List MemPlace} {tb : TypeId}
    (hW : DataW.Whole enc P f.params.toList s.vars apart W args.toList ds gs before) (hl : laidOutB P = true) (hr : ∀ t ∈ f.params.toList, P.readableRec t = true ∧ t < P.types.size)
    (hb : Below W.heap.size W W') (hsv : s.vars = []) (hres : f.resultTypes = #[tb]) (htb : P.underlying tb = some .bool) (hfn : (s.fn H (ds ++ gs)).results = [.lit (.bool true)]) (hfa : (s.fn H (ds ++ gs)).args = ds) (hfv : (s.fn H (ds ++ gs)).vars = []) :
    s.post enc P f apart fresh handsOn false W args (.bool true) W' := by
  have hlt : ∀ x ∈ before, x.block < W.heap.size := fun x hx => hW.lt x hx
  obtain ⟨p, q, hA, hV, hbe, hfz, hnd⟩ := id hW
  rw [hsv] at hV
  obtain ⟨rfl, rfl⟩ := trodVars_none hV
  have hbe' : before = p := by simpa using hbe
  subst hbe'
  have hA' := below_trodAll hl hb hr hA hlt
  refine ⟨ds, [], before, [], before, [], hW, ?_, ?_, ?_, hb.frame _, fun h => by cases h⟩
  · rw [hfn, hres]
    exact trodAll_cons_mk (shut_bool htb _) trodAll_mk0
  · rw [hfa]; exact hA'
  · rw [hfv, hsv]; exact rfl
end
end Go.AE
set_option linter.unusedVariables false
set_option linter.unusedSectionVars false
set_option linter.unusedSimpArgs false
open Go.RowKit Go.WideShapes Go.ChangeShapes
namespace Go.AE
variable [Globs]
structure RoExt (aw aw' : AW) : Prop where
  next : aw.next ≤ aw'.next
  heap : ∀ b, b < aw.next → aw'.heap.get b = aw.heap.get b
theorem RoExt.refl (aw : AW) : RoExt aw aw := ⟨Nat.le_refl _, fun _ _ => rfl⟩
theorem RoExt.trans {a b c : AW} (h : RoExt a b) (h' : RoExt b c) : RoExt a c := ⟨Nat.le_trans h.next h'.next, fun k hk => (h'.heap k (Nat.lt_of_lt_of_le hk h.next)).trans (h.heap k hk)⟩
theorem RoExt.new (aw : AW) (x : Blk) : RoExt aw (aw.new x) := ⟨Nat.le_succ _, fun b hb => T.get_put_ne (by omega)⟩
inductive All2 {α β : Type} (r : α → β → Prop) : List α → List β → Prop
  | nil : All2 r [] []
  | cons {a b l m} : r a b → All2 r l m → All2 r (a :: l) (b :: m)
theorem All2.imp {α β : Type} {r q : α → β → Prop} (h : ∀ a b, r a b → q a b) : ∀ {l : List α} {m : List β}, All2 r l m → All2 q l m
  | [], _, .nil => .nil
  | _ :: _, _, .cons h1 h2 => .cons (h _ _ h1) (All2.imp h h2)
theorem All2.len {α β : Type} {r : α → β → Prop} : ∀ {l : List α} {m : List β}, All2 r l m → l.length = m.length
  | [], _, .nil => rfl
  | _ :: _, _, .cons _ h2 => by simp [All2.len h2]
theorem All2.snoc {α β : Type} {r : α → β → Prop} {a : α} {b : β} (h : r a b) : ∀ {l : List α} {m : List β}, All2 r l m → All2 r (l ++ [a]) (m ++ [b])
  | [], _, .nil => .cons h .nil
  | _ :: _, _, .cons h1 h2 => .cons h1 (All2.snoc h h2)
theorem All2.get {α β : Type} {r : α → β → Prop} : ∀ {l : List α} {m : List β}, All2 r l m → ∀ {i : Nat} {a : α}, l[i]? = some a → ∃ b, m[i]? = some b ∧ r a b
  | [], _, .nil, i, a, h => by simp at h
  | x :: l, y :: m, .cons h1 h2, 0, a, h => by simp at h; subst h; exact ⟨y, rfl, h1⟩
  | x :: l, y :: m, .cons h1 h2, i + 1, a, h => by simpa using All2.get h2 (i := i) (by simpa using h)
section
variable {H : Type} {enc : TypeId × Value → H} {P : Program} {w : World}
end
end Go.AE
namespace Go.AE
variable [Globs]
section
variable {H : Type} {enc : TypeId × Value → H} {P : Program} {w : World}
end
end Go.AE
set_option linter.unusedVariables false
set_option linter.unusedSectionVars false
set_option linter.unusedSimpArgs false
open Go.RowKit
namespace Go.AE
variable [Globs]
theorem R.bind {y : AW} {w : World} {m : Map} {base n c tot : Nat} (hR : R y w m base) {x : Blk} (hn : n < y.next) (hm : m n = none) (hx : y.heap.get n = some x) (hl : x.lone = true) (hcl : c < w.heap.size) (hcb : base ≤ c) (hfr : ∀ b e, m b = some e → e.c ≠ c)
    (hb : BR y (m.set n ⟨c, 0, tot⟩) w n ⟨c, 0, tot⟩ x) : R y w (m.set n ⟨c, 0, tot⟩) base := by
  have hle : m.le (m.set n ⟨c, 0, tot⟩) := Map.le_set hm
  have hnf : ∀ {l : List V} {f : Nat}, y.heap.get n ≠ some (.cells l (.fam f)) := by
    intro l f h; rw [hx] at h; cases h; cases hl
  refine ⟨hR.glob.le hle, hR.gblk, fun b e l f h hy => ?_, hR.size, fun b e h => ?_, fun b e h => ?_, fun b e z h hz => ?_, fun b e z b' e' z' h hz h' hz' h1 h2 hne hec => ?_, fun f F hF => ?_⟩
  · rcases Map.set_cases h with ⟨rfl, rfl⟩ | ⟨h1, h2⟩
    · exact absurd hy hnf
    · exact hR.famlt b e l f h2 hy
  · rcases Map.set_cases h with ⟨rfl, rfl⟩ | ⟨h1, h2⟩
    · exact ⟨hn, hcl⟩
    · exact hR.lt b e h2
  · rcases Map.set_cases h with ⟨rfl, rfl⟩ | ⟨h1, h2⟩
    · exact .inl hcb
    · exact hR.base b e h2
  · rcases Map.set_cases h with ⟨rfl, rfl⟩ | ⟨h1, h2⟩
    · rw [hx] at hz; cases hz; exact hb
    · exact BR.mono hle (fun _ _ _ h => h) rfl (hR.blk b e z h2 hz)
  · rcases Map.set_cases h with ⟨rfl, rfl⟩ | ⟨k1, k2⟩
    · rcases Map.set_cases h' with ⟨rfl, rfl⟩ | ⟨k3, k4⟩
      · exact absurd rfl hne
      · exact absurd hec.symm (hfr b' e' k4)
    · rcases Map.set_cases h' with ⟨rfl, rfl⟩ | ⟨k3, k4⟩
      · exact absurd hec (hfr b e k2)
      · exact hR.apart b e z b' e' z' k2 hz k4 hz' h1 h2 hne hec
  · obtain ⟨h1, h2⟩ := hR.fam f F hF
    refine ⟨h1, fun b e l e' l' h hy ha h' hy' hec => ?_⟩
    rcases Map.set_cases h with ⟨rfl, rfl⟩ | ⟨k1, k2⟩
    · exact absurd hy hnf
    · rcases Map.set_cases h' with ⟨q, rfl⟩ | ⟨k3, k4⟩
      · rw [q] at hy'; exact absurd hy' hnf
      · exact h2 b e l e' l' k2 hy ha k4 hy' hec
theorem R.take {aw : AW} {w w' : World} {m : Map} {base : Nat} (hR : R aw w m base) (hb : Below w.heap.size w w') {c lo hi : Nat} {cur : Array Value} {t : TypeId} {l : List V} (hc : w.heap.size ≤ c) (hx : w'.heap[c]? = some (.cells cur t (lo, hi))) (hlh : lo = hi) (hl : CR m l 0 cur) (hsz : l.length ≤ cur.size) :
    R (aw.fresh l) w' (m.set aw.next ⟨c, 0, cur.size⟩) base ∧ Goes aw (aw.fresh l) w w' m (m.set aw.next ⟨c, 0, cur.size⟩) := by
  obtain ⟨h1, h2⟩ := hR.below hb
  have hnone : m aw.next = none := next_none hR
  have hle : m.le (m.set aw.next ⟨c, 0, cur.size⟩) := Map.le_set hnone
  have hcl : c < w'.heap.size := (Array.getElem?_eq_some_iff.1 hx).1
  refine ⟨(h1.pad (.cells l .own)).bind (Nat.lt_succ_self _) hnone T.get_put_same rfl hcl (Nat.le_trans hR.size hc) (fun b e he hec => ?_) (fun _ => ⟨cur, t, lo, hi, hx, rfl, by simpa using hsz, .inr (.inl ⟨hlh, fun _ => rfl⟩), hl.mono hle⟩), ?_⟩
  · have := (hR.lt b e he).2; omega
  · have h3 := h2.pad (.cells l .own)
    refine ⟨hle, fun b e hbe => ?_, h3.next, h3.size, h3.os, h3.tape, h3.output, h3.ro, h3.roOld, h3.frame, h3.none, h3.unm⟩
    rcases Map.set_cases hbe with ⟨rfl, rfl⟩ | ⟨_, h4⟩
    · exact .inr ⟨Nat.le_refl _, .inl hc⟩
    · exact .inl h4
end Go.AE
set_option linter.unusedVariables false
set_option linter.unusedSectionVars false
set_option linter.unusedSimpArgs false
open Go.RowKit
namespace Go.AE
variable [Globs]
section
end
end Go.AE
set_option linter.unusedVariables false
set_option maxRecDepth 100000
namespace Go.Proofs.YtladocoibpljnaaGreatDoor
open Go.AE Go.RowKit
inductive BT where
  | l
  | n (k : Nat) (f : AFun) (a b : BT)
def BT.look : BT → Nat → Option AFun
  | .l => fun _ => Option.none
  | .n k f a b => fun x => match Nat.beq x k with
    | true => some f
    | false => match Nat.ble x k with
      | true => a.look x
      | false => b.look x
def BT.All (P : Nat → AFun → Prop) : BT → Prop
  | .l => True
  | .n k f a b => P k f ∧ a.All P ∧ b.All P
theorem BT.look_all {P : Nat → AFun → Prop} : ∀ {t : BT}, t.All P → ∀ {x : Nat} {f : AFun}, t.look x = some f → P x f
  | .l, _, x, f, h => by cases h
  | .n k g a b, ⟨h1, h2, h3⟩, x, f, h => by
    unfold BT.look at h
    split at h
    · rename_i he
      cases h
      rw [Nat.eq_of_beq_eq_true he]; exact h1
    · split at h
      · exact look_all h2 h
      · exact look_all h3 h
theorem T : True := trivial
def codeB : BT := (.n 106 k_slices_insertionSortCmpFunc_api_Fact 
 (.n 56 k_check_Defined 
 (.n 28 k_value_Compare 
 (.n 17 k_value_New 
 (.n 10 k_law26_begun 
 (.n 8 k_model_Make 
 (.n 5 k_law26_HistoryTwice 
 (.n 4 k_law26_HistoryOld .l .l) .l) 
 (.n 9 k_model_Model_Facts .l .l)) 
 (.n 12 k_history_Some 
 (.n 11 k_history_Judge .l .l) 
 (.n 16 k_model_ask .l .l))) 
 (.n 23 k_model_Model_Set 
 (.n 19 k_model_Model_add 
 (.n 18 k_value_Table_Id .l .l) 
 (.n 20 k_strata_Order .l .l)) 
 (.n 25 k_value_Table_Term 
 (.n 24 k_relation_Set_All .l .l) 
 (.n 26 k_slices_SortFunc_api_Fact_api_Fact .l .l)))) 
 (.n 38 k_history_ahead 
 (.n 32 k_history_Book_Ops 
 (.n 30 k_history_Book_Asked 
 (.n 29 k_history_New .l .l) 
 (.n 31 k_history_Book_Answered .l .l)) 
 (.n 34 k_history_judge_ordered 
 (.n 33 k_history_play .l .l) 
 (.n 35 k_slices_SortStableFunc_int_int .l .l))) 
 (.n 50 k_model_ask_2 
 (.n 46 k_slices_ContainsFunc_api_Rule_api_Rule 
 (.n 39 k_history_some .l .l) 
 (.n 49 k_slices_ContainsFunc_api_Fact_api_Fact .l .l)) 
 (.n 54 k_check_Arities 
 (.n 51 k_model_Fact .l .l) 
 (.n 55 k_model_ask_4 .l .l))))) 
 (.n 79 k_slices_ContainsFunc_api_Op_api_Op 
 (.n 70 k_history_Book_find 
 (.n 66 k_relation_Set_Match 
 (.n 59 k_relation_New 
 (.n 58 k_value_May 
 (.n 57 k_strata_Of .l .l) .l) 
 (.n 60 k_relation_Set_Add .l .l)) 
 (.n 68 k_math_bits_Len 
 (.n 67 k_slices_pdqsortCmpFunc_api_Fact .l .l) 
 (.n 69 k_value_Less .l .l))) 
 (.n 74 k_machine_Machine_Ask 
 (.n 72 k_machine_New 
 (.n 71 k_slices_Clone_string_string .l .l) 
 (.n 73 k_history_same .l .l)) 
 (.n 76 k_history_judge_fill 
 (.n 75 k_machine_Machine_Apply .l .l) 
 (.n 77 k_slices_stableCmpFunc_int .l .l)))) 
 (.n 93 k_slices_ContainsFunc_api_Term_api_Term 
 (.n 83 k_slices_Clone_api_Op_api_Op 
 (.n 81 k_history_some_2 
 (.n 80 k_history_some_1 .l .l) 
 (.n 82 k_history_answer .l .l)) 
 (.n 91 k_slices_IndexFunc_api_Fact_api_Fact 
 (.n 87 k_slices_IndexFunc_api_Rule_api_Rule .l .l) 
 (.n 92 k_value_Word .l .l))) 
 (.n 98 k_relation_Set_find 
 (.n 96 k_check_Arities_1 
 (.n 94 k_model_Fact_1 .l .l) 
 (.n 97 k_strata_heads .l .l)) 
 (.n 100 k_slices_Clone_relation_Row_int 
 (.n 99 k_slices_Insert_relation_Row_relation_Row .l .l) 
 (.n 105 k_relation_fits .l .l)))))) 
 (.n 208 k_syntax_parser_atom 
 (.n 165 k_machine_Machine_insert 
 (.n 123 k_machine_Machine_do 
 (.n 119 k_slices_Equal_string_string 
 (.n 117 k_history_Book_find_1 
 (.n 116 k_slices_IndexFunc_api_Op_api_Op 
 (.n 115 k_math_bits_Len64 .l .l) .l) 
 (.n 118 k_machine_Of .l .l)) 
 (.n 121 k_command_May 
 (.n 120 k_ask_Text .l .l) 
 (.n 122 k_machine_own .l .l))) 
 (.n 133 k_slices_BinarySearchFunc_relation_Row_relation_Row_relation_Row 
 (.n 125 k_slices_insertionSortCmpFunc_int 
 (.n 124 k_machine_Machine_Set .l .l) 
 (.n 132 k_slices_IndexFunc_api_Term_api_Term .l .l)) 
 (.n 162 k_syntax_Query 
 (.n 161 k_incr_New .l .l) 
 (.n 163 k_ask_Rows .l .l)))) 
 (.n 190 k_value_Fact 
 (.n 185 k_slices_CompactFunc_api_Fact_api_Fact 
 (.n 183 k_incr_Live_turn 
 (.n 166 k_machine_Machine_retract .l .l) 
 (.n 184 k_incr_order .l .l)) 
 (.n 188 k_incr_Live_Facts 
 (.n 187 k_syntax_single .l .l) 
 (.n 189 k_ask_fits .l .l))) 
 (.n 203 k_incr_rules 
 (.n 194 k_incr_Live_Insert 
 (.n 193 k_machine_Machine_fact .l .l) 
 (.n 195 k_incr_Live_Retract .l .l)) 
 (.n 205 k_strings_Compare 
 (.n 204 k_incr_facts .l .l) 
 (.n 207 k_syntax_open .l .l))))) 
 (.n 228 k_syntax_parser_is 
 (.n 219 k_incr_Live_Retract_1 
 (.n 215 k_syntax_Fact 
 (.n 212 k_incr_Live_model 
 (.n 210 k_syntax_parser_end 
 (.n 209 k_syntax_parser_take .l .l) .l) 
 (.n 213 k_value_Atom .l .l)) 
 (.n 217 k_incr_Live_Insert_1 
 (.n 216 k_incr_Live_kept .l .l) 
 (.n 218 k_slices_Insert_api_Fact_api_Fact .l .l))) 
 (.n 224 k_lex_Front 
 (.n 222 k_slices_Clone_api_Term_api_Term 
 (.n 220 k_slices_Delete_api_Fact_api_Fact .l .l) 
 (.n 223 k_int_bytealg_CompareString .l .l)) 
 (.n 226 k_syntax_parser_term 
 (.n 225 k_syntax_parser_next .l .l) 
 (.n 227 k_syntax_parser_must .l .l)))) 
 (.n 252 k_lex_run 
 (.n 240 k_lex_word 
 (.n 231 k_slices_BinarySearchFunc_api_Fact_api_Fact_api_Fact 
 (.n 229 k_value_Print .l .l) 
 (.n 239 k_lex_blank .l .l)) 
 (.n 250 k_strings_IndexByte 
 (.n 241 k_syntax_parser_peek .l .l) 
 (.n 251 k_lex_small .l .l))) 
 (.n 256 k_lex_digit 
 (.n 254 k_lex_great 
 (.n 253 k_lex_named .l .l) 
 (.n 255 k_lex_word_1 .l .l)) 
 (.n 264 k_int_stringslite_IndexByte 
 (.n 258 k_strings_HasPrefix .l .l) 
 (.n 265 k_int_stringslite_HasPrefix .l .l)))))))
theorem codeB_ok : codeB.All fun k f => (XTab.of Tryz.prog).code k = some f := ⟨c_slices_insertionSortCmpFunc_api_Fact,
 ⟨c_check_Defined,
 ⟨c_value_Compare,
 ⟨c_value_New,
 ⟨c_law26_begun,
 ⟨c_model_Make,
 ⟨c_law26_HistoryTwice,
 ⟨c_law26_HistoryOld, T, T⟩, T⟩,
 ⟨c_model_Model_Facts, T, T⟩⟩,
 ⟨c_history_Some,
 ⟨c_history_Judge, T, T⟩,
 ⟨c_model_ask, T, T⟩⟩⟩,
 ⟨c_model_Model_Set,
 ⟨c_model_Model_add,
 ⟨c_value_Table_Id, T, T⟩,
 ⟨c_strata_Order, T, T⟩⟩,
 ⟨c_value_Table_Term,
 ⟨c_relation_Set_All, T, T⟩,
 ⟨c_slices_SortFunc_api_Fact_api_Fact, T, T⟩⟩⟩⟩,
 ⟨c_history_ahead,
 ⟨c_history_Book_Ops,
 ⟨c_history_Book_Asked,
 ⟨c_history_New, T, T⟩,
 ⟨c_history_Book_Answered, T, T⟩⟩,
 ⟨c_history_judge_ordered,
 ⟨c_history_play, T, T⟩,
 ⟨c_slices_SortStableFunc_int_int, T, T⟩⟩⟩,
 ⟨c_model_ask_2,
 ⟨c_slices_ContainsFunc_api_Rule_api_Rule,
 ⟨c_history_some, T, T⟩,
 ⟨c_slices_ContainsFunc_api_Fact_api_Fact, T, T⟩⟩,
 ⟨c_check_Arities,
 ⟨c_model_Fact, T, T⟩,
 ⟨c_model_ask_4, T, T⟩⟩⟩⟩⟩,
 ⟨c_slices_ContainsFunc_api_Op_api_Op,
 ⟨c_history_Book_find,
 ⟨c_relation_Set_Match,
 ⟨c_relation_New,
 ⟨c_value_May,
 ⟨c_strata_Of, T, T⟩, T⟩,
 ⟨c_relation_Set_Add, T, T⟩⟩,
 ⟨c_math_bits_Len,
 ⟨c_slices_pdqsortCmpFunc_api_Fact, T, T⟩,
 ⟨c_value_Less, T, T⟩⟩⟩,
 ⟨c_machine_Machine_Ask,
 ⟨c_machine_New,
 ⟨c_slices_Clone_string_string, T, T⟩,
 ⟨c_history_same, T, T⟩⟩,
 ⟨c_history_judge_fill,
 ⟨c_machine_Machine_Apply, T, T⟩,
 ⟨c_slices_stableCmpFunc_int, T, T⟩⟩⟩⟩,
 ⟨c_slices_ContainsFunc_api_Term_api_Term,
 ⟨c_slices_Clone_api_Op_api_Op,
 ⟨c_history_some_2,
 ⟨c_history_some_1, T, T⟩,
 ⟨c_history_answer, T, T⟩⟩,
 ⟨c_slices_IndexFunc_api_Fact_api_Fact,
 ⟨c_slices_IndexFunc_api_Rule_api_Rule, T, T⟩,
 ⟨c_value_Word, T, T⟩⟩⟩,
 ⟨c_relation_Set_find,
 ⟨c_check_Arities_1,
 ⟨c_model_Fact_1, T, T⟩,
 ⟨c_strata_heads, T, T⟩⟩,
 ⟨c_slices_Clone_relation_Row_int,
 ⟨c_slices_Insert_relation_Row_relation_Row, T, T⟩,
 ⟨c_relation_fits, T, T⟩⟩⟩⟩⟩⟩,
 ⟨c_syntax_parser_atom,
 ⟨c_machine_Machine_insert,
 ⟨c_machine_Machine_do,
 ⟨c_slices_Equal_string_string,
 ⟨c_history_Book_find_1,
 ⟨c_slices_IndexFunc_api_Op_api_Op,
 ⟨c_math_bits_Len64, T, T⟩, T⟩,
 ⟨c_machine_Of, T, T⟩⟩,
 ⟨c_command_May,
 ⟨c_ask_Text, T, T⟩,
 ⟨c_machine_own, T, T⟩⟩⟩,
 ⟨c_slices_BinarySearchFunc_relation_Row_relation_Row_relation_Row,
 ⟨c_slices_insertionSortCmpFunc_int,
 ⟨c_machine_Machine_Set, T, T⟩,
 ⟨c_slices_IndexFunc_api_Term_api_Term, T, T⟩⟩,
 ⟨c_syntax_Query,
 ⟨c_incr_New, T, T⟩,
 ⟨c_ask_Rows, T, T⟩⟩⟩⟩,
 ⟨c_value_Fact,
 ⟨c_slices_CompactFunc_api_Fact_api_Fact,
 ⟨c_incr_Live_turn,
 ⟨c_machine_Machine_retract, T, T⟩,
 ⟨c_incr_order, T, T⟩⟩,
 ⟨c_incr_Live_Facts,
 ⟨c_syntax_single, T, T⟩,
 ⟨c_ask_fits, T, T⟩⟩⟩,
 ⟨c_incr_rules,
 ⟨c_incr_Live_Insert,
 ⟨c_machine_Machine_fact, T, T⟩,
 ⟨c_incr_Live_Retract, T, T⟩⟩,
 ⟨c_strings_Compare,
 ⟨c_incr_facts, T, T⟩,
 ⟨c_syntax_open, T, T⟩⟩⟩⟩⟩,
 ⟨c_syntax_parser_is,
 ⟨c_incr_Live_Retract_1,
 ⟨c_syntax_Fact,
 ⟨c_incr_Live_model,
 ⟨c_syntax_parser_end,
 ⟨c_syntax_parser_take, T, T⟩, T⟩,
 ⟨c_value_Atom, T, T⟩⟩,
 ⟨c_incr_Live_Insert_1,
 ⟨c_incr_Live_kept, T, T⟩,
 ⟨c_slices_Insert_api_Fact_api_Fact, T, T⟩⟩⟩,
 ⟨c_lex_Front,
 ⟨c_slices_Clone_api_Term_api_Term,
 ⟨c_slices_Delete_api_Fact_api_Fact, T, T⟩,
 ⟨c_int_bytealg_CompareString, T, T⟩⟩,
 ⟨c_syntax_parser_term,
 ⟨c_syntax_parser_next, T, T⟩,
 ⟨c_syntax_parser_must, T, T⟩⟩⟩⟩,
 ⟨c_lex_run,
 ⟨c_lex_word,
 ⟨c_slices_BinarySearchFunc_api_Fact_api_Fact_api_Fact,
 ⟨c_value_Print, T, T⟩,
 ⟨c_lex_blank, T, T⟩⟩,
 ⟨c_strings_IndexByte,
 ⟨c_syntax_parser_peek, T, T⟩,
 ⟨c_lex_small, T, T⟩⟩⟩,
 ⟨c_lex_digit,
 ⟨c_lex_great,
 ⟨c_lex_named, T, T⟩,
 ⟨c_lex_word_1, T, T⟩⟩,
 ⟨c_int_stringslite_IndexByte,
 ⟨c_strings_HasPrefix, T, T⟩,
 ⟨c_int_stringslite_HasPrefix, T, T⟩⟩⟩⟩⟩⟩⟩
def hTab0 (P : Program) : XTab where
  code := codeB.look
  prim f args aw := Option.none
  ext f args aw := match f with
    | 271 => match extIdx args with
      | some v => some (v, aw)
      | Option.none => Option.none
    | 238 => match extCmp args with
      | some v => some (v, aw)
      | Option.none => Option.none
    | _ => Option.none
theorem ext_ok (f : Nat) (args : List V) (aw : AW) (v : V) (aw' : AW) (h : (hTab0 Tryz.prog).ext f args aw = some (v, aw')) : ∀ (w : World) (m : Map) (base : Nat) (args' : Array Value), R aw w m base → VRs m args args'.toList → ∃ v' w' m', (callFunc f args').run Tryz.prog w = .ok (.value v') w' ∧ VR m' v v' ∧ R aw' w' m' base ∧ Goes aw aw' w w' m m' := by
  intro w m base args' hR hargs
  simp only [hTab0] at h
  split at h
  · split at h
    · rename_i u hu
      cases h
      exact ext_still hR (extIdx_ok Tryz.func271 (by kernel_rfl) (by kernel_rfl) (by kernel_rfl) (by kernel_rfl) hu w m args' hargs)
    · cases h
  · split at h
    · rename_i u hu
      cases h
      exact ext_still hR (extCmp_ok Tryz.func238 (by kernel_rfl) (by kernel_rfl) (by kernel_rfl) (by kernel_rfl) hu w m args' hargs)
    · cases h
  · cases h
theorem code_ok {f : Nat} {af : AFun} (h : codeB.look f = some af) : ∃ fn c, (Tryz.prog).funcs[f]? = some fn ∧ fn.body = some c ∧ cFun Tryz.prog fn = some af :=
  (XTab.of_ok (P := Tryz.prog) (by kernel_rfl)).code f af (BT.look_all codeB_ok h)
theorem hTab0_ok : TabOK Tryz.prog (hTab0 Tryz.prog).tab where
  mixed := by kernel_rfl
  code f af h := code_ok h
  prim f args aw v aw' h := by cases h
  ext := ext_ok
theorem begun_good (h : AE.isTrue (xCall (hTab0 Tryz.prog) (xRunK (hTab0 Tryz.prog) 100000) 10 [] AW.start) = true) (aw : AW) : GoodC Tryz.prog 10 [] aw (.bool true) aw := by
  refine ⟨⟨_, Tryz.func10, by kernel_rfl, by decide +kernel⟩, fun w m base args' hR hargs => ?_⟩
  have hz : args' = #[] := by cases args'; cases hargs; rfl
  subst hz
  refine (closed_ok hTab0_ok (runK_true h) w (fun i g l h => by cases h)).mono ?_
  rintro e w' ⟨rfl, hb⟩
  obtain ⟨h1, h2⟩ := hR.below hb
  exact ⟨.bool true, m, rfl, rfl, h1, h2⟩
def hTab (P : Program) : XTab where
  code := codeB.look
  prim f args aw := match Nat.beq f 10 with
    | true => match args with
      | [] => some (.bool true, aw)
      | _ => Option.none
    | false => Option.none
  ext := (hTab0 P).ext
theorem hTab_ok (h : AE.isTrue (xCall (hTab0 Tryz.prog) (xRunK (hTab0 Tryz.prog) 100000) 10 [] AW.start) = true) : TabOK Tryz.prog (hTab Tryz.prog).tab where
  mixed := by kernel_rfl
  code f af h := code_ok h
  prim f args aw v aw' hp := by
    simp only [XTab.tab, hTab] at hp
    split at hp
    · rename_i he
      split at hp
      · cases hp
        rw [Nat.eq_of_beq_eq_true he]
        exact begun_good h aw
      · cases hp
    · cases hp
  ext := ext_ok
theorem closedA_ok {P : Program} {x : XTab} (T : TabOK P x.tab) {n f : Nat} {args : List V} {args' : Array Value} (h : AE.isTrue (xCall x (xRunK x n) f args AW.start) = true) (w : World) (ha : ∀ m, VRs m args args'.toList) :
    Calls P f args' w fun e w' => e = .returned (.bool true) ∧ Below w.heap.size w w' := by
  have h := runK_true h
  unfold AE.isTrue at h
  split at h
  · rename_i aw' hr
    refine ((callR_ok T (run_ok hr)).2 w _ _ args' (R.start fun i g l h => by cases h) (ha _)).mono ?_
    rintro e w' ⟨v', m', rfl, rfl, _, hgo⟩
    exact ⟨rfl, hgo.below fun b e hb => by
      obtain ⟨g, l, h1, rfl⟩ := globMap_inv hb
      cases h1⟩
  · cases h
end Go.Proofs.YtladocoibpljnaaGreatDoor
