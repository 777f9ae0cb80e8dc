/- AE, part 19: ranging over a map of no entry, or of one. -/
import Derived.Test.YtjidefnbancmfaaAe18
set_option linter.unusedVariables false
set_option linter.unusedSimpArgs false
namespace Go.AE

section
variable {P : Program} {o : Oper} {act : Act} {aw aw' : AW} {w : World} {m : Map} {base N : Nat} {fr : Fr}

theorem rangeMap_ok (hR : R aw w m base) (hfr : FR m N fr act.tmps) {t kt el : TypeId} {x : Operand} {a : Opd} (ho : o.op = .range t x) (hx : cOpd x = some a) (hu : P.underlying t = some (.map kt el))
    {mv : V} {ob : Option Nat} {es : List (V × V × Nat)} {ck : Nat} (h1 : a.ev fr = some mv) (h3 : aw.entries mv = some (ob, es, ck)) :
    OpOK P o act aw (aw.new (.mapIter ob (match (generalizing := false) ob with | some _ => ck | none => 0) [] (match (generalizing := false) ob with | some _ => ck | none => 0))) w m base (.val (.ptr aw.next 0)) := by
  have e1 := cOpd_ok hfr hx h1
  have hnone := next_none hR
  rcases entries_run (P := P) hR e1 h3 with ⟨rfl, q2, _⟩ | ⟨b', e, es', rfl, q2, q3, q4, q5, q6, q7⟩
  · obtain ⟨r1, r2⟩ := hR.new (.mapIter none 0 [] 0) (.mapIter none 0 #[] 0) 0 rfl ⟨rfl, none, heap_new w _, rfl⟩
    refine ⟨.pointer (some ⟨w.heap.size, 0, none⟩), _, _, ?_, ⟨_, Map.set_same _ _ _, rfl⟩, r1, r2⟩
    simp [execOp, ho, Instr.range, run_underlying hu, q2]
  · obtain ⟨r1, r2⟩ := hR.new (.mapIter (some b') ck [] ck) (.mapIter (some e.c) ck #[] ck) 0 rfl ⟨rfl, some e.c, heap_new w _, e, Map.le_set hnone _ _ q3, rfl⟩
    refine ⟨.pointer (some ⟨w.heap.size, 0, none⟩), _, _, ?_, ⟨_, Map.set_same _ _ _, rfl⟩, r1, r2⟩
    simp [execOp, ho, Instr.range, run_underlying hu, q2, q7]
theorem iter_run (hR : R aw w m base) {r : Nat} {x : Value} (hv : VR m (.ptr r 0) x) {ob : Option Nat} {since last : Nat} {seen : List Nat} (h : aw.heap.get r = some (.mapIter ob since seen last)) :
    ∃ e q, x = .pointer (some ⟨e.c, 0, none⟩) ∧ m r = some e ∧ w.heap[e.c]? = some (.mapIter q since seen.toArray last) ∧ MR m ob q ∧ (getObj e.c).run P w = .ok (.mapIter q since seen.toArray last) w := by
  obtain ⟨e, hm, rfl⟩ := hv
  obtain ⟨h0, q, h1, h2⟩ := hR.blk r e _ hm h
  exact ⟨e, q, by rw [h0], hm, h1, h2, by simp [getObj, Sem.run, h1]⟩
theorem nextOver (hR : R aw w m base) (hfr : FR m N fr act.tmps) {x : Operand} {a : Opd} (ho : o.op = .next x false) (hx : cOpd x = some a) {r : Nat} (h1 : a.ev fr = some (.ptr r 0))
    (h : (∃ s q l, aw.heap.get r = some (.mapIter none s q l)) ∨ ∃ b since seen last es ck, aw.heap.get r = some (.mapIter (some b) since seen last) ∧ aw.heap.get b = some (.map es ck) ∧
      (es = [] ∨ ∃ k v n, es = [(k, v, n)] ∧ seen = [n] ∧ n < last)) : OpOK P o act aw aw w m base (.val (.tuple [.bool false])) := by
  have e1 := cOpd_ok hfr hx h1
  refine OpOK.quiet hR (v' := .tuple #[.bool false]) ?_ ⟨_, rfl, _, [], rfl, rfl, rfl⟩
  rcases h with ⟨s, q, l, h2⟩ | ⟨b, since, seen, last, es, ck, h2, h3, h4⟩
  · obtain ⟨e, q', q1, q2, q3, q4, q5⟩ := iter_run (P := P) hR e1 h2
    cases q4
    simp [execOp, ho, Instr.next, q1, q5]
  · obtain ⟨e, q', q1, q2, q3, q4, q5⟩ := iter_run (P := P) hR e1 h2
    obtain ⟨eb, hb, rfl⟩ := q4
    obtain ⟨es', p1, p2⟩ := hR.blk b eb _ hb h3
    have hg : (getObj eb.c).run P w = .ok (.map es' ck) w := by simp [getObj, Sem.run, p1]
    rcases h4 with rfl | ⟨k, v, n, rfl, rfl, hn⟩
    · have : es' = #[] := by
        have := p2.length
        simp at this
        exact Array.eq_empty_of_size_eq_zero (by simpa using this)
      subst this
      simp [execOp, ho, Instr.next, q1, q5, hg, Question.forced]
    · obtain ⟨en, r', hr, k1, k2, k3, k4⟩ := p2
      cases k4
      have : es' = #[en] := by cases es'; simp_all
      subst this
      have hnl : ¬ (last ≤ en.born) := by omega
      simp [execOp, ho, Instr.next, q1, q5, hg, Question.forced, k3, hnl]
      omega
theorem nextHit (hR : R aw w m base) (hfr : FR m N fr act.tmps) {x : Operand} {a : Opd} (ho : o.op = .next x false) (hx : cOpd x = some a) {r b since last n ck : Nat} {k v : V} (h1 : a.ev fr = some (.ptr r 0))
    (h2 : aw.heap.get r = some (.mapIter (some b) since [] last)) (h3 : aw.heap.get b = some (.map [(k, v, n)] ck)) (h4 : n < since) :
    OpOK P o act aw (aw.turn r (.mapIter (some b) since [n] ck)) w m base (.val (.tuple [.bool true, k, v])) := by
  have e1 := cOpd_ok hfr hx h1
  obtain ⟨e, q', q1, q2, q3, q4, q5⟩ := iter_run (P := P) hR e1 h2
  have hmr := q4
  obtain ⟨eb, hb, rfl⟩ := q4
  obtain ⟨es', p1, p2⟩ := hR.blk b eb _ hb h3
  have hg : (getObj eb.c).run P w = .ok (.map es' ck) w := by simp [getObj, Sem.run, p1]
  obtain ⟨en, r', hr, k1, k2, k3, k4⟩ := p2
  cases k4
  have : es' = #[en] := by cases es'; simp_all
  subst this
  have h0 : e.s = 0 := (hR.blk r e _ q2 h2).1
  obtain ⟨g1, g2⟩ := hR.turn (o := .mapIter (some eb.c) since #[en.born] ck) (y := .mapIter (some b) since [n] ck) q2 h2 rfl (by simp [Blk.share]) rfl ⟨h0, some eb.c, by rw [setObjW_same (hR.lt r e q2).2, k3], hmr⟩
  refine ⟨.tuple #[.bool true, en.key, en.val], _, m, ?_, ⟨_, rfl, _, _, rfl, rfl, _, _, rfl, k1, _, _, rfl, k2, rfl⟩, g1, g2⟩
  have hnl : en.born < since := by omega
  have hnl' : ¬ (since ≤ en.born) := by omega
  simp [execOp, ho, Instr.next, q1, q5, hg, Question.forced, hnl, hnl', setObj_run q3]
end
end Go.AE
