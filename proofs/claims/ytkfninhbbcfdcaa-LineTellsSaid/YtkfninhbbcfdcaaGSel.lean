/- A select of one case with a default, as the first operation of a region, in the walk's own terms. -/
import Derived.Test.YtkfninhbbcfdcaaGAllS
import Derived.Conc.LoneSelect
import Derived.Conc.LoneSelectN
namespace Go.Proofs.Ytkfninhbbcfdcaa.Giv
open Go.RowKit Go.Conc
set_option linter.unusedVariables false
set_option linter.unusedSimpArgs false

theorem wp_select_step {P : Program} {Q : Exit → Act → World → Prop} {a : Act} {w w' : World} {id : Nat} {ops : Array Oper} {o : Oper} {rest : List Oper} {cases : Array CommCase} {v : Value}
    (hl : ops.toList = o :: rest) (hg : o.guard = none)
    (hr : (execOp a.eval o).run P w = .ok (.comm cases false .select) w)
    (hstep : ∀ (fr : Frame) (cs : List Frame) (es : Array Event), stepG P true (Go.Conc.G fr cs) w = .comm (Go.Conc.G fr cs) cases false .select w es → step P (solo (Go.Conc.G fr cs) w) = .next (solo (Go.Conc.G (fr.finish v) cs) w'))
    (h : wpList P ops Q rest (a.put o.dst v) w') : (Code.region id ops false).wp P Q a w := by
  intro b k cs
  have h0 : ops[0]? = some o := by rw [← Array.getElem?_toList, hl]; rfl
  have hsz : ops.size = rest.length + 1 := by rw [← Array.length_toList, hl]; rfl
  have hrange : List.range ops.size = 0 :: List.range' 1 rest.length := by rw [hsz, List.range_eq_range', List.range'_succ]
  have hw : Region.wanted o (yielded ops a.tmps) = true := by simp [Region.wanted, hg]
  obtain ⟨e, a', w'', hq, harr⟩ := wp_ops (P := P) (ops := ops) (Q := Q) (List.range' 1 rest.length) (a.put o.dst v) w'
    (by rw [wpOps_eq_wpList rest 1 (fun j => by rw [← Array.getElem?_toList, hl, Nat.add_comm]; rfl)]; exact h) b k cs
  have h1 := step_region (P := P) (b := b) (a := a) (k := k) (cs := cs) (w := w) (ops := ops) (id := id)
  rw [hrange] at h1
  refine ⟨e, a', w'', hq, .of_steps (.head h1 (.one ?_)) harr⟩
  obtain ⟨es, hc⟩ : ∃ es, stepG P true (Go.Conc.G (b.at a (.inRegion ops (0 :: List.range' 1 rest.length) :: k)) cs) w = .comm (Go.Conc.G (b.at a (.inRegion ops (0 :: List.range' 1 rest.length) :: k)) cs) cases false .select w es := by
    rw [stepG_oper h0 hw]
    simp [stepG.apply, hr, Go.Conc.G, Frame.at, GStep.after]
  have h2 := hstep _ _ _ hc
  rw [Frame.finish_at, h0] at h2
  exact h2

section
variable {P : Program} {Q : Exit → Act → World → Prop} {a : Act} {w : World} {id : Nat} {ops : Array Oper} {o : Oper} {rest : List Oper} {c cap s r e : Nat} {buf : Array Value} {v z : Value} {tc tx : Operand}
theorem run_sel_send (hop : o.op = .select #[{ chan := tc, send := some tx, elem := e }] false) (hc : a.eval tc = .chan (some c)) (hx : a.eval tx = v) (hz : (P.info? e).map (·.zero) = some (some z)) :
    ∃ z', (execOp a.eval o).run P w = .ok (.comm #[scase c v z'] false .select) w := by
  obtain ⟨i, hi, hzz⟩ := Option.map_eq_some_iff.1 hz
  have hz2 : (zeroValue e).run P w = .ok z w := by simp [zeroValue, typeInfo, hi, hzz]
  exact ⟨z, by simp [execOp, hop, hc, hx, scase, hz2]⟩
theorem run_sel_recv (hop : o.op = .select #[{ chan := tc, send := none, elem := e }] false) (hc : a.eval tc = .chan (some c)) (hz : (P.info? e).map (·.zero) = some (some z)) :
    (execOp a.eval o).run P w = .ok (.comm #[rcase c z] false .select) w := by
  obtain ⟨i, hi, hzz⟩ := Option.map_eq_some_iff.1 hz
  have hz2 : (zeroValue e).run P w = .ok z w := by simp [zeroValue, typeInfo, hi, hzz]
  simp [execOp, hop, hc, rcase, hz2]
/-- A send that has room. -/
theorem wp_send_room (hl : ops.toList = o :: rest) (hg : o.guard = none) (hop : o.op = .select #[{ chan := tc, send := some tx, elem := e }] false) (hc : a.eval tc = .chan (some c)) (hx : a.eval tx = v) (hz : (P.info? e).map (·.zero) = some (some z))
    (hch : w.heap[c]? = some (.chan cap buf false s r false)) (hroom : buf.size < cap)
    (h : wpList P ops Q rest (a.put o.dst (.tuple #[goInt 0, .bool false])) (w.setChan c cap (buf.push v) false (s + 1) r false)) : (Code.region id ops false).wp P Q a w := by
  obtain ⟨z', hr⟩ := run_sel_send (w := w) hop hc hx hz
  exact wp_select_step hl hg hr (fun fr cs es he => step_lone_select_send_room he hch hroom) h
/-- A send that has none: the default. -/
theorem wp_send_full (hl : ops.toList = o :: rest) (hg : o.guard = none) (hop : o.op = .select #[{ chan := tc, send := some tx, elem := e }] false) (hc : a.eval tc = .chan (some c)) (hx : a.eval tx = v) (hz : (P.info? e).map (·.zero) = some (some z))
    (hch : w.heap[c]? = some (.chan cap buf false s r false)) (hfull : cap ≤ buf.size)
    (h : wpList P ops Q rest (a.put o.dst (.tuple #[goInt (-1), .bool false])) w) : (Code.region id ops false).wp P Q a w := by
  obtain ⟨z', hr⟩ := run_sel_send (w := w) hop hc hx hz
  exact wp_select_step hl hg hr (fun fr cs es he => step_lone_select_send_full he hch hfull) h
/-- A receive of what waits. -/
theorem wp_recv_some (hl : ops.toList = o :: rest) (hg : o.guard = none) (hop : o.op = .select #[{ chan := tc, send := none, elem := e }] false) (hc : a.eval tc = .chan (some c)) (hz : (P.info? e).map (·.zero) = some (some z))
    (hch : w.heap[c]? = some (.chan cap buf false s r false)) (hsome : 0 < buf.size)
    (h : wpList P ops Q rest (a.put o.dst (.tuple #[goInt 0, .bool true, buf.getD 0 undef])) (w.setChan c cap (buf.extract 1 buf.size) false s (r + 1) false)) : (Code.region id ops false).wp P Q a w :=
  wp_select_step hl hg (run_sel_recv hop hc hz) (fun fr cs es he => step_lone_select_recv_buf he hch hsome) h
/-- Nothing waits: the default. -/
theorem wp_recv_none (hl : ops.toList = o :: rest) (hg : o.guard = none) (hop : o.op = .select #[{ chan := tc, send := none, elem := e }] false) (hc : a.eval tc = .chan (some c)) (hz : (P.info? e).map (·.zero) = some (some z))
    (hch : w.heap[c]? = some (.chan cap #[] false s r false))
    (h : wpList P ops Q rest (a.put o.dst (.tuple #[goInt (-1), .bool false, z])) w) : (Code.region id ops false).wp P Q a w :=
  wp_select_step hl hg (run_sel_recv hop hc hz) (fun fr cs es he => step_lone_select_default he hch) h
end
end Go.Proofs.Ytkfninhbbcfdcaa.Giv
