/- A command, as cells; its fields. -/
import Derived.Test.YtfaicipochceeaaGWire2
namespace Go.Proofs.Ytfaicipochceeaa.Giv
open Go.RowKit Go.Proofs.YtfaicipochceeaaW.PrintWords Go.Proofs.YtfaicipochceeaaW.PrintLast Go.Proofs.YtfaicipochceeaaW.PrintMore
set_option linter.unusedVariables false
set_option linter.unusedSimpArgs false
structure Cmd where
  op : Int
  name : ByteArray
  text : ByteArray
  rl : Int
  rs : Int
  la : Int
  wh : Int
  sl : Int
  di : Int
  co : Int
  am : Int
  gc : Int
  ga : Int
  gi : Int
  wc : Int
  wa : Int
  wi : Int
  si : Int
  ba : Int
  qu : Int
  qt : Int
  pr : Int
def zCmd : Cmd := ⟨0, ⟨#[]⟩, ⟨#[]⟩, 0, 0, 0, 0, 0, 0, 0, 0, 0, 0, 0, 0, 0, 0, 0, 0, 0, 0, 0⟩
def cells (c : Cmd) : Array Value := #[.int .i64 c.op, .string c.name, .string c.text, .int .i64 c.rl, .int .i64 c.rs, .int .i64 c.la, .int .i64 c.wh, .int .i64 c.sl, .int .i64 c.di, .int .i64 c.co, .int .u64 c.am, .int .i64 c.gc, .int .u64 c.ga, .int .i64 c.gi, .int .i64 c.wc, .int .u64 c.wa, .int .i64 c.wi, .int .i64 c.si, .int .i64 c.ba, .int .i64 c.qu, .int .u64 c.qt, .int .u64 c.pr]
theorem cells_size (c : Cmd) : (cells c).size = 22 := rfl
theorem cells_one (c : Cmd) : (cells c).all (·.oneCell') = true := by simp [cells, Value.oneCell']
/-- A command with a field of another one. -/
def keepF (c d : Cmd) : Nat → Cmd
  | 1 => { c with name := d.name }
  | 2 => { c with text := d.text }
  | 3 => { c with rl := d.rl, rs := d.rs }
  | 4 => { c with la := d.la }
  | 5 => { c with wh := d.wh }
  | 6 => { c with sl := d.sl }
  | 7 => { c with di := d.di }
  | 8 => { c with co := d.co }
  | 9 => { c with am := d.am }
  | 10 => { c with gc := d.gc, ga := d.ga, gi := d.gi }
  | 11 => { c with wc := d.wc, wa := d.wa, wi := d.wi }
  | 12 => { c with si := d.si }
  | 13 => { c with ba := d.ba }
  | 14 => { c with qu := d.qu }
  | 15 => { c with qt := d.qt }
  | 16 => { c with pr := d.pr }
  | _ => c
def signOf : Nat → Int
  | 1 => 110
  | 2 => 116
  | 3 => 114
  | 4 => 108
  | 5 => 119
  | 6 => 115
  | 7 => 100
  | 8 => 99
  | 9 => 97
  | 10 => 103
  | 11 => 118
  | 12 => 105
  | 13 => 98
  | 14 => 113
  | 15 => 107
  | 16 => 112
  | _ => 0
def numP (b : Nat) : Nat → Option Addr
  | 4 => some ⟨b, 5, none⟩
  | 5 => some ⟨b, 6, none⟩
  | 6 => some ⟨b, 7, none⟩
  | 7 => some ⟨b, 8, none⟩
  | 8 => some ⟨b, 9, none⟩
  | 12 => some ⟨b, 17, none⟩
  | 13 => some ⟨b, 18, none⟩
  | 14 => some ⟨b, 19, none⟩
  | _ => none
def amoP (b : Nat) : Nat → Option Addr
  | 9 => some ⟨b, 10, none⟩
  | 15 => some ⟨b, 20, none⟩
  | 16 => some ⟨b, 21, none⟩
  | _ => none
def parP (b : Nat) : Nat → Option Addr
  | 10 => some ⟨b, 11, none⟩
  | 11 => some ⟨b, 14, none⟩
  | _ => none
set_option maxRecDepth 100000 in
theorem number_calls (b f : Nat) (w : World) (h1 : 1 ≤ f) (h2 : f ≤ 16) : Calls Try.prog 38 #[.pointer (some ⟨b, 0, none⟩), .int .i32 (signOf f)] w fun e w' => e = .returned (.pointer (numP b f)) ∧ w = w' := by
  have hf : f = 1 ∨ f = 2 ∨ f = 3 ∨ f = 4 ∨ f = 5 ∨ f = 6 ∨ f = 7 ∨ f = 8 ∨ f = 9 ∨ f = 10 ∨ f = 11 ∨ f = 12 ∨ f = 13 ∨ f = 14 ∨ f = 15 ∨ f = 16 := by omega
  clear h1 h2
  rcases hf with rfl | rfl | rfl | rfl | rfl | rfl | rfl | rfl | rfl | rfl | rfl | rfl | rfl | rfl | rfl | rfl
  · show Calls Try.prog 38 #[.pointer (some ⟨b, 0, none⟩), .int .i32 110] w _
    go_enter Try.func38, Try.ntmps38
    go_wp2_with fail
    go_ret
    exact ⟨rfl, rfl⟩
  · show Calls Try.prog 38 #[.pointer (some ⟨b, 0, none⟩), .int .i32 116] w _
    go_enter Try.func38, Try.ntmps38
    go_wp2_with fail
    go_ret
    exact ⟨rfl, rfl⟩
  · show Calls Try.prog 38 #[.pointer (some ⟨b, 0, none⟩), .int .i32 114] w _
    go_enter Try.func38, Try.ntmps38
    go_wp2_with fail
    go_ret
    exact ⟨rfl, rfl⟩
  · show Calls Try.prog 38 #[.pointer (some ⟨b, 0, none⟩), .int .i32 108] w _
    go_enter Try.func38, Try.ntmps38
    go_wp2_with fail
    go_ret
    exact ⟨rfl, rfl⟩
  · show Calls Try.prog 38 #[.pointer (some ⟨b, 0, none⟩), .int .i32 119] w _
    go_enter Try.func38, Try.ntmps38
    go_wp2_with fail
    go_ret
    exact ⟨rfl, rfl⟩
  · show Calls Try.prog 38 #[.pointer (some ⟨b, 0, none⟩), .int .i32 115] w _
    go_enter Try.func38, Try.ntmps38
    go_wp2_with fail
    go_ret
    exact ⟨rfl, rfl⟩
  · show Calls Try.prog 38 #[.pointer (some ⟨b, 0, none⟩), .int .i32 100] w _
    go_enter Try.func38, Try.ntmps38
    go_wp2_with fail
    go_ret
    exact ⟨rfl, rfl⟩
  · show Calls Try.prog 38 #[.pointer (some ⟨b, 0, none⟩), .int .i32 99] w _
    go_enter Try.func38, Try.ntmps38
    go_wp2_with fail
    go_ret
    exact ⟨rfl, rfl⟩
  · show Calls Try.prog 38 #[.pointer (some ⟨b, 0, none⟩), .int .i32 97] w _
    go_enter Try.func38, Try.ntmps38
    go_wp2_with fail
    go_ret
    exact ⟨rfl, rfl⟩
  · show Calls Try.prog 38 #[.pointer (some ⟨b, 0, none⟩), .int .i32 103] w _
    go_enter Try.func38, Try.ntmps38
    go_wp2_with fail
    go_ret
    exact ⟨rfl, rfl⟩
  · show Calls Try.prog 38 #[.pointer (some ⟨b, 0, none⟩), .int .i32 118] w _
    go_enter Try.func38, Try.ntmps38
    go_wp2_with fail
    go_ret
    exact ⟨rfl, rfl⟩
  · show Calls Try.prog 38 #[.pointer (some ⟨b, 0, none⟩), .int .i32 105] w _
    go_enter Try.func38, Try.ntmps38
    go_wp2_with fail
    go_ret
    exact ⟨rfl, rfl⟩
  · show Calls Try.prog 38 #[.pointer (some ⟨b, 0, none⟩), .int .i32 98] w _
    go_enter Try.func38, Try.ntmps38
    go_wp2_with fail
    go_ret
    exact ⟨rfl, rfl⟩
  · show Calls Try.prog 38 #[.pointer (some ⟨b, 0, none⟩), .int .i32 113] w _
    go_enter Try.func38, Try.ntmps38
    go_wp2_with fail
    go_ret
    exact ⟨rfl, rfl⟩
  · show Calls Try.prog 38 #[.pointer (some ⟨b, 0, none⟩), .int .i32 107] w _
    go_enter Try.func38, Try.ntmps38
    go_wp2_with fail
    go_ret
    exact ⟨rfl, rfl⟩
  · show Calls Try.prog 38 #[.pointer (some ⟨b, 0, none⟩), .int .i32 112] w _
    go_enter Try.func38, Try.ntmps38
    go_wp2_with fail
    go_ret
    exact ⟨rfl, rfl⟩
set_option maxRecDepth 100000 in
theorem amount_calls (b f : Nat) (w : World) (h1 : 1 ≤ f) (h2 : f ≤ 16) : Calls Try.prog 39 #[.pointer (some ⟨b, 0, none⟩), .int .i32 (signOf f)] w fun e w' => e = .returned (.pointer (amoP b f)) ∧ w = w' := by
  have hf : f = 1 ∨ f = 2 ∨ f = 3 ∨ f = 4 ∨ f = 5 ∨ f = 6 ∨ f = 7 ∨ f = 8 ∨ f = 9 ∨ f = 10 ∨ f = 11 ∨ f = 12 ∨ f = 13 ∨ f = 14 ∨ f = 15 ∨ f = 16 := by omega
  clear h1 h2
  rcases hf with rfl | rfl | rfl | rfl | rfl | rfl | rfl | rfl | rfl | rfl | rfl | rfl | rfl | rfl | rfl | rfl
  · show Calls Try.prog 39 #[.pointer (some ⟨b, 0, none⟩), .int .i32 110] w _
    go_enter Try.func39, Try.ntmps39
    go_wp2_with fail
    go_ret
    exact ⟨rfl, rfl⟩
  · show Calls Try.prog 39 #[.pointer (some ⟨b, 0, none⟩), .int .i32 116] w _
    go_enter Try.func39, Try.ntmps39
    go_wp2_with fail
    go_ret
    exact ⟨rfl, rfl⟩
  · show Calls Try.prog 39 #[.pointer (some ⟨b, 0, none⟩), .int .i32 114] w _
    go_enter Try.func39, Try.ntmps39
    go_wp2_with fail
    go_ret
    exact ⟨rfl, rfl⟩
  · show Calls Try.prog 39 #[.pointer (some ⟨b, 0, none⟩), .int .i32 108] w _
    go_enter Try.func39, Try.ntmps39
    go_wp2_with fail
    go_ret
    exact ⟨rfl, rfl⟩
  · show Calls Try.prog 39 #[.pointer (some ⟨b, 0, none⟩), .int .i32 119] w _
    go_enter Try.func39, Try.ntmps39
    go_wp2_with fail
    go_ret
    exact ⟨rfl, rfl⟩
  · show Calls Try.prog 39 #[.pointer (some ⟨b, 0, none⟩), .int .i32 115] w _
    go_enter Try.func39, Try.ntmps39
    go_wp2_with fail
    go_ret
    exact ⟨rfl, rfl⟩
  · show Calls Try.prog 39 #[.pointer (some ⟨b, 0, none⟩), .int .i32 100] w _
    go_enter Try.func39, Try.ntmps39
    go_wp2_with fail
    go_ret
    exact ⟨rfl, rfl⟩
  · show Calls Try.prog 39 #[.pointer (some ⟨b, 0, none⟩), .int .i32 99] w _
    go_enter Try.func39, Try.ntmps39
    go_wp2_with fail
    go_ret
    exact ⟨rfl, rfl⟩
  · show Calls Try.prog 39 #[.pointer (some ⟨b, 0, none⟩), .int .i32 97] w _
    go_enter Try.func39, Try.ntmps39
    go_wp2_with fail
    go_ret
    exact ⟨rfl, rfl⟩
  · show Calls Try.prog 39 #[.pointer (some ⟨b, 0, none⟩), .int .i32 103] w _
    go_enter Try.func39, Try.ntmps39
    go_wp2_with fail
    go_ret
    exact ⟨rfl, rfl⟩
  · show Calls Try.prog 39 #[.pointer (some ⟨b, 0, none⟩), .int .i32 118] w _
    go_enter Try.func39, Try.ntmps39
    go_wp2_with fail
    go_ret
    exact ⟨rfl, rfl⟩
  · show Calls Try.prog 39 #[.pointer (some ⟨b, 0, none⟩), .int .i32 105] w _
    go_enter Try.func39, Try.ntmps39
    go_wp2_with fail
    go_ret
    exact ⟨rfl, rfl⟩
  · show Calls Try.prog 39 #[.pointer (some ⟨b, 0, none⟩), .int .i32 98] w _
    go_enter Try.func39, Try.ntmps39
    go_wp2_with fail
    go_ret
    exact ⟨rfl, rfl⟩
  · show Calls Try.prog 39 #[.pointer (some ⟨b, 0, none⟩), .int .i32 113] w _
    go_enter Try.func39, Try.ntmps39
    go_wp2_with fail
    go_ret
    exact ⟨rfl, rfl⟩
  · show Calls Try.prog 39 #[.pointer (some ⟨b, 0, none⟩), .int .i32 107] w _
    go_enter Try.func39, Try.ntmps39
    go_wp2_with fail
    go_ret
    exact ⟨rfl, rfl⟩
  · show Calls Try.prog 39 #[.pointer (some ⟨b, 0, none⟩), .int .i32 112] w _
    go_enter Try.func39, Try.ntmps39
    go_wp2_with fail
    go_ret
    exact ⟨rfl, rfl⟩
set_option maxRecDepth 100000 in
theorem part_calls (b f : Nat) (w : World) (h1 : 1 ≤ f) (h2 : f ≤ 16) : Calls Try.prog 40 #[.pointer (some ⟨b, 0, none⟩), .int .i32 (signOf f)] w fun e w' => e = .returned (.pointer (parP b f)) ∧ w = w' := by
  have hf : f = 1 ∨ f = 2 ∨ f = 3 ∨ f = 4 ∨ f = 5 ∨ f = 6 ∨ f = 7 ∨ f = 8 ∨ f = 9 ∨ f = 10 ∨ f = 11 ∨ f = 12 ∨ f = 13 ∨ f = 14 ∨ f = 15 ∨ f = 16 := by omega
  clear h1 h2
  rcases hf with rfl | rfl | rfl | rfl | rfl | rfl | rfl | rfl | rfl | rfl | rfl | rfl | rfl | rfl | rfl | rfl
  · show Calls Try.prog 40 #[.pointer (some ⟨b, 0, none⟩), .int .i32 110] w _
    go_enter Try.func40, Try.ntmps40
    go_wp2_with fail
    go_ret
    exact ⟨rfl, rfl⟩
  · show Calls Try.prog 40 #[.pointer (some ⟨b, 0, none⟩), .int .i32 116] w _
    go_enter Try.func40, Try.ntmps40
    go_wp2_with fail
    go_ret
    exact ⟨rfl, rfl⟩
  · show Calls Try.prog 40 #[.pointer (some ⟨b, 0, none⟩), .int .i32 114] w _
    go_enter Try.func40, Try.ntmps40
    go_wp2_with fail
    go_ret
    exact ⟨rfl, rfl⟩
  · show Calls Try.prog 40 #[.pointer (some ⟨b, 0, none⟩), .int .i32 108] w _
    go_enter Try.func40, Try.ntmps40
    go_wp2_with fail
    go_ret
    exact ⟨rfl, rfl⟩
  · show Calls Try.prog 40 #[.pointer (some ⟨b, 0, none⟩), .int .i32 119] w _
    go_enter Try.func40, Try.ntmps40
    go_wp2_with fail
    go_ret
    exact ⟨rfl, rfl⟩
  · show Calls Try.prog 40 #[.pointer (some ⟨b, 0, none⟩), .int .i32 115] w _
    go_enter Try.func40, Try.ntmps40
    go_wp2_with fail
    go_ret
    exact ⟨rfl, rfl⟩
  · show Calls Try.prog 40 #[.pointer (some ⟨b, 0, none⟩), .int .i32 100] w _
    go_enter Try.func40, Try.ntmps40
    go_wp2_with fail
    go_ret
    exact ⟨rfl, rfl⟩
  · show Calls Try.prog 40 #[.pointer (some ⟨b, 0, none⟩), .int .i32 99] w _
    go_enter Try.func40, Try.ntmps40
    go_wp2_with fail
    go_ret
    exact ⟨rfl, rfl⟩
  · show Calls Try.prog 40 #[.pointer (some ⟨b, 0, none⟩), .int .i32 97] w _
    go_enter Try.func40, Try.ntmps40
    go_wp2_with fail
    go_ret
    exact ⟨rfl, rfl⟩
  · show Calls Try.prog 40 #[.pointer (some ⟨b, 0, none⟩), .int .i32 103] w _
    go_enter Try.func40, Try.ntmps40
    go_wp2_with fail
    go_ret
    exact ⟨rfl, rfl⟩
  · show Calls Try.prog 40 #[.pointer (some ⟨b, 0, none⟩), .int .i32 118] w _
    go_enter Try.func40, Try.ntmps40
    go_wp2_with fail
    go_ret
    exact ⟨rfl, rfl⟩
  · show Calls Try.prog 40 #[.pointer (some ⟨b, 0, none⟩), .int .i32 105] w _
    go_enter Try.func40, Try.ntmps40
    go_wp2_with fail
    go_ret
    exact ⟨rfl, rfl⟩
  · show Calls Try.prog 40 #[.pointer (some ⟨b, 0, none⟩), .int .i32 98] w _
    go_enter Try.func40, Try.ntmps40
    go_wp2_with fail
    go_ret
    exact ⟨rfl, rfl⟩
  · show Calls Try.prog 40 #[.pointer (some ⟨b, 0, none⟩), .int .i32 113] w _
    go_enter Try.func40, Try.ntmps40
    go_wp2_with fail
    go_ret
    exact ⟨rfl, rfl⟩
  · show Calls Try.prog 40 #[.pointer (some ⟨b, 0, none⟩), .int .i32 107] w _
    go_enter Try.func40, Try.ntmps40
    go_wp2_with fail
    go_ret
    exact ⟨rfl, rfl⟩
  · show Calls Try.prog 40 #[.pointer (some ⟨b, 0, none⟩), .int .i32 112] w _
    go_enter Try.func40, Try.ntmps40
    go_wp2_with fail
    go_ret
    exact ⟨rfl, rfl⟩
/-- Only block g is written. -/
theorem cell_of {W : World} {g : Nat} {c : Cmd} (h : W.heap[g]? = some (.cells (cells c) 28 (0, 0))) (i : Nat) : W.cell? ⟨g, i, none⟩ = (cells c)[i]? := blk_cell h i
set_option maxHeartbeats 1000000 in
set_option maxRecDepth 100000 in
theorem copy1 (t g : Nat) (a c : Cmd) (W : World) (ht : W.heap[t]? = some (.cells (cells a) 28 (0, 0))) (hg : W.heap[g]? = some (.cells (cells c) 28 (0, 0))) (hne : t ≠ g) :
    Calls Try.prog 19 #[.pointer (some ⟨t, 0, none⟩), .pointer (some ⟨g, 0, none⟩), .int .i32 110] W fun e w' => e = .returned (.tuple #[]) ∧ w'.heap[t]? = some (.cells (cells (keepF a c 1)) 28 (0, 0)) ∧ Keep1 W w' t := by
  have H := Aside0.mk (And.intro ht (And.intro hg hne))
  have x1 : W.cell? ⟨g, 1, none⟩ = some (.string c.name) := cell_of hg 1
  have y1 : W.cell? ⟨t, 1, none⟩ = some (.string a.name) := cell_of ht 1
  have s1 : W.frozen? ⟨t, 1, none⟩ = false := blk_frozen ht 1
  clear ht hg
  go_enter Try.func19, Try.ntmps19
  go_wp2_with fail
  refine (number_calls t 1 _ (by decide) (by decide)).mono ?_
  rintro e w' ⟨rfl, rfl⟩
  rw [show numP t 1 = none from rfl]
  go_wp2_with fail
  refine (amount_calls t 1 _ (by decide) (by decide)).mono ?_
  rintro e w' ⟨rfl, rfl⟩
  rw [show amoP t 1 = none from rfl]
  go_wp2_with fail
  refine (part_calls t 1 _ (by decide) (by decide)).mono ?_
  rintro e w' ⟨rfl, rfl⟩
  rw [show parP t 1 = none from rfl]
  go_wp2_with fail
  go_end0
  exact ⟨rfl, blk_set H.out.1 1 _, Keep1.set W t 1 _⟩
set_option maxHeartbeats 1000000 in
set_option maxRecDepth 100000 in
theorem copy2 (t g : Nat) (a c : Cmd) (W : World) (ht : W.heap[t]? = some (.cells (cells a) 28 (0, 0))) (hg : W.heap[g]? = some (.cells (cells c) 28 (0, 0))) (hne : t ≠ g) :
    Calls Try.prog 19 #[.pointer (some ⟨t, 0, none⟩), .pointer (some ⟨g, 0, none⟩), .int .i32 116] W fun e w' => e = .returned (.tuple #[]) ∧ w'.heap[t]? = some (.cells (cells (keepF a c 2)) 28 (0, 0)) ∧ Keep1 W w' t := by
  have H := Aside0.mk (And.intro ht (And.intro hg hne))
  have x2 : W.cell? ⟨g, 2, none⟩ = some (.string c.text) := cell_of hg 2
  have y2 : W.cell? ⟨t, 2, none⟩ = some (.string a.text) := cell_of ht 2
  have s2 : W.frozen? ⟨t, 2, none⟩ = false := blk_frozen ht 2
  clear ht hg
  go_enter Try.func19, Try.ntmps19
  go_wp2_with fail
  refine (number_calls t 2 _ (by decide) (by decide)).mono ?_
  rintro e w' ⟨rfl, rfl⟩
  rw [show numP t 2 = none from rfl]
  go_wp2_with fail
  refine (amount_calls t 2 _ (by decide) (by decide)).mono ?_
  rintro e w' ⟨rfl, rfl⟩
  rw [show amoP t 2 = none from rfl]
  go_wp2_with fail
  refine (part_calls t 2 _ (by decide) (by decide)).mono ?_
  rintro e w' ⟨rfl, rfl⟩
  rw [show parP t 2 = none from rfl]
  go_wp2_with fail
  go_end0
  exact ⟨rfl, blk_set H.out.1 2 _, Keep1.set W t 2 _⟩
set_option maxHeartbeats 1000000 in
set_option maxRecDepth 100000 in
theorem copy3 (t g : Nat) (a c : Cmd) (W : World) (ht : W.heap[t]? = some (.cells (cells a) 28 (0, 0))) (hg : W.heap[g]? = some (.cells (cells c) 28 (0, 0))) (hne : t ≠ g) :
    Calls Try.prog 19 #[.pointer (some ⟨t, 0, none⟩), .pointer (some ⟨g, 0, none⟩), .int .i32 114] W fun e w' => e = .returned (.tuple #[]) ∧ w'.heap[t]? = some (.cells (cells (keepF a c 3)) 28 (0, 0)) ∧ Keep1 W w' t := by
  have H := Aside0.mk (And.intro ht (And.intro hg hne))
  have x3 : W.cell? ⟨g, 3, none⟩ = some (.int .i64 c.rl) := cell_of hg 3
  have y3 : W.cell? ⟨t, 3, none⟩ = some (.int .i64 a.rl) := cell_of ht 3
  have s3 : W.frozen? ⟨t, 3, none⟩ = false := blk_frozen ht 3
  have x4 : W.cell? ⟨g, 4, none⟩ = some (.int .i64 c.rs) := cell_of hg 4
  have y4 : W.cell? ⟨t, 4, none⟩ = some (.int .i64 a.rs) := cell_of ht 4
  have s4 : W.frozen? ⟨t, 4, none⟩ = false := blk_frozen ht 4
  clear ht hg
  go_enter Try.func19, Try.ntmps19
  go_wp2_with fail
  refine (number_calls t 3 _ (by decide) (by decide)).mono ?_
  rintro e w' ⟨rfl, rfl⟩
  rw [show numP t 3 = none from rfl]
  go_wp2_with fail
  refine (amount_calls t 3 _ (by decide) (by decide)).mono ?_
  rintro e w' ⟨rfl, rfl⟩
  rw [show amoP t 3 = none from rfl]
  go_wp2_with fail
  refine (part_calls t 3 _ (by decide) (by decide)).mono ?_
  rintro e w' ⟨rfl, rfl⟩
  rw [show parP t 3 = none from rfl]
  go_wp2_with fail
  go_end0
  exact ⟨rfl, blk_set (blk_set H.out.1 3 _) 4 _, (Keep1.set W t 3 _).trans (Keep1.set _ t 4 _)⟩
set_option maxHeartbeats 1000000 in
set_option maxRecDepth 100000 in
theorem copy4 (t g : Nat) (a c : Cmd) (W : World) (ht : W.heap[t]? = some (.cells (cells a) 28 (0, 0))) (hg : W.heap[g]? = some (.cells (cells c) 28 (0, 0))) (hne : t ≠ g) :
    Calls Try.prog 19 #[.pointer (some ⟨t, 0, none⟩), .pointer (some ⟨g, 0, none⟩), .int .i32 108] W fun e w' => e = .returned (.tuple #[]) ∧ w'.heap[t]? = some (.cells (cells (keepF a c 4)) 28 (0, 0)) ∧ Keep1 W w' t := by
  have H := Aside0.mk (And.intro ht (And.intro hg hne))
  have x5 : W.cell? ⟨g, 5, none⟩ = some (.int .i64 c.la) := cell_of hg 5
  have y5 : W.cell? ⟨t, 5, none⟩ = some (.int .i64 a.la) := cell_of ht 5
  have s5 : W.frozen? ⟨t, 5, none⟩ = false := blk_frozen ht 5
  clear ht hg
  go_enter Try.func19, Try.ntmps19
  go_wp2_with fail
  refine (number_calls t 4 _ (by decide) (by decide)).mono ?_
  rintro e w' ⟨rfl, rfl⟩
  rw [show numP t 4 = some ⟨t, 5, none⟩ from rfl]
  go_wp2_with fail
  refine (number_calls t 4 _ (by decide) (by decide)).mono ?_
  rintro e w' ⟨rfl, rfl⟩
  rw [show numP t 4 = some ⟨t, 5, none⟩ from rfl]
  go_wp2_with fail
  refine (number_calls g 4 _ (by decide) (by decide)).mono ?_
  rintro e w' ⟨rfl, rfl⟩
  rw [show numP g 4 = some ⟨g, 5, none⟩ from rfl]
  go_wp2_with fail
  go_end0
  exact ⟨rfl, blk_set H.out.1 5 _, Keep1.set W t 5 _⟩
set_option maxHeartbeats 1000000 in
set_option maxRecDepth 100000 in
theorem copy5 (t g : Nat) (a c : Cmd) (W : World) (ht : W.heap[t]? = some (.cells (cells a) 28 (0, 0))) (hg : W.heap[g]? = some (.cells (cells c) 28 (0, 0))) (hne : t ≠ g) :
    Calls Try.prog 19 #[.pointer (some ⟨t, 0, none⟩), .pointer (some ⟨g, 0, none⟩), .int .i32 119] W fun e w' => e = .returned (.tuple #[]) ∧ w'.heap[t]? = some (.cells (cells (keepF a c 5)) 28 (0, 0)) ∧ Keep1 W w' t := by
  have H := Aside0.mk (And.intro ht (And.intro hg hne))
  have x6 : W.cell? ⟨g, 6, none⟩ = some (.int .i64 c.wh) := cell_of hg 6
  have y6 : W.cell? ⟨t, 6, none⟩ = some (.int .i64 a.wh) := cell_of ht 6
  have s6 : W.frozen? ⟨t, 6, none⟩ = false := blk_frozen ht 6
  clear ht hg
  go_enter Try.func19, Try.ntmps19
  go_wp2_with fail
  refine (number_calls t 5 _ (by decide) (by decide)).mono ?_
  rintro e w' ⟨rfl, rfl⟩
  rw [show numP t 5 = some ⟨t, 6, none⟩ from rfl]
  go_wp2_with fail
  refine (number_calls t 5 _ (by decide) (by decide)).mono ?_
  rintro e w' ⟨rfl, rfl⟩
  rw [show numP t 5 = some ⟨t, 6, none⟩ from rfl]
  go_wp2_with fail
  refine (number_calls g 5 _ (by decide) (by decide)).mono ?_
  rintro e w' ⟨rfl, rfl⟩
  rw [show numP g 5 = some ⟨g, 6, none⟩ from rfl]
  go_wp2_with fail
  go_end0
  exact ⟨rfl, blk_set H.out.1 6 _, Keep1.set W t 6 _⟩
set_option maxHeartbeats 1000000 in
set_option maxRecDepth 100000 in
theorem copy6 (t g : Nat) (a c : Cmd) (W : World) (ht : W.heap[t]? = some (.cells (cells a) 28 (0, 0))) (hg : W.heap[g]? = some (.cells (cells c) 28 (0, 0))) (hne : t ≠ g) :
    Calls Try.prog 19 #[.pointer (some ⟨t, 0, none⟩), .pointer (some ⟨g, 0, none⟩), .int .i32 115] W fun e w' => e = .returned (.tuple #[]) ∧ w'.heap[t]? = some (.cells (cells (keepF a c 6)) 28 (0, 0)) ∧ Keep1 W w' t := by
  have H := Aside0.mk (And.intro ht (And.intro hg hne))
  have x7 : W.cell? ⟨g, 7, none⟩ = some (.int .i64 c.sl) := cell_of hg 7
  have y7 : W.cell? ⟨t, 7, none⟩ = some (.int .i64 a.sl) := cell_of ht 7
  have s7 : W.frozen? ⟨t, 7, none⟩ = false := blk_frozen ht 7
  clear ht hg
  go_enter Try.func19, Try.ntmps19
  go_wp2_with fail
  refine (number_calls t 6 _ (by decide) (by decide)).mono ?_
  rintro e w' ⟨rfl, rfl⟩
  rw [show numP t 6 = some ⟨t, 7, none⟩ from rfl]
  go_wp2_with fail
  refine (number_calls t 6 _ (by decide) (by decide)).mono ?_
  rintro e w' ⟨rfl, rfl⟩
  rw [show numP t 6 = some ⟨t, 7, none⟩ from rfl]
  go_wp2_with fail
  refine (number_calls g 6 _ (by decide) (by decide)).mono ?_
  rintro e w' ⟨rfl, rfl⟩
  rw [show numP g 6 = some ⟨g, 7, none⟩ from rfl]
  go_wp2_with fail
  go_end0
  exact ⟨rfl, blk_set H.out.1 7 _, Keep1.set W t 7 _⟩
set_option maxHeartbeats 1000000 in
set_option maxRecDepth 100000 in
theorem copy7 (t g : Nat) (a c : Cmd) (W : World) (ht : W.heap[t]? = some (.cells (cells a) 28 (0, 0))) (hg : W.heap[g]? = some (.cells (cells c) 28 (0, 0))) (hne : t ≠ g) :
    Calls Try.prog 19 #[.pointer (some ⟨t, 0, none⟩), .pointer (some ⟨g, 0, none⟩), .int .i32 100] W fun e w' => e = .returned (.tuple #[]) ∧ w'.heap[t]? = some (.cells (cells (keepF a c 7)) 28 (0, 0)) ∧ Keep1 W w' t := by
  have H := Aside0.mk (And.intro ht (And.intro hg hne))
  have x8 : W.cell? ⟨g, 8, none⟩ = some (.int .i64 c.di) := cell_of hg 8
  have y8 : W.cell? ⟨t, 8, none⟩ = some (.int .i64 a.di) := cell_of ht 8
  have s8 : W.frozen? ⟨t, 8, none⟩ = false := blk_frozen ht 8
  clear ht hg
  go_enter Try.func19, Try.ntmps19
  go_wp2_with fail
  refine (number_calls t 7 _ (by decide) (by decide)).mono ?_
  rintro e w' ⟨rfl, rfl⟩
  rw [show numP t 7 = some ⟨t, 8, none⟩ from rfl]
  go_wp2_with fail
  refine (number_calls t 7 _ (by decide) (by decide)).mono ?_
  rintro e w' ⟨rfl, rfl⟩
  rw [show numP t 7 = some ⟨t, 8, none⟩ from rfl]
  go_wp2_with fail
  refine (number_calls g 7 _ (by decide) (by decide)).mono ?_
  rintro e w' ⟨rfl, rfl⟩
  rw [show numP g 7 = some ⟨g, 8, none⟩ from rfl]
  go_wp2_with fail
  go_end0
  exact ⟨rfl, blk_set H.out.1 8 _, Keep1.set W t 8 _⟩
set_option maxHeartbeats 1000000 in
set_option maxRecDepth 100000 in
theorem copy8 (t g : Nat) (a c : Cmd) (W : World) (ht : W.heap[t]? = some (.cells (cells a) 28 (0, 0))) (hg : W.heap[g]? = some (.cells (cells c) 28 (0, 0))) (hne : t ≠ g) :
    Calls Try.prog 19 #[.pointer (some ⟨t, 0, none⟩), .pointer (some ⟨g, 0, none⟩), .int .i32 99] W fun e w' => e = .returned (.tuple #[]) ∧ w'.heap[t]? = some (.cells (cells (keepF a c 8)) 28 (0, 0)) ∧ Keep1 W w' t := by
  have H := Aside0.mk (And.intro ht (And.intro hg hne))
  have x9 : W.cell? ⟨g, 9, none⟩ = some (.int .i64 c.co) := cell_of hg 9
  have y9 : W.cell? ⟨t, 9, none⟩ = some (.int .i64 a.co) := cell_of ht 9
  have s9 : W.frozen? ⟨t, 9, none⟩ = false := blk_frozen ht 9
  clear ht hg
  go_enter Try.func19, Try.ntmps19
  go_wp2_with fail
  refine (number_calls t 8 _ (by decide) (by decide)).mono ?_
  rintro e w' ⟨rfl, rfl⟩
  rw [show numP t 8 = some ⟨t, 9, none⟩ from rfl]
  go_wp2_with fail
  refine (number_calls t 8 _ (by decide) (by decide)).mono ?_
  rintro e w' ⟨rfl, rfl⟩
  rw [show numP t 8 = some ⟨t, 9, none⟩ from rfl]
  go_wp2_with fail
  refine (number_calls g 8 _ (by decide) (by decide)).mono ?_
  rintro e w' ⟨rfl, rfl⟩
  rw [show numP g 8 = some ⟨g, 9, none⟩ from rfl]
  go_wp2_with fail
  go_end0
  exact ⟨rfl, blk_set H.out.1 9 _, Keep1.set W t 9 _⟩
set_option maxHeartbeats 1000000 in
set_option maxRecDepth 100000 in
theorem copy9 (t g : Nat) (a c : Cmd) (W : World) (ht : W.heap[t]? = some (.cells (cells a) 28 (0, 0))) (hg : W.heap[g]? = some (.cells (cells c) 28 (0, 0))) (hne : t ≠ g) :
    Calls Try.prog 19 #[.pointer (some ⟨t, 0, none⟩), .pointer (some ⟨g, 0, none⟩), .int .i32 97] W fun e w' => e = .returned (.tuple #[]) ∧ w'.heap[t]? = some (.cells (cells (keepF a c 9)) 28 (0, 0)) ∧ Keep1 W w' t := by
  have H := Aside0.mk (And.intro ht (And.intro hg hne))
  have x10 : W.cell? ⟨g, 10, none⟩ = some (.int .u64 c.am) := cell_of hg 10
  have y10 : W.cell? ⟨t, 10, none⟩ = some (.int .u64 a.am) := cell_of ht 10
  have s10 : W.frozen? ⟨t, 10, none⟩ = false := blk_frozen ht 10
  clear ht hg
  go_enter Try.func19, Try.ntmps19
  go_wp2_with fail
  refine (number_calls t 9 _ (by decide) (by decide)).mono ?_
  rintro e w' ⟨rfl, rfl⟩
  rw [show numP t 9 = none from rfl]
  go_wp2_with fail
  refine (amount_calls t 9 _ (by decide) (by decide)).mono ?_
  rintro e w' ⟨rfl, rfl⟩
  rw [show amoP t 9 = some ⟨t, 10, none⟩ from rfl]
  go_wp2_with fail
  refine (amount_calls t 9 _ (by decide) (by decide)).mono ?_
  rintro e w' ⟨rfl, rfl⟩
  rw [show amoP t 9 = some ⟨t, 10, none⟩ from rfl]
  go_wp2_with fail
  refine (amount_calls g 9 _ (by decide) (by decide)).mono ?_
  rintro e w' ⟨rfl, rfl⟩
  rw [show amoP g 9 = some ⟨g, 10, none⟩ from rfl]
  go_wp2_with fail
  go_end0
  exact ⟨rfl, blk_set H.out.1 10 _, Keep1.set W t 10 _⟩
set_option maxHeartbeats 1000000 in
set_option maxRecDepth 100000 in
theorem copy10 (t g : Nat) (a c : Cmd) (W : World) (ht : W.heap[t]? = some (.cells (cells a) 28 (0, 0))) (hg : W.heap[g]? = some (.cells (cells c) 28 (0, 0))) (hne : t ≠ g) :
    Calls Try.prog 19 #[.pointer (some ⟨t, 0, none⟩), .pointer (some ⟨g, 0, none⟩), .int .i32 103] W fun e w' => e = .returned (.tuple #[]) ∧ w'.heap[t]? = some (.cells (cells (keepF a c 10)) 28 (0, 0)) ∧ Keep1 W w' t := by
  have H := Aside0.mk (And.intro ht (And.intro hg hne))
  have x11 : W.cell? ⟨g, 11, none⟩ = some (.int .i64 c.gc) := cell_of hg 11
  have y11 : W.cell? ⟨t, 11, none⟩ = some (.int .i64 a.gc) := cell_of ht 11
  have s11 : W.frozen? ⟨t, 11, none⟩ = false := blk_frozen ht 11
  have x12 : W.cell? ⟨g, 12, none⟩ = some (.int .u64 c.ga) := cell_of hg 12
  have y12 : W.cell? ⟨t, 12, none⟩ = some (.int .u64 a.ga) := cell_of ht 12
  have s12 : W.frozen? ⟨t, 12, none⟩ = false := blk_frozen ht 12
  have x13 : W.cell? ⟨g, 13, none⟩ = some (.int .i64 c.gi) := cell_of hg 13
  have y13 : W.cell? ⟨t, 13, none⟩ = some (.int .i64 a.gi) := cell_of ht 13
  have s13 : W.frozen? ⟨t, 13, none⟩ = false := blk_frozen ht 13
  clear ht hg
  go_enter Try.func19, Try.ntmps19
  go_wp2_with fail
  refine (number_calls t 10 _ (by decide) (by decide)).mono ?_
  rintro e w' ⟨rfl, rfl⟩
  rw [show numP t 10 = none from rfl]
  go_wp2_with fail
  refine (amount_calls t 10 _ (by decide) (by decide)).mono ?_
  rintro e w' ⟨rfl, rfl⟩
  rw [show amoP t 10 = none from rfl]
  go_wp2_with fail
  refine (part_calls t 10 _ (by decide) (by decide)).mono ?_
  rintro e w' ⟨rfl, rfl⟩
  rw [show parP t 10 = some ⟨t, 11, none⟩ from rfl]
  go_wp2_with fail
  refine (part_calls t 10 _ (by decide) (by decide)).mono ?_
  rintro e w' ⟨rfl, rfl⟩
  rw [show parP t 10 = some ⟨t, 11, none⟩ from rfl]
  go_wp2_with fail
  refine (part_calls g 10 _ (by decide) (by decide)).mono ?_
  rintro e w' ⟨rfl, rfl⟩
  rw [show parP g 10 = some ⟨g, 11, none⟩ from rfl]
  go_wp2_with fail
  go_end0
  exact ⟨rfl, blk_set (blk_set (blk_set H.out.1 11 _) 12 _) 13 _, ((Keep1.set W t 11 _).trans (Keep1.set _ t 12 _)).trans (Keep1.set _ t 13 _)⟩
set_option maxHeartbeats 1000000 in
set_option maxRecDepth 100000 in
theorem copy11 (t g : Nat) (a c : Cmd) (W : World) (ht : W.heap[t]? = some (.cells (cells a) 28 (0, 0))) (hg : W.heap[g]? = some (.cells (cells c) 28 (0, 0))) (hne : t ≠ g) :
    Calls Try.prog 19 #[.pointer (some ⟨t, 0, none⟩), .pointer (some ⟨g, 0, none⟩), .int .i32 118] W fun e w' => e = .returned (.tuple #[]) ∧ w'.heap[t]? = some (.cells (cells (keepF a c 11)) 28 (0, 0)) ∧ Keep1 W w' t := by
  have H := Aside0.mk (And.intro ht (And.intro hg hne))
  have x14 : W.cell? ⟨g, 14, none⟩ = some (.int .i64 c.wc) := cell_of hg 14
  have y14 : W.cell? ⟨t, 14, none⟩ = some (.int .i64 a.wc) := cell_of ht 14
  have s14 : W.frozen? ⟨t, 14, none⟩ = false := blk_frozen ht 14
  have x15 : W.cell? ⟨g, 15, none⟩ = some (.int .u64 c.wa) := cell_of hg 15
  have y15 : W.cell? ⟨t, 15, none⟩ = some (.int .u64 a.wa) := cell_of ht 15
  have s15 : W.frozen? ⟨t, 15, none⟩ = false := blk_frozen ht 15
  have x16 : W.cell? ⟨g, 16, none⟩ = some (.int .i64 c.wi) := cell_of hg 16
  have y16 : W.cell? ⟨t, 16, none⟩ = some (.int .i64 a.wi) := cell_of ht 16
  have s16 : W.frozen? ⟨t, 16, none⟩ = false := blk_frozen ht 16
  clear ht hg
  go_enter Try.func19, Try.ntmps19
  go_wp2_with fail
  refine (number_calls t 11 _ (by decide) (by decide)).mono ?_
  rintro e w' ⟨rfl, rfl⟩
  rw [show numP t 11 = none from rfl]
  go_wp2_with fail
  refine (amount_calls t 11 _ (by decide) (by decide)).mono ?_
  rintro e w' ⟨rfl, rfl⟩
  rw [show amoP t 11 = none from rfl]
  go_wp2_with fail
  refine (part_calls t 11 _ (by decide) (by decide)).mono ?_
  rintro e w' ⟨rfl, rfl⟩
  rw [show parP t 11 = some ⟨t, 14, none⟩ from rfl]
  go_wp2_with fail
  refine (part_calls t 11 _ (by decide) (by decide)).mono ?_
  rintro e w' ⟨rfl, rfl⟩
  rw [show parP t 11 = some ⟨t, 14, none⟩ from rfl]
  go_wp2_with fail
  refine (part_calls g 11 _ (by decide) (by decide)).mono ?_
  rintro e w' ⟨rfl, rfl⟩
  rw [show parP g 11 = some ⟨g, 14, none⟩ from rfl]
  go_wp2_with fail
  go_end0
  exact ⟨rfl, blk_set (blk_set (blk_set H.out.1 14 _) 15 _) 16 _, ((Keep1.set W t 14 _).trans (Keep1.set _ t 15 _)).trans (Keep1.set _ t 16 _)⟩
set_option maxHeartbeats 1000000 in
set_option maxRecDepth 100000 in
theorem copy12 (t g : Nat) (a c : Cmd) (W : World) (ht : W.heap[t]? = some (.cells (cells a) 28 (0, 0))) (hg : W.heap[g]? = some (.cells (cells c) 28 (0, 0))) (hne : t ≠ g) :
    Calls Try.prog 19 #[.pointer (some ⟨t, 0, none⟩), .pointer (some ⟨g, 0, none⟩), .int .i32 105] W fun e w' => e = .returned (.tuple #[]) ∧ w'.heap[t]? = some (.cells (cells (keepF a c 12)) 28 (0, 0)) ∧ Keep1 W w' t := by
  have H := Aside0.mk (And.intro ht (And.intro hg hne))
  have x17 : W.cell? ⟨g, 17, none⟩ = some (.int .i64 c.si) := cell_of hg 17
  have y17 : W.cell? ⟨t, 17, none⟩ = some (.int .i64 a.si) := cell_of ht 17
  have s17 : W.frozen? ⟨t, 17, none⟩ = false := blk_frozen ht 17
  clear ht hg
  go_enter Try.func19, Try.ntmps19
  go_wp2_with fail
  refine (number_calls t 12 _ (by decide) (by decide)).mono ?_
  rintro e w' ⟨rfl, rfl⟩
  rw [show numP t 12 = some ⟨t, 17, none⟩ from rfl]
  go_wp2_with fail
  refine (number_calls t 12 _ (by decide) (by decide)).mono ?_
  rintro e w' ⟨rfl, rfl⟩
  rw [show numP t 12 = some ⟨t, 17, none⟩ from rfl]
  go_wp2_with fail
  refine (number_calls g 12 _ (by decide) (by decide)).mono ?_
  rintro e w' ⟨rfl, rfl⟩
  rw [show numP g 12 = some ⟨g, 17, none⟩ from rfl]
  go_wp2_with fail
  go_end0
  exact ⟨rfl, blk_set H.out.1 17 _, Keep1.set W t 17 _⟩
set_option maxHeartbeats 1000000 in
set_option maxRecDepth 100000 in
theorem copy13 (t g : Nat) (a c : Cmd) (W : World) (ht : W.heap[t]? = some (.cells (cells a) 28 (0, 0))) (hg : W.heap[g]? = some (.cells (cells c) 28 (0, 0))) (hne : t ≠ g) :
    Calls Try.prog 19 #[.pointer (some ⟨t, 0, none⟩), .pointer (some ⟨g, 0, none⟩), .int .i32 98] W fun e w' => e = .returned (.tuple #[]) ∧ w'.heap[t]? = some (.cells (cells (keepF a c 13)) 28 (0, 0)) ∧ Keep1 W w' t := by
  have H := Aside0.mk (And.intro ht (And.intro hg hne))
  have x18 : W.cell? ⟨g, 18, none⟩ = some (.int .i64 c.ba) := cell_of hg 18
  have y18 : W.cell? ⟨t, 18, none⟩ = some (.int .i64 a.ba) := cell_of ht 18
  have s18 : W.frozen? ⟨t, 18, none⟩ = false := blk_frozen ht 18
  clear ht hg
  go_enter Try.func19, Try.ntmps19
  go_wp2_with fail
  refine (number_calls t 13 _ (by decide) (by decide)).mono ?_
  rintro e w' ⟨rfl, rfl⟩
  rw [show numP t 13 = some ⟨t, 18, none⟩ from rfl]
  go_wp2_with fail
  refine (number_calls t 13 _ (by decide) (by decide)).mono ?_
  rintro e w' ⟨rfl, rfl⟩
  rw [show numP t 13 = some ⟨t, 18, none⟩ from rfl]
  go_wp2_with fail
  refine (number_calls g 13 _ (by decide) (by decide)).mono ?_
  rintro e w' ⟨rfl, rfl⟩
  rw [show numP g 13 = some ⟨g, 18, none⟩ from rfl]
  go_wp2_with fail
  go_end0
  exact ⟨rfl, blk_set H.out.1 18 _, Keep1.set W t 18 _⟩
set_option maxHeartbeats 1000000 in
set_option maxRecDepth 100000 in
theorem copy14 (t g : Nat) (a c : Cmd) (W : World) (ht : W.heap[t]? = some (.cells (cells a) 28 (0, 0))) (hg : W.heap[g]? = some (.cells (cells c) 28 (0, 0))) (hne : t ≠ g) :
    Calls Try.prog 19 #[.pointer (some ⟨t, 0, none⟩), .pointer (some ⟨g, 0, none⟩), .int .i32 113] W fun e w' => e = .returned (.tuple #[]) ∧ w'.heap[t]? = some (.cells (cells (keepF a c 14)) 28 (0, 0)) ∧ Keep1 W w' t := by
  have H := Aside0.mk (And.intro ht (And.intro hg hne))
  have x19 : W.cell? ⟨g, 19, none⟩ = some (.int .i64 c.qu) := cell_of hg 19
  have y19 : W.cell? ⟨t, 19, none⟩ = some (.int .i64 a.qu) := cell_of ht 19
  have s19 : W.frozen? ⟨t, 19, none⟩ = false := blk_frozen ht 19
  clear ht hg
  go_enter Try.func19, Try.ntmps19
  go_wp2_with fail
  refine (number_calls t 14 _ (by decide) (by decide)).mono ?_
  rintro e w' ⟨rfl, rfl⟩
  rw [show numP t 14 = some ⟨t, 19, none⟩ from rfl]
  go_wp2_with fail
  refine (number_calls t 14 _ (by decide) (by decide)).mono ?_
  rintro e w' ⟨rfl, rfl⟩
  rw [show numP t 14 = some ⟨t, 19, none⟩ from rfl]
  go_wp2_with fail
  refine (number_calls g 14 _ (by decide) (by decide)).mono ?_
  rintro e w' ⟨rfl, rfl⟩
  rw [show numP g 14 = some ⟨g, 19, none⟩ from rfl]
  go_wp2_with fail
  go_end0
  exact ⟨rfl, blk_set H.out.1 19 _, Keep1.set W t 19 _⟩
set_option maxHeartbeats 1000000 in
set_option maxRecDepth 100000 in
theorem copy15 (t g : Nat) (a c : Cmd) (W : World) (ht : W.heap[t]? = some (.cells (cells a) 28 (0, 0))) (hg : W.heap[g]? = some (.cells (cells c) 28 (0, 0))) (hne : t ≠ g) :
    Calls Try.prog 19 #[.pointer (some ⟨t, 0, none⟩), .pointer (some ⟨g, 0, none⟩), .int .i32 107] W fun e w' => e = .returned (.tuple #[]) ∧ w'.heap[t]? = some (.cells (cells (keepF a c 15)) 28 (0, 0)) ∧ Keep1 W w' t := by
  have H := Aside0.mk (And.intro ht (And.intro hg hne))
  have x20 : W.cell? ⟨g, 20, none⟩ = some (.int .u64 c.qt) := cell_of hg 20
  have y20 : W.cell? ⟨t, 20, none⟩ = some (.int .u64 a.qt) := cell_of ht 20
  have s20 : W.frozen? ⟨t, 20, none⟩ = false := blk_frozen ht 20
  clear ht hg
  go_enter Try.func19, Try.ntmps19
  go_wp2_with fail
  refine (number_calls t 15 _ (by decide) (by decide)).mono ?_
  rintro e w' ⟨rfl, rfl⟩
  rw [show numP t 15 = none from rfl]
  go_wp2_with fail
  refine (amount_calls t 15 _ (by decide) (by decide)).mono ?_
  rintro e w' ⟨rfl, rfl⟩
  rw [show amoP t 15 = some ⟨t, 20, none⟩ from rfl]
  go_wp2_with fail
  refine (amount_calls t 15 _ (by decide) (by decide)).mono ?_
  rintro e w' ⟨rfl, rfl⟩
  rw [show amoP t 15 = some ⟨t, 20, none⟩ from rfl]
  go_wp2_with fail
  refine (amount_calls g 15 _ (by decide) (by decide)).mono ?_
  rintro e w' ⟨rfl, rfl⟩
  rw [show amoP g 15 = some ⟨g, 20, none⟩ from rfl]
  go_wp2_with fail
  go_end0
  exact ⟨rfl, blk_set H.out.1 20 _, Keep1.set W t 20 _⟩
set_option maxHeartbeats 1000000 in
set_option maxRecDepth 100000 in
theorem copy16 (t g : Nat) (a c : Cmd) (W : World) (ht : W.heap[t]? = some (.cells (cells a) 28 (0, 0))) (hg : W.heap[g]? = some (.cells (cells c) 28 (0, 0))) (hne : t ≠ g) :
    Calls Try.prog 19 #[.pointer (some ⟨t, 0, none⟩), .pointer (some ⟨g, 0, none⟩), .int .i32 112] W fun e w' => e = .returned (.tuple #[]) ∧ w'.heap[t]? = some (.cells (cells (keepF a c 16)) 28 (0, 0)) ∧ Keep1 W w' t := by
  have H := Aside0.mk (And.intro ht (And.intro hg hne))
  have x21 : W.cell? ⟨g, 21, none⟩ = some (.int .u64 c.pr) := cell_of hg 21
  have y21 : W.cell? ⟨t, 21, none⟩ = some (.int .u64 a.pr) := cell_of ht 21
  have s21 : W.frozen? ⟨t, 21, none⟩ = false := blk_frozen ht 21
  clear ht hg
  go_enter Try.func19, Try.ntmps19
  go_wp2_with fail
  refine (number_calls t 16 _ (by decide) (by decide)).mono ?_
  rintro e w' ⟨rfl, rfl⟩
  rw [show numP t 16 = none from rfl]
  go_wp2_with fail
  refine (amount_calls t 16 _ (by decide) (by decide)).mono ?_
  rintro e w' ⟨rfl, rfl⟩
  rw [show amoP t 16 = some ⟨t, 21, none⟩ from rfl]
  go_wp2_with fail
  refine (amount_calls t 16 _ (by decide) (by decide)).mono ?_
  rintro e w' ⟨rfl, rfl⟩
  rw [show amoP t 16 = some ⟨t, 21, none⟩ from rfl]
  go_wp2_with fail
  refine (amount_calls g 16 _ (by decide) (by decide)).mono ?_
  rintro e w' ⟨rfl, rfl⟩
  rw [show amoP g 16 = some ⟨g, 21, none⟩ from rfl]
  go_wp2_with fail
  go_end0
  exact ⟨rfl, blk_set H.out.1 21 _, Keep1.set W t 21 _⟩
end Go.Proofs.Ytfaicipochceeaa.Giv
