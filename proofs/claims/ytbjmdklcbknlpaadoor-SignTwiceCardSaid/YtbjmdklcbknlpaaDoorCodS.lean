/- What the codec writes. Plain, but for where values lie. -/
import Derived.Test.YtbjmdklcbknlpaaDoorShaS
import Derived.Test.YtbjmdklcbknlpaaDoorOpen
namespace Go.Cod
open Go.Rn Go.Sha

/-- The digits of a number. -/
def num (u : Nat) : List UInt8 := if u < 128 then [UInt8.ofNat u] else UInt8.ofNat (u % 128 + 128) :: num (u / 128)
termination_by u
decreasing_by omega
theorem num_small {u : Nat} (h : u < 128) : num u = [UInt8.ofNat u] := by rw [num, if_pos h]
theorem num_big {u : Nat} (h : ¬ u < 128) : num u = UInt8.ofNat (u % 128 + 128) :: num (u / 128) := by rw [num, if_neg h]
theorem num_length : ∀ (k u : Nat), u < 128 ^ (k + 1) → (num u).length ≤ k + 1
  | 0, u, h => by rw [num_small (by simpa using h)]; simp
  | k + 1, u, h => by
    by_cases hu : u < 128
    · rw [num_small hu]; simp
    · rw [num_big hu, List.length_cons]
      have := num_length k (u / 128) (by rw [Nat.pow_succ] at h; omega)
      omega
theorem num_le (u : Nat) (h : u < 18446744073709551616) : (num u).length ≤ 10 := num_length 9 u (by omega)
/-- The unsigned form of an integer. -/
def zig (n : Int) : Nat := if 0 ≤ n then (2 * n).toNat else (-2 * n - 1).toNat
theorem zig_lt (n : Int) (h : -9223372036854775808 ≤ n ∧ n < 9223372036854775808) : zig n < 18446744073709551616 := by unfold zig; split <;> omega

inductive CV where
  | int (n : Int)
  | text (s : List UInt8)
  | list (l : List CV)

mutual
def CV.enc : CV → List UInt8
  | .int n => 1 :: num (zig n)
  | .text s => 2 :: (num s.length ++ s)
  | .list l => 3 :: (num l.length ++ encs l)
def encs : List CV → List UInt8
  | [] => []
  | c :: r => c.enc ++ encs r
end
mutual
def CV.depth : CV → Nat
  | .int _ => 0
  | .text _ => 0
  | .list l => depths l + 1
def depths : List CV → Nat
  | [] => 0
  | c :: r => max c.depth (depths r)
end
mutual
/-- A value's four cells, and what hangs on them. -/
def CV.In (w : World) : CV → List Value → Prop
  | .int n, cs => (-9223372036854775808 ≤ n ∧ n < 9223372036854775808) ∧ ∃ d, cs = [.int .i64 1, .int .i64 n, .string ⟨#[]⟩, .slice d 0 0]
  | .text s, cs => s.length ≤ 1000000000 ∧ ∃ d, cs = [.int .i64 2, .int .i64 0, .string (strOf s), .slice d 0 0]
  | .list l, cs => l.length ≤ 1000000 ∧ ∃ v rows, cs = [.int .i64 3, .int .i64 0, .string ⟨#[]⟩, v] ∧ IsSl w 4 v l.length rows.flatten ∧ Ins w l rows
def Ins (w : World) : List CV → List (List Value) → Prop
  | [], rows => rows = []
  | c :: l, rows => ∃ r rest, rows = r :: rest ∧ c.In w r ∧ Ins w l rest
end
theorem In.length {w : World} {c : CV} {cs : List Value} (h : c.In w cs) : cs.length = 4 := by
  cases c <;> simp only [CV.In] at h
  · obtain ⟨_, _, rfl⟩ := h; rfl
  · obtain ⟨_, _, rfl⟩ := h; rfl
  · obtain ⟨_, _, _, rfl, _⟩ := h; rfl

mutual
theorem In.ext {w w' : World} (e : Ext w w') : ∀ (c : CV) (cs : List Value), c.In w cs → c.In w' cs
  | .int _, _, h => by simpa only [CV.In] using h
  | .text _, _, h => by simpa only [CV.In] using h
  | .list l, cs, h => by
    simp only [CV.In] at h ⊢
    obtain ⟨h0, v, rows, h1, h2, h3⟩ := h
    exact ⟨h0, v, rows, h1, h2.extE e, Ins.ext e l rows h3⟩
theorem Ins.ext {w w' : World} (e : Ext w w') : ∀ (l : List CV) (rows : List (List Value)), Ins w l rows → Ins w' l rows
  | [], _, h => by simpa only [Ins] using h
  | c :: l, rows, h => by
    simp only [Ins] at h ⊢
    obtain ⟨r, rest, h1, h2, h3⟩ := h
    exact ⟨r, rest, h1, In.ext e c r h2, Ins.ext e l rest h3⟩
end
theorem Ins.get {w : World} : ∀ {l : List CV} {rows : List (List Value)}, Ins w l rows → rows.length = l.length ∧ ∀ (i : Nat) (c : CV), l[i]? = some c → ∃ r, rows[i]? = some r ∧ c.In w r
  | [], rows, h => by simp only [Ins] at h; subst h; exact ⟨rfl, fun i c h => by simp at h⟩
  | c :: l, rows, h => by
    simp only [Ins] at h
    obtain ⟨r, rest, rfl, h2, h3⟩ := h
    obtain ⟨h4, h5⟩ := Ins.get h3
    refine ⟨by simp [h4], fun i c' hi => ?_⟩
    cases i with
    | zero => simp at hi; subst hi; exact ⟨r, rfl, h2⟩
    | succ i => simp at hi; obtain ⟨r', h6, h7⟩ := h5 i c' hi; exact ⟨r', by simpa using h6, h7⟩
theorem Ins.lens {w : World} : ∀ {l : List CV} {rows : List (List Value)}, Ins w l rows → ∀ r ∈ rows, r.length = 4
  | [], rows, h => by simp only [Ins] at h; subst h; simp
  | c :: l, rows, h => by
    simp only [Ins] at h
    obtain ⟨r, rest, rfl, h2, h3⟩ := h
    intro x hx
    rcases List.mem_cons.1 hx with rfl | hx
    · exact In.length h2
    · exact Ins.lens h3 x hx
/-- The cells of one element. -/
theorem Ins.row {w : World} {l : List CV} {rows : List (List Value)} (h : Ins w l rows) {i : Nat} {r : List Value} (hr : rows[i]? = some r) {b o : Nat} (hb : Row w b o rows.flatten) : Row w b (o + i * 4) r := by
  have hl := h.lens
  refine hb.window fun j v hv => ?_
  have hj : j < 4 := by
    have := hl r (List.mem_of_getElem? hr)
    rcases Nat.lt_or_ge j 4 with h | h
    · exact h
    · rw [List.getElem?_eq_none (by omega)] at hv; simp at hv
  rw [flatten_get rows hl i j hj, hr]; exact hv
theorem encs_append : ∀ (a b : List CV), encs (a ++ b) = encs a ++ encs b
  | [], b => by simp [encs]
  | c :: a, b => by simp only [List.cons_append, encs, encs_append a b, List.append_assoc]
theorem encs_take {l : List CV} {i : Nat} {c : CV} (h : l[i]? = some c) : encs (l.take (i + 1)) = encs (l.take i) ++ c.enc := by
  rw [List.take_add_one, h, encs_append]; simp [encs]
theorem depths_append : ∀ (a b : List CV), depths (a ++ b) = max (depths a) (depths b)
  | [], b => by simp [depths]
  | c :: a, b => by simp only [List.cons_append, depths, depths_append a b]; omega
theorem depths_take {l : List CV} {i : Nat} {c : CV} (h : l[i]? = some c) : depths (l.take (i + 1)) = max (depths (l.take i)) c.depth := by
  rw [List.take_add_one, h, depths_append]; simp [depths]
theorem depth_le : ∀ {l : List CV} {c : CV}, c ∈ l → c.depth ≤ depths l
  | a :: l, c, h => by
    simp only [depths]
    rcases List.mem_cons.1 h with rfl | h
    · omega
    · have := depth_le h; omega
theorem encs_le {l : List CV} {c : CV} {i : Nat} (h : l[i]? = some c) : (encs (l.take i)).length + c.enc.length ≤ (encs l).length := by
  have h1 := encs_take h
  have h2 : encs l = encs (l.take (i + 1)) ++ encs (l.drop (i + 1)) := by rw [← encs_append, List.take_append_drop]
  rw [h2, h1]; simp
end Go.Cod
