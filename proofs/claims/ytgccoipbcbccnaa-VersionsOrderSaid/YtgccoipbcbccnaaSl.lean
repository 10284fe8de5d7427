/- Slices as lists: what is read of them, parts of them, room for them. -/
import Derived.Test.YtgccoipbcbccnaaMix
set_option linter.unusedSimpArgs false
set_option linter.unusedVariables false
set_option linter.unusedSectionVars false
namespace Go.Rn
open Go.RowKit

variable {P : Program} {w : World} {env : Env} {dst : Option Tmp} {ty : TypeId} {pos : String} {after : Array Edge} {guard : Option (Nat × Bool)}

theorem IsSl.inv {sz n : Nat} {v : Value} {cs : List Value} (h : IsSl w sz v n cs) : (∃ d, v = .slice d 0 0 ∧ n = 0 ∧ cs = []) ∨
    ∃ b o cap, v = .slice (some ⟨b, o, none⟩) n cap ∧ Row w b o cs ∧ cs.length = n * sz ∧ n ≤ cap := by
  cases h with
  | nil => exact .inl ⟨_, rfl, rfl, rfl⟩
  | row hr hl hc => exact .inr ⟨_, _, _, rfl, hr, hl, hc⟩
theorem IsSl.held {sz n : Nat} {v : Value} {cs : List Value} (h : IsSl w sz v n cs) (hn : 0 < n) : ∃ b o cap, v = .slice (some ⟨b, o, none⟩) n cap ∧ Row w b o cs ∧ cs.length = n * sz ∧ n ≤ cap := by
  rcases h.inv with ⟨_, -, h, -⟩ | h
  · omega
  · exact h
theorem IsSl.ext {S : Nat → Prop} {sz n : Nat} {v : Value} {cs : List Value} {w' : World} (h : IsSl w sz v n cs) (e : ExtB S w w') (hs : ∀ k, v.ownBlock = some k → ¬ S k) : IsSl w' sz v n cs := by
  rcases h.inv with ⟨d0, rfl, rfl, rfl⟩ | ⟨b, o, cap, rfl, hr, hl, hc⟩
  · exact .nil
  · exact .row (hr.ext e (hs b rfl)) hl hc
theorem IsSl.extE {sz n : Nat} {v : Value} {cs : List Value} {w' : World} (h : IsSl w sz v n cs) (e : Ext w w') : IsSl w' sz v n cs := h.ext e fun _ _ h => h
theorem IsSl.lt {sz n : Nat} {v : Value} {cs : List Value} (h : IsSl w sz v n cs) (hn : 0 < n) (hz : 0 < sz) {k : Nat} (hk : v.ownBlock = some k) : k < w.heap.size := by
  obtain ⟨b, o, cap, rfl, hr, hl, hc⟩ := h.held hn
  have : k = b := by simpa [Value.ownBlock] using hk.symm
  subst this
  have hlen : 0 < cs.length := by rw [hl]; exact Nat.mul_pos hn hz
  exact cell_lt (hr 0 cs[0] (by simp [hlen]))
theorem isSl_own {base : Nat} {e : TypeId} {sz n : Nat} {v : Value} {xs : List Value} (h : w.ownsRow base e sz v n xs) : IsSl w sz v n xs := by
  obtain ⟨hl, ⟨rfl, rfl⟩ | ⟨g, cap, cur, rfl, hb, hg, hn, hc, hs, ht⟩⟩ := h
  · obtain rfl : xs = [] := List.eq_nil_of_length_eq_zero (by simpa using hl)
    exact .nil
  · refine .row (fun i u hu => ?_) hl hn
    have hb : Blk w g cur.toList e := by unfold Blk; rw [hg]
    rw [Nat.zero_add]
    refine hb.cell ?_
    rw [← ht, List.getElem?_take] at hu
    split at hu
    · exact hu
    · simp at hu
theorem isSl_blk {b o n cap sz : Nat} {t : TypeId} {cs ds : List Value} (h : Blk w b cs t) (hd : ∀ i v, ds[i]? = some v → cs[o + i]? = some v) (hl : ds.length = n * sz) (hc : n ≤ cap) :
    IsSl w sz (.slice (some ⟨b, o, none⟩) n cap) n ds := .row (h.rowAt o hd) hl hc

theorem ownsRow_ext {S : Nat → Prop} {base : Nat} {e : TypeId} {sz n : Nat} {v : Value} {xs : List Value} {w' : World} (h : w.ownsRow base e sz v n xs) (x : ExtB S w w') (hs : ∀ k, v.ownBlock = some k → ¬ S k) :
    w'.ownsRow base e sz v n xs := by
  obtain ⟨hl, ⟨rfl, rfl⟩ | ⟨g, cap, cur, rfl, hb, hg, hr⟩⟩ := h
  · exact ⟨hl, .inl ⟨rfl, rfl⟩⟩
  · exact ⟨hl, .inr ⟨g, cap, cur, rfl, hb, by rw [x.block g (lt_of_get hg) (hs g rfl)]; exact hg, hr⟩⟩
theorem ownsRow_base {base base' : Nat} {e : TypeId} {sz n : Nat} {v : Value} {xs : List Value} (h : w.ownsRow base e sz v n xs) (hb : base' ≤ base) : w.ownsRow base' e sz v n xs := by
  obtain ⟨hl, h | ⟨g, cap, cur, h1, h2, hr⟩⟩ := h
  · exact ⟨hl, .inl h⟩
  · exact ⟨hl, .inr ⟨g, cap, cur, h1, by omega, hr⟩⟩
theorem ownsRow_ge {base : Nat} {e : TypeId} {sz n : Nat} {v : Value} {xs : List Value} (h : w.ownsRow base e sz v n xs) {k : Nat} (hk : v.ownBlock = some k) : base ≤ k := by
  obtain ⟨hl, ⟨rfl, rfl⟩ | ⟨g, cap, cur, rfl, hb, hr⟩⟩ := h
  · simp [Value.ownBlock] at hk
  · simp [Value.ownBlock] at hk; omega
theorem ownsRow_added {B : Nat} {base : Nat} {e : TypeId} {sz n : Nat} {cs : List Value} {w' : World} (h : Added w w' B (.cells cs.toArray e (0, 0))) (hb : base ≤ B) (hl : cs.length = n * sz) (hm : n ≤ maxLen) :
    w'.ownsRow base e sz (.slice (some ⟨B, 0, none⟩) n n) n cs := by
  refine ⟨hl, .inr ⟨B, n, cs.toArray, rfl, hb, h.at_, Nat.le_refl _, hm, by simpa using hl, ?_⟩⟩
  simp [← hl]

/-! ### Lengths -/
theorem OpV.lenV {T : Tab} (hT : T.Ok P) {t e : TypeId} {sz : Nat} {ag : Bool} {s bb : Nat} {z : List Value} {a u : Bool} {x : Operand} {v : Value} {d : Option Addr} {n cap : Nat}
    (ht : T.get t = some ⟨.slc sz ag e, s, bb, z, a, u⟩) (hx : evO env x = some v) (hv : v = .slice d n cap) :
    OpV P env w ⟨dst, .call ⟨.builtin .len, #[x], #[t]⟩, ty, pos, after, guard⟩ (.int .i64 (n : Int)) := .of_run fun ρ hρ => by
  subst hv
  refine ⟨Builtin.len_ #[t] ty #[.slice d n cap], by simp only [execOp, resolve, List.map_toArray, List.map_cons, List.map_nil, hρ _ _ hx]; rfl, ?_⟩
  have hu := (TD.of_slc (TI.tdof (hT.get _ _ ht)).symm).1
  simp [Builtin.len_, bind, Sem.bind, Sem.run, goInt, pure, underlying, program, hu]
theorem OpV.lenSl {w' : World} {T : Tab} (hT : T.Ok P) {t e : TypeId} {sz : Nat} {ag : Bool} {s bb : Nat} {z : List Value} {a u : Bool} {x : Operand} {v : Value} {n : Nat} {cs : List Value} {sz' : Nat}
    (ht : T.get t = some ⟨.slc sz ag e, s, bb, z, a, u⟩) (hx : evO env x = some v) (hv : IsSl w' sz' v n cs) :
    OpV P env w ⟨dst, .call ⟨.builtin .len, #[x], #[t]⟩, ty, pos, after, guard⟩ (.int .i64 (n : Int)) := by
  rcases hv.inv with ⟨d0, rfl, rfl, rfl⟩ | ⟨b, o, cap, rfl, -⟩
  · exact OpV.lenV (cap := 0) hT ht hx rfl
  · exact OpV.lenV hT ht hx rfl
theorem OpV.cap {T : Tab} (hT : T.Ok P) {t e : TypeId} {sz : Nat} {ag : Bool} {s bb : Nat} {z : List Value} {a u : Bool} {x : Operand} {d : Option Addr} {n cap : Nat}
    (ht : T.get t = some ⟨.slc sz ag e, s, bb, z, a, u⟩) (hx : evO env x = some (.slice d n cap)) :
    OpV P env w ⟨dst, .call ⟨.builtin .cap, #[x], #[t]⟩, ty, pos, after, guard⟩ (.int .i64 (cap : Int)) := .of_run fun ρ hρ => by
  refine ⟨Builtin.cap_ #[t] ty #[.slice d n cap], by simp only [execOp, resolve, List.map_toArray, List.map_cons, List.map_nil, hρ _ _ hx]; rfl, ?_⟩
  have hu := (TD.of_slc (TI.tdof (hT.get _ _ ht)).symm).1
  simp [Builtin.cap_, bind, Sem.bind, Sem.run, goInt, pure, underlying, program, hu]

/-! ### Parts -/
theorem OpE.part {T : Tab} (hT : T.Ok P) {t e : TypeId} {sz : Nat} {ag : Bool} {s bb : Nat} {z : List Value} {a u : Bool} {x : Operand} {low high : Option Operand} {v : Value} {n lo hi : Nat} {cs : List Value}
    (ht : T.get t = some ⟨.slc sz ag e, s, bb, z, a, u⟩) (hx : evO env x = some v) (hv : IsSl w sz v n cs) (hl : Bnd env low 0 lo) (hh : Bnd env high n hi) (h1 : lo ≤ hi) (h2 : hi ≤ n) :
    OpE P env w ⟨dst, .slice t x low high none, ty, pos, after, guard⟩ (fun u w' => w = w' ∧ u.ownBlock = v.ownBlock ∧ IsSl w sz u (hi - lo) ((cs.drop (lo * sz)).take ((hi - lo) * sz))) fun _ _ => False := by
  rcases hv.inv with ⟨d0, rfl, rfl, rfl⟩ | ⟨b, o, cap, rfl, hr, hln, hc⟩
  · obtain rfl : hi = 0 := by omega
    obtain rfl : lo = 0 := by omega
    refine (OpV.sliceNil hT ht hx hl hh).e.mono ?_ fun _ _ h => h
    rintro _ _ ⟨rfl, rfl⟩
    exact ⟨rfl, rfl, by simpa using IsSl.nil (d := d0)⟩
  · refine (OpV.sliceS hT ht hx hl hh (.none (n := cap)) (.inl rfl) h1 (by omega) (Nat.le_refl _)).e.mono ?_ fun _ _ h => h
    rintro _ _ ⟨rfl, rfl⟩
    refine ⟨rfl, rfl, .row ?_ ?_ (by omega)⟩
    · by_cases he : cap = lo
      · have : hi - lo = 0 := by omega
        rw [this]
        intro i u hu
        simp at hu
      · unfold offOf; rw [if_neg he]
        exact (hr.drop _).take _
    · rw [List.length_take, List.length_drop, hln, ← Nat.mul_sub_right_distrib]
      exact Nat.min_eq_left (Nat.mul_le_mul_right _ (by omega))

/-! ### Room: append(nil, make([]T, n)...) -/
theorem OpE.growNil {T : Tab} (hT : T.Ok P) {t e ti : TypeId} {kt : IntKind} {sz : Nat} {ag : Bool} {s bb s' bb' : Nat} {z z' : List Value} {a u a' u' : Bool} {ie : TI} {x y : Operand} {kd : IntKind} {i : Int} {m : Nat}
    (ht : T.get t = some ⟨.slc sz ag e, s, bb, z, a, u⟩) (hti : T.get ti = some ⟨.int kt, s', bb', z', a', u'⟩) (he : T.get e = some ie) (hz : ie.zero.length = sz) (hsz : Nat.blt 0 sz = true)
    (hx : evO env x = some (.slice none 0 0)) (hy : evO env y = some (.int kd i)) (hi : i = (m : Int)) (hm : 0 < m) (hb : m * ie.bytes ≤ 140737488355328) (h63 : m < 9223372036854775807) :
    OpE P env w ⟨dst, .call ⟨.builtin .append, #[x, y], #[t, ti]⟩, ty, pos, after, guard⟩
      (fun v w' => ∃ B cap, v = .slice (some ⟨B, 0, none⟩) m cap ∧ m ≤ cap ∧ cap ≤ maxLen ∧ B = w.heap.size ∧ Ext w w' ∧ ∃ cur, w'.heap[B]? = some (.cells cur e (0, 0)) ∧ cur.size = cap * sz) fun _ _ => False := by
  obtain ⟨hu, hc⟩ := TD.of_slc (TI.tdof (hT.get _ _ ht)).symm
  have hui := TD.of_int (TI.tdof (hT.get _ _ hti)).symm
  obtain ⟨j, dd, zv, hj, hd, hzv, h1, h2, h3, h4, h5, _⟩ := TI.inv (hT.get _ _ he)
  obtain ⟨ii, d', hii, hs', _, _⟩ := cellsAgg_inv hc
  rw [hii] at hj; cases hj
  have hzs : zv.cells.size = sz := by rw [← hz, h3]; simp
  subst hi
  have hsz' : 0 < sz := by simpa [Nat.blt_eq] using hsz
  have hwr : IntKind.i64.wrap (m : Int) = (m : Int) := wr_i64 (by omega) (by omega)
  have hcap := grownCap_ge w m 0 e
  have hcm : grownCap w m 0 e ≤ maxLen := grownCap_le_maxLen w m 0 e (by simp only [maxLen]; omega)
  have e48 : (2 : Int) ^ 48 = 281474976710656 := rfl
  have n48 : (2 : Nat) ^ 48 = 281474976710656 := rfl
  have hr : (Builtin.append_ #[t, ti] ty #[.slice none 0 0, .int kd (m : Int)]).run P w =
      .ok (.slice (some ⟨w.heap.size, 0, none⟩) m (grownCap w m 0 e)) (w.drew.alloc (.cells (Builtin.zeroCells zv.cells m ++ Builtin.zeroCells zv.cells (grownCap w m 0 e - m)) e)) := by
    have hn : m ≠ 0 := by omega
    have h63' : ¬ (9223372036854775807 < (m : Int)) := by omega
    have h48' : ¬ (281474976710656 < Builtin.nextslicecap m 0 * j.bytes) := by rw [nextslicecap_zero hm, ← h2]; omega
    have h0 : ¬ ((m : Int) < 0) := by omega
    have hneg : ¬ (281474976710656 < (m : Int) * (j.bytes : Int)) := by
      rw [← h2]
      have := Int.ofNat_le.2 hb
      rw [Int.natCast_mul] at this
      omega
    have hms : m * sz ≠ 0 := Nat.ne_of_gt (Nat.mul_pos hm hsz')
    have hmi : ¬ (m = 0 ∨ sz = 0) := by omega
    have hai : (asIntOf (.int kd (m : Int))).run P w = .ok (kd, (m : Int)) w := rfl
    have hmn : ¬ ((m : Int) ≤ 0) := by omega
    simp [Builtin.append_, run_underlying hu, run_underlying hui, sizeOf, typeInfo, zeroValue, hii, hzv, asInt, hai, hmn, hwr, h0, hneg, hn, h63', h48', Question.forced, run_firstCells_none, newRow, grownCap, hs', hms, hmi]
  refine .of_run (w' := _) (v := _) ?_ fun ρ hρ => ⟨_, by simp only [execOp, resolve, List.map_toArray, List.map_cons, List.map_nil, hρ _ _ hx, hρ _ _ hy] <;> rfl, hr⟩
  refine ⟨_, _, rfl, hcap, hcm, rfl, ⟨Nat.le_succ _, rfl, rfl, rfl, by simp, fun k hk _ => heap_alloc_old w.drew _ k hk⟩, _, heap_alloc_new w.drew _, ?_⟩
  simp only [Array.size_append, size_zeroCells, hzs, ← Nat.add_mul]
  congr 1
  omega
end Go.Rn
namespace Go.Rn
variable {P : Program} {w : World} {env : Env} {dst : Option Tmp} {ty : TypeId} {pos : String} {after : Array Edge} {guard : Option (Nat × Bool)}
theorem OpV.sliceAq {T : Tab} (hT : T.Ok P) {t e : TypeId} {N sz : Nat} {ag : Bool} {s bb : Nat} {z : List Value} {a u : Bool} {x : Operand} {low high : Option Operand} {b o lo hi q len cap : Nat}
    (ht : T.get t = some ⟨.arr N sz ag e, s, bb, z, a, u⟩) (hx : evO env x = some (.pointer (some ⟨b, o, none⟩))) (hl : Bnd env low 0 lo) (hh : Bnd env high N hi) (h1 : lo ≤ hi) (h2 : hi ≤ N)
    (hq : offOf o lo N sz = q) (hlen : hi - lo = len) (hcap : N - lo = cap) :
    OpV P env w ⟨dst, .slice t x low high none, ty, pos, after, guard⟩ (.slice (some ⟨b, q, none⟩) len cap) := by
  subst hq; subst hlen; subst hcap
  exact OpV.sliceA hT ht hx hl hh (.none (n := N)) (.inl rfl) h1 h2 (Nat.le_refl _)
theorem OpV.sliceSq {T : Tab} (hT : T.Ok P) {t e : TypeId} {sz : Nat} {ag : Bool} {s bb : Nat} {z : List Value} {a u : Bool} {x : Operand} {low high : Option Operand} {b o n c lo hi q len cap : Nat}
    (ht : T.get t = some ⟨.slc sz ag e, s, bb, z, a, u⟩) (hx : evO env x = some (.slice (some ⟨b, o, none⟩) n c)) (hl : Bnd env low 0 lo) (hh : Bnd env high n hi) (h1 : lo ≤ hi) (h2 : hi ≤ c)
    (hq : offOf o lo c sz = q) (hlen : hi - lo = len) (hcap : c - lo = cap) :
    OpV P env w ⟨dst, .slice t x low high none, ty, pos, after, guard⟩ (.slice (some ⟨b, q, none⟩) len cap) := by
  subst hq; subst hlen; subst hcap
  exact OpV.sliceS hT ht hx hl hh (.none (n := c)) (.inl rfl) h1 h2 (Nat.le_refl _)

theorem u64_shr (n k : Nat) (hk : k ≤ 64) : ((n : Nat) : Int).fdiv (2 ^ (min k IntKind.u64.bits)) = ((n / 2 ^ k : Nat) : Int) := by
  have e : IntKind.u64.bits = 64 := rfl
  rw [e, Nat.min_eq_left hk, Int.fdiv_eq_ediv_of_nonneg _ (by exact Int.pow_nonneg (by omega))]
  simp
theorem u32_shr' (n k : Nat) (hk : k ≤ 32) : ((n : Nat) : Int).fdiv (2 ^ (min k IntKind.u32.bits)) = ((n / 2 ^ k : Nat) : Int) := by
  have e : IntKind.u32.bits = 32 := rfl
  rw [e, Nat.min_eq_left hk, Int.fdiv_eq_ediv_of_nonneg _ (by exact Int.pow_nonneg (by omega))]
  simp
theorem u8_of_nat (n : Nat) : IntKind.u8.wrap (n : Int) = ((UInt8.ofNat n).toNat : Int) := by
  rw [wrap_u8]; simp [UInt8.toNat_ofNat]
theorem i64_mul (a i : Nat) (h : a * i < 9223372036854775808) : IntKind.i64.wrap ((a : Int) * (i : Int)) = ((a * i : Nat) : Int) := by
  rw [← Int.natCast_mul]; exact wr_i64 (by omega) (by omega)
theorem i64_add (a i : Nat) (h : a + i < 9223372036854775808) : IntKind.i64.wrap ((a : Int) + (i : Int)) = ((a + i : Nat) : Int) := by
  rw [← Int.natCast_add]; exact wr_i64 (by omega) (by omega)
theorem i64_sub (a i : Nat) (h : i ≤ a) (h' : a < 9223372036854775808) : IntKind.i64.wrap ((a : Int) - (i : Int)) = ((a - i : Nat) : Int) := by
  rw [← Int.natCast_sub h]; exact wr_i64 (by omega) (by omega)
end Go.Rn
namespace Go.Rn
theorem Rets.v {P : Program} {g : FuncId} {fi args all : List Value} {w : World} {R : Value → World → Prop} (h : Rets P g all w R) (e : fi ++ args = all) :
    FnV P (.func (.func g) fi.toArray [].toArray) args w R fun _ _ => False := by
  subst e
  exact RetsX.v (fi := fi) (args := args) (ca := []) (by rw [List.append_nil]; exact h)
end Go.Rn
namespace Go.Rn
theorem u64_nat (n : Nat) (h : n < 18446744073709551616) : IntKind.u64.wrap (n : Int) = (n : Int) := wr_u64 (by omega) (by omega)
theorem u64_mul (n a : Nat) (h : n * a < 18446744073709551616) : IntKind.u64.wrap ((n : Int) * (a : Int)) = ((n * a : Nat) : Int) := by rw [← Int.natCast_mul]; exact u64_nat _ h
end Go.Rn
namespace Go.Rn
variable {P : Program} {w : World} {env : Env} {dst : Option Tmp} {ty : TypeId} {pos : String} {after : Array Edge} {guard : Option (Nat × Bool)}
/-- All of a slice is copied into a part of a block. -/
theorem OpE.copySl {T : Tab} (hT : T.Ok P) {t t' e : TypeId} {sz : Nat} {ag : Bool} {s bb : Nat} {z : List Value} {a u : Bool} {x y : Operand} {b o len cap n : Nat} {v : Value} {cs vs : List Value} {bt : TypeId}
    (ht : T.get t = some ⟨.slc sz ag e, s, bb, z, a, u⟩) (hx : evO env x = some (.slice (some ⟨b, o, none⟩) len cap)) (hy : evO env y = some v)
    (hb : Blk w b cs bt) (hv : IsSl w sz v n vs) (hn : n ≤ len) (hfit : o + vs.length ≤ cs.length) (hp : vs.all plainV = true) :
    OpE P env w ⟨dst, .call ⟨.builtin .copy, #[x, y], #[t, t']⟩, ty, pos, after, guard⟩ (fun r w' => r = .int .i64 (n : Nat) ∧ Blk w' b (setAt cs o vs) bt ∧ ExtB (· = b) w w') fun _ _ => False := by
  rcases hv.inv with ⟨d0, rfl, rfl, rfl⟩ | ⟨b', o', cap', rfl, hr, hl, hc⟩
  · refine (OpE.copy0 hT ht hx hy (by simp)).mono ?_ fun _ _ h => h
    rintro _ _ ⟨rfl, rfl⟩
    exact ⟨rfl, hb, .refl _ _⟩
  · refine (OpE.copy hT ht hx hy hb hr (by rw [Nat.min_eq_left hn]; exact hl) hfit hp).mono ?_ fun _ _ h => h
    rintro _ w' ⟨rfl, t1⟩
    rw [Nat.min_eq_left hn]
    exact ⟨rfl, t1.at_, t1.ext⟩
end Go.Rn
namespace Go.Rn
theorem zerosL_one (v : Value) : ∀ n, zerosL [v] n = List.replicate n v
  | 0 => rfl
  | n + 1 => by simp [zerosL, zerosL_one v n, List.replicate_succ]
end Go.Rn
namespace Go.Rn
variable {P : Program} {c : Ctx} {k : List Item} {Q : Out → Act → World → Prop} {w : World} {n : Nat} {ds : List Deferred} {env : Env}
variable {ops : Array Oper} {d : Tmp} {ty : TypeId} {pos : String} {after : Array Edge} {guard : Option (Nat × Bool)} {rest : List Oper} {dst : Option Tmp}
theorem setAt_mid (X Y Z V : List Value) (h : V.length = Y.length) : setAt (X ++ Y ++ Z) X.length V = X ++ V ++ Z := by
  induction V generalizing X Y with
  | nil =>
    obtain rfl : Y = [] := List.eq_nil_of_length_eq_zero (by simpa using h.symm)
    rfl
  | cons v r ih =>
    cases Y with
    | nil => simp at h
    | cons y Y' =>
      unfold setAt
      have e : (X ++ y :: Y' ++ Z).set X.length v = (X ++ [v]) ++ Y' ++ Z := by simp
      rw [e]
      have := ih (X ++ [v]) Y' (by simpa using h)
      rw [List.length_append, List.length_singleton] at this
      rw [this]; simp

/-! ### Slices that are written out -/
def enumV : Nat → List Value → List (Nat × Value)
  | _, [] => []
  | i, v :: r => (i, v) :: enumV (i + 1) r
def cellsAll : List Value → List Value
  | [] => []
  | v :: r => v.cells.toList ++ cellsAll r
theorem cellsAll_length {sz : Nat} : ∀ (vs : List Value), (∀ v ∈ vs, v.cells.toList.length = sz) → (cellsAll vs).length = vs.length * sz
  | [], _ => by simp [cellsAll]
  | v :: r, h => by
    rw [cellsAll, List.length_append, h v (by simp), cellsAll_length r (fun u hu => h u (by simp [hu])), List.length_cons, Nat.add_mul]; omega
theorem fill_enum {sz : Nat} : ∀ (vs A R : List Value) (i : Nat), A.length = i * sz → R.length = vs.length * sz → (∀ v ∈ vs, v.cells.toList.length = sz) →
    fillL (fun i => some (i * sz, sz)) (A ++ R) (enumV i vs) = some (A ++ cellsAll vs)
  | [], A, R, i, hA, hR, _ => by
    obtain rfl : R = [] := List.eq_nil_of_length_eq_zero (by simpa using hR)
    rfl
  | v :: r, A, R, i, hA, hR, hv => by
    rw [List.length_cons, Nat.add_mul] at hR
    have hl := hv v (by simp)
    simp only [enumV, fillL]
    have c1 : Nat.beq v.cells.toList.length sz = true := by rw [hl]; exact Nat.beq_refl sz
    have c2 : Nat.ble (i * sz + v.cells.toList.length) (A ++ R).length = true := by rw [Nat.ble_eq, hl, List.length_append, hA, hR]; omega
    rw [c1, c2]
    simp only [Bool.and_self, cond_true]
    have e : A ++ R = A ++ R.take sz ++ R.drop sz := by rw [List.append_assoc, List.take_append_drop]
    have m := setAt_mid A (R.take sz) (R.drop sz) v.cells.toList (by rw [hl, List.length_take]; omega)
    rw [hA] at m
    rw [e, m, fill_enum r (A ++ v.cells.toList) (R.drop sz) (i + 1) (by rw [List.length_append, hA, hl, Nat.add_mul]; omega) (by rw [List.length_drop]; omega) (fun u hu => hv u (by simp [hu])), cellsAll]
    simp

theorem OpE.buildSl {T : Tab} (hT : T.Ok P) {t e : TypeId} {sz : Nat} {ag : Bool} {s b len : Nat} {z : List Value} {a u : Bool} {ie : TI} {parts : Array (Nat × Operand)} (vs : List Value)
    (ht : T.get t = some ⟨.slc sz ag e, s, b, z, a, u⟩) (he : T.get e = some ie) (hz : ie.zero.length = sz) (hlen : Nat.ble (len * sz) 16777216 = true) (hp : evParts env parts.toList = some (enumV 0 vs))
    (hl : vs.length = len) (hv : ∀ v ∈ vs, v.cells.toList.length = sz) :
    OpE P env w ⟨dst, .buildSlice t len parts, ty, pos, after, guard⟩ (fun v w' => ∃ B, v = .slice (some ⟨B, 0, none⟩) len len ∧ Added w w' B (.cells (cellsAll vs).toArray e (0, 0))) fun _ _ => False := by
  have hcs : buildCells ie.zero len sz (enumV 0 vs) = some (cellsAll vs) := by
    unfold buildCells
    have := fill_enum vs [] (zerosL ie.zero len) 0 (by simp) (by rw [zerosL_length, hz, hl]) hv
    rw [List.nil_append, List.nil_append] at this
    rw [this]
    simp only [force_eq]
  refine .of_run (w' := { w with heap := w.heap.push (.cells (cellsAll vs).toArray e) }) (v := .slice (some ⟨w.heap.size, 0, none⟩) len len) ⟨_, rfl, added_push w _⟩ fun ρ hρ => ⟨_, rfl, ?_⟩
  exact run_buildSlice hT ht he hz hlen (by rw [Array.toList_map]; exact evParts_map hρ hp) hcs
end Go.Rn
namespace Go.Rn
theorem isSl_added {w w' : World} {B : Nat} {e : TypeId} {sz n : Nat} {cs : List Value} (h : Added w w' B (.cells cs.toArray e (0, 0))) (hl : cs.length = n * sz) : IsSl w' sz (.slice (some ⟨B, 0, none⟩) n n) n cs :=
  .row (Blk.row (t := e) h.at_) hl (Nat.le_refl _)
end Go.Rn
