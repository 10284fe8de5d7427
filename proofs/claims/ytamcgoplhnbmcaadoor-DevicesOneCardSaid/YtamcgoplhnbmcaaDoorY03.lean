/- Parts of this project that the claims share: Sl, Step, BestS, Num, GroupA, Valid, DevS. -/
import Derived.Test.YtamcgoplhnbmcaaDoorY02
import Derived.Test.YtamcgoplhnbmcaaDoorY01
set_option linter.unusedSimpArgs false
set_option linter.unusedVariables false
set_option linter.unusedSectionVars false
section
/- Slices as lists: what is read of them, parts of them, room for them. -/
namespace Go.Rn
open Go.RowKit

variable {P : Program} {w : World} {env : Env} {dst : Option Tmp} {ty : TypeId} {pos : String} {after : Array Edge} {guard : Option (Nat × Bool)}

theorem IsSl.inv {sz n : Nat} {v : Value} {cs : List Value} (h : IsSl w sz v n cs) : (∃ d, v = .slice d 0 0 ∧ n = 0 ∧ cs = []) ∨
    ∃ b o cap, v = .slice (some ⟨b, o, none⟩) n cap ∧ Row w b o cs ∧ cs.length = n * sz ∧ n ≤ cap := by
  cases h with
  | nil => exact .inl ⟨_, rfl, rfl, rfl⟩
  | row hr hl hc => exact .inr ⟨_, _, _, rfl, hr, hl, hc⟩
theorem IsSl.held {sz n : Nat} {v : Value} {cs : List Value} (h : IsSl w sz v n cs) (hn : 0 < n) : ∃ b o cap, v = .slice (some ⟨b, o, none⟩) n cap ∧ Row w b o cs ∧ cs.length = n * sz ∧ n ≤ cap := by
  rcases h.inv with ⟨_, -, h, -⟩ | h
  · omega
  · exact h
theorem IsSl.ext {S : Nat → Prop} {sz n : Nat} {v : Value} {cs : List Value} {w' : World} (h : IsSl w sz v n cs) (e : ExtB S w w') (hs : ∀ k, v.ownBlock = some k → ¬ S k) : IsSl w' sz v n cs := by
  rcases h.inv with ⟨d0, rfl, rfl, rfl⟩ | ⟨b, o, cap, rfl, hr, hl, hc⟩
  · exact .nil
  · exact .row (hr.ext e (hs b rfl)) hl hc
theorem IsSl.extE {sz n : Nat} {v : Value} {cs : List Value} {w' : World} (h : IsSl w sz v n cs) (e : Ext w w') : IsSl w' sz v n cs := h.ext e fun _ _ h => h
theorem IsSl.lt {sz n : Nat} {v : Value} {cs : List Value} (h : IsSl w sz v n cs) (hn : 0 < n) (hz : 0 < sz) {k : Nat} (hk : v.ownBlock = some k) : k < w.heap.size := by
  obtain ⟨b, o, cap, rfl, hr, hl, hc⟩ := h.held hn
  have : k = b := by simpa [Value.ownBlock] using hk.symm
  subst this
  have hlen : 0 < cs.length := by rw [hl]; exact Nat.mul_pos hn hz
  exact cell_lt (hr 0 cs[0] (by simp [hlen]))
theorem isSl_own {base : Nat} {e : TypeId} {sz n : Nat} {v : Value} {xs : List Value} (h : w.ownsRow base e sz v n xs) : IsSl w sz v n xs := by
  obtain ⟨hl, ⟨rfl, rfl⟩ | ⟨g, cap, cur, rfl, hb, hg, hn, hc, hs, ht⟩⟩ := h
  · obtain rfl : xs = [] := List.eq_nil_of_length_eq_zero (by simpa using hl)
    exact .nil
  · refine .row (fun i u hu => ?_) hl hn
    have hb : Blk w g cur.toList e := by unfold Blk; rw [hg]
    rw [Nat.zero_add]
    refine hb.cell ?_
    rw [← ht, List.getElem?_take] at hu
    split at hu
    · exact hu
    · simp at hu
theorem isSl_blk {b o n cap sz : Nat} {t : TypeId} {cs ds : List Value} (h : Blk w b cs t) (hd : ∀ i v, ds[i]? = some v → cs[o + i]? = some v) (hl : ds.length = n * sz) (hc : n ≤ cap) :
    IsSl w sz (.slice (some ⟨b, o, none⟩) n cap) n ds := .row (h.rowAt o hd) hl hc

theorem ownsRow_ext {S : Nat → Prop} {base : Nat} {e : TypeId} {sz n : Nat} {v : Value} {xs : List Value} {w' : World} (h : w.ownsRow base e sz v n xs) (x : ExtB S w w') (hs : ∀ k, v.ownBlock = some k → ¬ S k) :
    w'.ownsRow base e sz v n xs := by
  obtain ⟨hl, ⟨rfl, rfl⟩ | ⟨g, cap, cur, rfl, hb, hg, hr⟩⟩ := h
  · exact ⟨hl, .inl ⟨rfl, rfl⟩⟩
  · exact ⟨hl, .inr ⟨g, cap, cur, rfl, hb, by rw [x.block g (lt_of_get hg) (hs g rfl)]; exact hg, hr⟩⟩
theorem ownsRow_base {base base' : Nat} {e : TypeId} {sz n : Nat} {v : Value} {xs : List Value} (h : w.ownsRow base e sz v n xs) (hb : base' ≤ base) : w.ownsRow base' e sz v n xs := by
  obtain ⟨hl, h | ⟨g, cap, cur, h1, h2, hr⟩⟩ := h
  · exact ⟨hl, .inl h⟩
  · exact ⟨hl, .inr ⟨g, cap, cur, h1, by omega, hr⟩⟩
theorem ownsRow_ge {base : Nat} {e : TypeId} {sz n : Nat} {v : Value} {xs : List Value} (h : w.ownsRow base e sz v n xs) {k : Nat} (hk : v.ownBlock = some k) : base ≤ k := by
  obtain ⟨hl, ⟨rfl, rfl⟩ | ⟨g, cap, cur, rfl, hb, hr⟩⟩ := h
  · simp [Value.ownBlock] at hk
  · simp [Value.ownBlock] at hk; omega
theorem ownsRow_added {B : Nat} {base : Nat} {e : TypeId} {sz n : Nat} {cs : List Value} {w' : World} (h : Added w w' B (.cells cs.toArray e (0, 0))) (hb : base ≤ B) (hl : cs.length = n * sz) (hm : n ≤ maxLen) :
    w'.ownsRow base e sz (.slice (some ⟨B, 0, none⟩) n n) n cs := by
  refine ⟨hl, .inr ⟨B, n, cs.toArray, rfl, hb, h.at_, Nat.le_refl _, hm, by simpa using hl, ?_⟩⟩
  simp [← hl]

/-! ### Lengths -/
theorem OpV.lenV {T : Tab} (hT : T.Ok P) {t e : TypeId} {sz : Nat} {ag : Bool} {s bb : Nat} {z : List Value} {a u : Bool} {x : Operand} {v : Value} {d : Option Addr} {n cap : Nat}
    (ht : T.get t = some ⟨.slc sz ag e, s, bb, z, a, u⟩) (hx : evO env x = some v) (hv : v = .slice d n cap) :
    OpV P env w ⟨dst, .call ⟨.builtin .len, #[x], #[t]⟩, ty, pos, after, guard⟩ (.int .i64 (n : Int)) := .of_run fun ρ hρ => by
  subst hv
  refine ⟨Builtin.len_ #[t] ty #[.slice d n cap], by simp only [execOp, resolve, List.map_toArray, List.map_cons, List.map_nil, hρ _ _ hx]; rfl, ?_⟩
  have hu := (TD.of_slc (TI.tdof (hT.get _ _ ht)).symm).1
  simp [Builtin.len_, bind, Sem.bind, Sem.run, goInt, pure, underlying, program, hu]
theorem OpV.lenSl {w' : World} {T : Tab} (hT : T.Ok P) {t e : TypeId} {sz : Nat} {ag : Bool} {s bb : Nat} {z : List Value} {a u : Bool} {x : Operand} {v : Value} {n : Nat} {cs : List Value} {sz' : Nat}
    (ht : T.get t = some ⟨.slc sz ag e, s, bb, z, a, u⟩) (hx : evO env x = some v) (hv : IsSl w' sz' v n cs) :
    OpV P env w ⟨dst, .call ⟨.builtin .len, #[x], #[t]⟩, ty, pos, after, guard⟩ (.int .i64 (n : Int)) := by
  rcases hv.inv with ⟨d0, rfl, rfl, rfl⟩ | ⟨b, o, cap, rfl, -⟩
  · exact OpV.lenV (cap := 0) hT ht hx rfl
  · exact OpV.lenV hT ht hx rfl
theorem OpV.cap {T : Tab} (hT : T.Ok P) {t e : TypeId} {sz : Nat} {ag : Bool} {s bb : Nat} {z : List Value} {a u : Bool} {x : Operand} {d : Option Addr} {n cap : Nat}
    (ht : T.get t = some ⟨.slc sz ag e, s, bb, z, a, u⟩) (hx : evO env x = some (.slice d n cap)) :
    OpV P env w ⟨dst, .call ⟨.builtin .cap, #[x], #[t]⟩, ty, pos, after, guard⟩ (.int .i64 (cap : Int)) := .of_run fun ρ hρ => by
  refine ⟨Builtin.cap_ #[t] ty #[.slice d n cap], by simp only [execOp, resolve, List.map_toArray, List.map_cons, List.map_nil, hρ _ _ hx]; rfl, ?_⟩
  have hu := (TD.of_slc (TI.tdof (hT.get _ _ ht)).symm).1
  simp [Builtin.cap_, bind, Sem.bind, Sem.run, goInt, pure, underlying, program, hu]

/-! ### Parts -/
theorem OpE.part {T : Tab} (hT : T.Ok P) {t e : TypeId} {sz : Nat} {ag : Bool} {s bb : Nat} {z : List Value} {a u : Bool} {x : Operand} {low high : Option Operand} {v : Value} {n lo hi : Nat} {cs : List Value}
    (ht : T.get t = some ⟨.slc sz ag e, s, bb, z, a, u⟩) (hx : evO env x = some v) (hv : IsSl w sz v n cs) (hl : Bnd env low 0 lo) (hh : Bnd env high n hi) (h1 : lo ≤ hi) (h2 : hi ≤ n) :
    OpE P env w ⟨dst, .slice t x low high none, ty, pos, after, guard⟩ (fun u w' => w = w' ∧ u.ownBlock = v.ownBlock ∧ IsSl w sz u (hi - lo) ((cs.drop (lo * sz)).take ((hi - lo) * sz))) fun _ _ => False := by
  rcases hv.inv with ⟨d0, rfl, rfl, rfl⟩ | ⟨b, o, cap, rfl, hr, hln, hc⟩
  · obtain rfl : hi = 0 := by omega
    obtain rfl : lo = 0 := by omega
    refine (OpV.sliceNil hT ht hx hl hh).e.mono ?_ fun _ _ h => h
    rintro _ _ ⟨rfl, rfl⟩
    exact ⟨rfl, rfl, by simpa using IsSl.nil (d := d0)⟩
  · refine (OpV.sliceS hT ht hx hl hh (.none (n := cap)) (.inl rfl) h1 (by omega) (Nat.le_refl _)).e.mono ?_ fun _ _ h => h
    rintro _ _ ⟨rfl, rfl⟩
    refine ⟨rfl, rfl, .row ?_ ?_ (by omega)⟩
    · by_cases he : cap = lo
      · have : hi - lo = 0 := by omega
        rw [this]
        intro i u hu
        simp at hu
      · unfold offOf; rw [if_neg he]
        exact (hr.drop _).take _
    · rw [List.length_take, List.length_drop, hln, ← Nat.mul_sub_right_distrib]
      exact Nat.min_eq_left (Nat.mul_le_mul_right _ (by omega))

/-! ### Room: append(nil, make([]T, n)...) -/
theorem OpE.growNil {T : Tab} (hT : T.Ok P) {t e ti : TypeId} {kt : IntKind} {sz : Nat} {ag : Bool} {s bb s' bb' : Nat} {z z' : List Value} {a u a' u' : Bool} {ie : TI} {x y : Operand} {kd : IntKind} {i : Int} {m : Nat}
    (ht : T.get t = some ⟨.slc sz ag e, s, bb, z, a, u⟩) (hti : T.get ti = some ⟨.int kt, s', bb', z', a', u'⟩) (he : T.get e = some ie) (hz : ie.zero.length = sz) (hsz : Nat.blt 0 sz = true)
    (hx : evO env x = some (.slice none 0 0)) (hy : evO env y = some (.int kd i)) (hi : i = (m : Int)) (hm : 0 < m) (hb : m * ie.bytes ≤ 140737488355328) (h63 : m < 9223372036854775807) :
    OpE P env w ⟨dst, .call ⟨.builtin .append, #[x, y], #[t, ti]⟩, ty, pos, after, guard⟩
      (fun v w' => ∃ B cap, v = .slice (some ⟨B, 0, none⟩) m cap ∧ m ≤ cap ∧ cap ≤ maxLen ∧ B = w.heap.size ∧ Ext w w' ∧ ∃ cur, w'.heap[B]? = some (.cells cur e (0, 0)) ∧ cur.size = cap * sz) fun _ _ => False := by
  obtain ⟨hu, hc⟩ := TD.of_slc (TI.tdof (hT.get _ _ ht)).symm
  have hui := TD.of_int (TI.tdof (hT.get _ _ hti)).symm
  obtain ⟨j, dd, zv, hj, hd, hzv, h1, h2, h3, h4, h5, _⟩ := TI.inv (hT.get _ _ he)
  obtain ⟨ii, d', hii, hs', _, _⟩ := cellsAgg_inv hc
  rw [hii] at hj; cases hj
  have hzs : zv.cells.size = sz := by rw [← hz, h3]; simp
  subst hi
  have hsz' : 0 < sz := by simpa [Nat.blt_eq] using hsz
  have hwr : IntKind.i64.wrap (m : Int) = (m : Int) := wr_i64 (by omega) (by omega)
  have hcap := grownCap_ge w m 0 e
  have hcm : grownCap w m 0 e ≤ maxLen := grownCap_le_maxLen w m 0 e (by simp only [maxLen]; omega)
  have e48 : (2 : Int) ^ 48 = 281474976710656 := rfl
  have n48 : (2 : Nat) ^ 48 = 281474976710656 := rfl
  have hr : (Builtin.append_ #[t, ti] ty #[.slice none 0 0, .int kd (m : Int)]).run P w =
      .ok (.slice (some ⟨w.heap.size, 0, none⟩) m (grownCap w m 0 e)) (w.drew.alloc (.cells (Builtin.zeroCells zv.cells m ++ Builtin.zeroCells zv.cells (grownCap w m 0 e - m)) e)) := by
    have hn : m ≠ 0 := by omega
    have h63' : ¬ (9223372036854775807 < (m : Int)) := by omega
    have h48' : ¬ (281474976710656 < Builtin.nextslicecap m 0 * j.bytes) := by rw [nextslicecap_zero hm, ← h2]; omega
    have h0 : ¬ ((m : Int) < 0) := by omega
    have hneg : ¬ (281474976710656 < (m : Int) * (j.bytes : Int)) := by
      rw [← h2]
      have := Int.ofNat_le.2 hb
      rw [Int.natCast_mul] at this
      omega
    have hms : m * sz ≠ 0 := Nat.ne_of_gt (Nat.mul_pos hm hsz')
    have hmi : ¬ (m = 0 ∨ sz = 0) := by omega
    have hai : (asIntOf (.int kd (m : Int))).run P w = .ok (kd, (m : Int)) w := rfl
    have hmn : ¬ ((m : Int) ≤ 0) := by omega
    simp [Builtin.append_, run_underlying hu, run_underlying hui, sizeOf, typeInfo, zeroValue, hii, hzv, asInt, hai, hmn, hwr, h0, hneg, hn, h63', h48', Question.forced, run_firstCells_none, newRow, grownCap, hs', hms, hmi]
  refine .of_run (w' := _) (v := _) ?_ fun ρ hρ => ⟨_, by simp only [execOp, resolve, List.map_toArray, List.map_cons, List.map_nil, hρ _ _ hx, hρ _ _ hy] <;> rfl, hr⟩
  refine ⟨_, _, rfl, hcap, hcm, rfl, ⟨Nat.le_succ _, rfl, rfl, rfl, by simp, fun k hk _ => (by apply heap_alloc_old; exact hk)⟩, _, heap_alloc_new w.drew _, ?_⟩
  simp only [Array.size_append, size_zeroCells, hzs, ← Nat.add_mul]
  congr 1
  omega
end Go.Rn
namespace Go.Rn
variable {P : Program} {w : World} {env : Env} {dst : Option Tmp} {ty : TypeId} {pos : String} {after : Array Edge} {guard : Option (Nat × Bool)}
theorem OpV.sliceAq {T : Tab} (hT : T.Ok P) {t e : TypeId} {N sz : Nat} {ag : Bool} {s bb : Nat} {z : List Value} {a u : Bool} {x : Operand} {low high : Option Operand} {b o lo hi q len cap : Nat}
    (ht : T.get t = some ⟨.arr N sz ag e, s, bb, z, a, u⟩) (hx : evO env x = some (.pointer (some ⟨b, o, none⟩))) (hl : Bnd env low 0 lo) (hh : Bnd env high N hi) (h1 : lo ≤ hi) (h2 : hi ≤ N)
    (hq : offOf o lo N sz = q) (hlen : hi - lo = len) (hcap : N - lo = cap) :
    OpV P env w ⟨dst, .slice t x low high none, ty, pos, after, guard⟩ (.slice (some ⟨b, q, none⟩) len cap) := by
  subst hq; subst hlen; subst hcap
  exact OpV.sliceA hT ht hx hl hh (.none (n := N)) (.inl rfl) h1 h2 (Nat.le_refl _)
theorem OpV.sliceSq {T : Tab} (hT : T.Ok P) {t e : TypeId} {sz : Nat} {ag : Bool} {s bb : Nat} {z : List Value} {a u : Bool} {x : Operand} {low high : Option Operand} {b o n c lo hi q len cap : Nat}
    (ht : T.get t = some ⟨.slc sz ag e, s, bb, z, a, u⟩) (hx : evO env x = some (.slice (some ⟨b, o, none⟩) n c)) (hl : Bnd env low 0 lo) (hh : Bnd env high n hi) (h1 : lo ≤ hi) (h2 : hi ≤ c)
    (hq : offOf o lo c sz = q) (hlen : hi - lo = len) (hcap : c - lo = cap) :
    OpV P env w ⟨dst, .slice t x low high none, ty, pos, after, guard⟩ (.slice (some ⟨b, q, none⟩) len cap) := by
  subst hq; subst hlen; subst hcap
  exact OpV.sliceS hT ht hx hl hh (.none (n := c)) (.inl rfl) h1 h2 (Nat.le_refl _)

theorem u64_shr (n k : Nat) (hk : k ≤ 64) : ((n : Nat) : Int).fdiv (2 ^ (min k IntKind.u64.bits)) = ((n / 2 ^ k : Nat) : Int) := by
  have e : IntKind.u64.bits = 64 := rfl
  rw [e, Nat.min_eq_left hk, Int.fdiv_eq_ediv_of_nonneg _ (by exact Int.pow_nonneg (by omega))]
  simp
theorem u32_shr' (n k : Nat) (hk : k ≤ 32) : ((n : Nat) : Int).fdiv (2 ^ (min k IntKind.u32.bits)) = ((n / 2 ^ k : Nat) : Int) := by
  have e : IntKind.u32.bits = 32 := rfl
  rw [e, Nat.min_eq_left hk, Int.fdiv_eq_ediv_of_nonneg _ (by exact Int.pow_nonneg (by omega))]
  simp
theorem u8_of_nat (n : Nat) : IntKind.u8.wrap (n : Int) = ((UInt8.ofNat n).toNat : Int) := by
  rw [wrap_u8]; simp [UInt8.toNat_ofNat]
theorem i64_mul (a i : Nat) (h : a * i < 9223372036854775808) : IntKind.i64.wrap ((a : Int) * (i : Int)) = ((a * i : Nat) : Int) := by
  rw [← Int.natCast_mul]; exact wr_i64 (by omega) (by omega)
theorem i64_add (a i : Nat) (h : a + i < 9223372036854775808) : IntKind.i64.wrap ((a : Int) + (i : Int)) = ((a + i : Nat) : Int) := by
  rw [← Int.natCast_add]; exact wr_i64 (by omega) (by omega)
theorem i64_sub (a i : Nat) (h : i ≤ a) (h' : a < 9223372036854775808) : IntKind.i64.wrap ((a : Int) - (i : Int)) = ((a - i : Nat) : Int) := by
  rw [← Int.natCast_sub h]; exact wr_i64 (by omega) (by omega)
end Go.Rn
namespace Go.Rn
theorem Rets.v {P : Program} {g : FuncId} {fi args all : List Value} {w : World} {R : Value → World → Prop} (h : Rets P g all w R) (e : fi ++ args = all) :
    FnV P (.func (.func g) fi.toArray [].toArray) args w R fun _ _ => False := by
  subst e
  exact RetsX.v (fi := fi) (args := args) (ca := []) (by rw [List.append_nil]; exact h)
end Go.Rn
namespace Go.Rn
theorem u64_nat (n : Nat) (h : n < 18446744073709551616) : IntKind.u64.wrap (n : Int) = (n : Int) := wr_u64 (by omega) (by omega)
theorem u64_mul (n a : Nat) (h : n * a < 18446744073709551616) : IntKind.u64.wrap ((n : Int) * (a : Int)) = ((n * a : Nat) : Int) := by rw [← Int.natCast_mul]; exact u64_nat _ h
end Go.Rn
namespace Go.Rn
variable {P : Program} {w : World} {env : Env} {dst : Option Tmp} {ty : TypeId} {pos : String} {after : Array Edge} {guard : Option (Nat × Bool)}
/-- All of a slice is copied into a part of a block. -/
theorem OpE.copySl {T : Tab} (hT : T.Ok P) {t t' e : TypeId} {sz : Nat} {ag : Bool} {s bb : Nat} {z : List Value} {a u : Bool} {x y : Operand} {b o len cap n : Nat} {v : Value} {cs vs : List Value} {bt : TypeId}
    (ht : T.get t = some ⟨.slc sz ag e, s, bb, z, a, u⟩) (hx : evO env x = some (.slice (some ⟨b, o, none⟩) len cap)) (hy : evO env y = some v)
    (hb : Blk w b cs bt) (hv : IsSl w sz v n vs) (hn : n ≤ len) (hfit : o + vs.length ≤ cs.length) (hp : vs.all plainV = true) :
    OpE P env w ⟨dst, .call ⟨.builtin .copy, #[x, y], #[t, t']⟩, ty, pos, after, guard⟩ (fun r w' => r = .int .i64 (n : Nat) ∧ Blk w' b (setAt cs o vs) bt ∧ ExtB (· = b) w w') fun _ _ => False := by
  rcases hv.inv with ⟨d0, rfl, rfl, rfl⟩ | ⟨b', o', cap', rfl, hr, hl, hc⟩
  · refine (OpE.copy0 hT ht hx hy (by simp)).mono ?_ fun _ _ h => h
    rintro _ _ ⟨rfl, rfl⟩
    exact ⟨rfl, hb, .refl _ _⟩
  · refine (OpE.copy hT ht hx hy hb hr (by rw [Nat.min_eq_left hn]; exact hl) hfit hp).mono ?_ fun _ _ h => h
    rintro _ w' ⟨rfl, t1⟩
    rw [Nat.min_eq_left hn]
    exact ⟨rfl, t1.at_, t1.ext⟩
end Go.Rn
namespace Go.Rn
theorem zerosL_one (v : Value) : ∀ n, zerosL [v] n = List.replicate n v
  | 0 => rfl
  | n + 1 => by simp [zerosL, zerosL_one v n, List.replicate_succ]
end Go.Rn
namespace Go.Rn
variable {P : Program} {c : Ctx} {k : List Item} {Q : Out → Act → World → Prop} {w : World} {n : Nat} {ds : List Deferred} {env : Env}
variable {ops : Array Oper} {d : Tmp} {ty : TypeId} {pos : String} {after : Array Edge} {guard : Option (Nat × Bool)} {rest : List Oper} {dst : Option Tmp}
theorem setAt_mid (X Y Z V : List Value) (h : V.length = Y.length) : setAt (X ++ Y ++ Z) X.length V = X ++ V ++ Z := by
  induction V generalizing X Y with
  | nil =>
    obtain rfl : Y = [] := List.eq_nil_of_length_eq_zero (by simpa using h.symm)
    rfl
  | cons v r ih =>
    cases Y with
    | nil => simp at h
    | cons y Y' =>
      unfold setAt
      have e : (X ++ y :: Y' ++ Z).set X.length v = (X ++ [v]) ++ Y' ++ Z := by simp
      rw [e]
      have := ih (X ++ [v]) Y' (by simpa using h)
      rw [List.length_append, List.length_singleton] at this
      rw [this]; simp

/-! ### Slices that are written out -/
def enumV : Nat → List Value → List (Nat × Value)
  | _, [] => []
  | i, v :: r => (i, v) :: enumV (i + 1) r
def cellsAll : List Value → List Value
  | [] => []
  | v :: r => v.cells.toList ++ cellsAll r
theorem cellsAll_length {sz : Nat} : ∀ (vs : List Value), (∀ v ∈ vs, v.cells.toList.length = sz) → (cellsAll vs).length = vs.length * sz
  | [], _ => by simp [cellsAll]
  | v :: r, h => by
    rw [cellsAll, List.length_append, h v (by simp), cellsAll_length r (fun u hu => h u (by simp [hu])), List.length_cons, Nat.add_mul]; omega
theorem fill_enum {sz : Nat} : ∀ (vs A R : List Value) (i : Nat), A.length = i * sz → R.length = vs.length * sz → (∀ v ∈ vs, v.cells.toList.length = sz) →
    fillL (fun i => some (i * sz, sz)) (A ++ R) (enumV i vs) = some (A ++ cellsAll vs)
  | [], A, R, i, hA, hR, _ => by
    obtain rfl : R = [] := List.eq_nil_of_length_eq_zero (by simpa using hR)
    rfl
  | v :: r, A, R, i, hA, hR, hv => by
    rw [List.length_cons, Nat.add_mul] at hR
    have hl := hv v (by simp)
    simp only [enumV, fillL]
    have c1 : Nat.beq v.cells.toList.length sz = true := by rw [hl]; exact Nat.beq_refl sz
    have c2 : Nat.ble (i * sz + v.cells.toList.length) (A ++ R).length = true := by rw [Nat.ble_eq, hl, List.length_append, hA, hR]; omega
    rw [c1, c2]
    simp only [Bool.and_self, cond_true]
    have e : A ++ R = A ++ R.take sz ++ R.drop sz := by rw [List.append_assoc, List.take_append_drop]
    have m := setAt_mid A (R.take sz) (R.drop sz) v.cells.toList (by rw [hl, List.length_take]; omega)
    rw [hA] at m
    rw [e, m, fill_enum r (A ++ v.cells.toList) (R.drop sz) (i + 1) (by rw [List.length_append, hA, hl, Nat.add_mul]; omega) (by rw [List.length_drop]; omega) (fun u hu => hv u (by simp [hu])), cellsAll]
    simp

theorem OpE.buildSl {T : Tab} (hT : T.Ok P) {t e : TypeId} {sz : Nat} {ag : Bool} {s b len : Nat} {z : List Value} {a u : Bool} {ie : TI} {parts : Array (Nat × Operand)} (vs : List Value)
    (ht : T.get t = some ⟨.slc sz ag e, s, b, z, a, u⟩) (he : T.get e = some ie) (hz : ie.zero.length = sz) (hlen : Nat.ble (len * sz) 16777216 = true) (hp : evParts env parts.toList = some (enumV 0 vs))
    (hl : vs.length = len) (hv : ∀ v ∈ vs, v.cells.toList.length = sz) :
    OpE P env w ⟨dst, .buildSlice t len parts, ty, pos, after, guard⟩ (fun v w' => ∃ B, v = .slice (some ⟨B, 0, none⟩) len len ∧ Added w w' B (.cells (cellsAll vs).toArray e (0, 0))) fun _ _ => False := by
  have hcs : buildCells ie.zero len sz (enumV 0 vs) = some (cellsAll vs) := by
    unfold buildCells
    have := fill_enum vs [] (zerosL ie.zero len) 0 (by simp) (by rw [zerosL_length, hz, hl]) hv
    rw [List.nil_append, List.nil_append] at this
    rw [this]
    simp only [force_eq]
  refine .of_run (w' := { w with heap := w.heap.push (.cells (cellsAll vs).toArray e) }) (v := .slice (some ⟨w.heap.size, 0, none⟩) len len) ⟨_, rfl, added_push w _⟩ fun ρ hρ => ⟨_, rfl, ?_⟩
  exact run_buildSlice hT ht he hz hlen (by rw [Array.toList_map]; exact evParts_map hρ hp) hcs
end Go.Rn
namespace Go.Rn
theorem isSl_added {w w' : World} {B : Nat} {e : TypeId} {sz n : Nat} {cs : List Value} (h : Added w w' B (.cells cs.toArray e (0, 0))) (hl : cs.length = n * sz) : IsSl w' sz (.slice (some ⟨B, 0, none⟩) n n) n cs :=
  .row (Blk.row (t := e) h.at_) hl (Nat.le_refl _)
end Go.Rn
end
section
/- Steps that part on a test; facts that go on to a later world. -/
namespace Go.Rn
open Go.RowKit
section
variable {P : Program} {c : Ctx} {k : List Item} {Q : Out → Act → World → Prop} {w : World} {n : Nat} {ds : List Deferred} {env : Env}
variable {ops : Array Oper} {d : Tmp} {op : Op} {ty : TypeId} {pos : String} {after : Array Edge} {guard : Option (Nat × Bool)} {rest : List Oper}
theorem RunL.pureC {T : Tab} (hT : T.Ok P) {m : Bool} (hw : wantE ops.toList env ⟨some d, op, ty, pos, after, guard⟩ = some true) (hdst : Nat.blt d n = true) (hv : evalOp T env op = some (.bool m))
    (ht : m = true → RunL P c n ds ops rest k Q ((d, .bool true) :: env) w) (hf : m = false → RunL P c n ds ops rest k Q ((d, .bool false) :: env) w) : RunL P c n ds ops (⟨some d, op, ty, pos, after, guard⟩ :: rest) k Q env w := by
  cases m with
  | true => exact .pure hT hw hdst hv (ht rfl)
  | false => exact .pure hT hw hdst hv (hf rfl)
/-- A value has just come: it is written in its normal form first. -/
def RunLN (P : Program) (c : Ctx) (n : Nat) (ds : List Deferred) (ops : Array Oper) (rest : List Oper) (k : List Item) (Q : Out → Act → World → Prop) (env : Env) (w : World) (d : Tmp) (v : Value) : Prop :=
  RunL P c n ds ops rest k Q ((d, v) :: env) w
theorem RunL.ev {T : Tab} (hT : T.Ok P) {v : Value} (hw : wantE ops.toList env ⟨some d, op, ty, pos, after, guard⟩ = some true) (hdst : Nat.blt d n = true) (hv : evalOp T env op = some v)
    (h : RunLN P c n ds ops rest k Q env w d v) : RunL P c n ds ops (⟨some d, op, ty, pos, after, guard⟩ :: rest) k Q env w := .pure hT hw hdst hv h
theorem RunL.evV {v : Value} (hw : wantE ops.toList env ⟨some d, op, ty, pos, after, guard⟩ = some true) (hdst : Nat.blt d n = true) (hd : isDefer op = false) (hv : OpV P env w ⟨some d, op, ty, pos, after, guard⟩ v)
    (h : RunLN P c n ds ops rest k Q env w d v) : RunL P c n ds ops (⟨some d, op, ty, pos, after, guard⟩ :: rest) k Q env w := .val hw hdst hd hv h
theorem RunLN.boolT {m : Bool} (hm : m = true) (h : RunL P c n ds ops rest k Q ((d, .bool true) :: env) w) : RunLN P c n ds ops rest k Q env w d (.bool m) := by subst hm; exact h
theorem RunLN.boolF {m : Bool} (hm : m = false) (h : RunL P c n ds ops rest k Q ((d, .bool false) :: env) w) : RunLN P c n ds ops rest k Q env w d (.bool m) := by subst hm; exact h
theorem RunLN.boolC {m : Bool} (ht : m = true → RunL P c n ds ops rest k Q ((d, .bool true) :: env) w) (hf : m = false → RunL P c n ds ops rest k Q ((d, .bool false) :: env) w) : RunLN P c n ds ops rest k Q env w d (.bool m) := by
  cases m with
  | true => exact ht rfl
  | false => exact hf rfl
theorem RunLN.decT {p : Prop} [Decidable p] (hp : p) (h : RunL P c n ds ops rest k Q ((d, .bool true) :: env) w) : RunLN P c n ds ops rest k Q env w d (.bool (decide p)) := .boolT (decide_eq_true hp) h
theorem RunLN.decF {p : Prop} [Decidable p] (hp : ¬ p) (h : RunL P c n ds ops rest k Q ((d, .bool false) :: env) w) : RunLN P c n ds ops rest k Q env w d (.bool (decide p)) := .boolF (decide_eq_false hp) h
theorem RunLN.eqT {a b : Int} (hp : a = b) (h : RunL P c n ds ops rest k Q ((d, .bool true) :: env) w) : RunLN P c n ds ops rest k Q env w d (.bool (a == b)) := .boolT (beq_iff_eq.2 hp) h
theorem RunLN.eqF {a b : Int} (hp : a ≠ b) (h : RunL P c n ds ops rest k Q ((d, .bool false) :: env) w) : RunLN P c n ds ops rest k Q env w d (.bool (a == b)) := .boolF (beq_eq_false_iff_ne.2 hp) h
theorem RunLN.neT {a b : Int} (hp : a ≠ b) (h : RunL P c n ds ops rest k Q ((d, .bool true) :: env) w) : RunLN P c n ds ops rest k Q env w d (.bool (a != b)) := .boolT (bne_iff_ne.2 hp) h
theorem RunLN.neF {a b : Int} (hp : a = b) (h : RunL P c n ds ops rest k Q ((d, .bool false) :: env) w) : RunLN P c n ds ops rest k Q env w d (.bool (a != b)) := .boolF (bne_eq_false_iff_eq.2 hp) h
theorem RunLN.int {kd : IntKind} {m m' : Int} (hm : m = m') (h : RunL P c n ds ops rest k Q ((d, .int kd m') :: env) w) : RunLN P c n ds ops rest k Q env w d (.int kd m) := by subst hm; exact h
theorem RunLN.any {v : Value} (h : RunL P c n ds ops rest k Q ((d, v) :: env) w) : RunLN P c n ds ops rest k Q env w d v := h
/-- A call that gives a value and changes nothing. -/
theorem RunL.callN {g : FuncId} {args : Array Operand} {ts : Array TypeId} {vs : List Value} {v : Value}
    (hw : wantE ops.toList env ⟨some d, .call ⟨.value (.func g), args, ts⟩, ty, pos, after, guard⟩ = some true) (hdst : Nat.blt d n = true) (ha : evL env args.toList = some vs)
    (hc : Rets P g vs w fun u w' => u = v ∧ w = w') (h : RunLN P c n ds ops rest k Q env w d v) :
    RunL P c n ds ops (⟨some d, .call ⟨.value (.func g), args, ts⟩, ty, pos, after, guard⟩ :: rest) k Q env w :=
  .call hw hdst ha hc fun _ _ hr => by obtain ⟨rfl, rfl⟩ := hr; exact h
/-- A value that is known to be such a Bool, taken apart. -/
theorem RunL.valC {m : Bool} (hw : wantE ops.toList env ⟨some d, op, ty, pos, after, guard⟩ = some true) (hdst : Nat.blt d n = true) (hd : isDefer op = false) (hv : OpV P env w ⟨some d, op, ty, pos, after, guard⟩ (.bool m))
    (ht : m = true → RunL P c n ds ops rest k Q ((d, .bool true) :: env) w) (hf : m = false → RunL P c n ds ops rest k Q ((d, .bool false) :: env) w) : RunL P c n ds ops (⟨some d, op, ty, pos, after, guard⟩ :: rest) k Q env w := by
  cases m with
  | true => exact .val hw hdst hd hv (ht rfl)
  | false => exact .val hw hdst hd hv (hf rfl)
end
section
variable {P : Program} {c : Ctx} {k : List Item} {Q : Out → Act → World → Prop} {w0 : World} {n : Nat} {ds : List Deferred} {env : Env} {S : Nat → Prop} {sats pres : List (Nat × Pred)} {ph : Option (Option Nat × Pred)} {mu : List Bool}
variable {l : List Oper} {d : Tmp} {op : Op} {ty : TypeId} {pos : String} {after : Array Edge} {guard : Option (Nat × Bool)} {rest : List Oper}
theorem Asy.pureC {T : Tab} (hT : T.Ok P) {m : Bool} (hw : wantE l env ⟨some d, op, ty, pos, after, guard⟩ = some true) (hdst : Nat.blt d n = true) (hv : evalOp T env op = some (.bool m))
    (ht : m = true → Asy P c n ds S w0 l k Q rest ⟨(d, .bool true) :: env, sats, ph, false :: mu, pres⟩) (hf : m = false → Asy P c n ds S w0 l k Q rest ⟨(d, .bool false) :: env, sats, ph, false :: mu, pres⟩) :
    Asy P c n ds S w0 l k Q (⟨some d, op, ty, pos, after, guard⟩ :: rest) ⟨env, sats, ph, mu, pres⟩ := by
  cases m with
  | true => exact .pure hT hw hdst hv (ht rfl)
  | false => exact .pure hT hw hdst hv (hf rfl)
def AsyN (P : Program) (c : Ctx) (n : Nat) (ds : List Deferred) (S : Nat → Prop) (w0 : World) (l : List Oper) (k : List Item) (Q : Out → Act → World → Prop) (rest : List Oper) (env : Env) (sats : List (Nat × Pred)) (ph : Option (Option Nat × Pred)) (mu : List Bool) (pres : List (Nat × Pred)) (d : Tmp) (v : Value) : Prop :=
  Asy P c n ds S w0 l k Q rest ⟨(d, v) :: env, sats, ph, false :: mu, pres⟩
theorem Asy.ev {T : Tab} (hT : T.Ok P) {v : Value} (hw : wantE l env ⟨some d, op, ty, pos, after, guard⟩ = some true) (hdst : Nat.blt d n = true) (hv : evalOp T env op = some v)
    (h : AsyN P c n ds S w0 l k Q rest env sats ph mu pres d v) : Asy P c n ds S w0 l k Q (⟨some d, op, ty, pos, after, guard⟩ :: rest) ⟨env, sats, ph, mu, pres⟩ := .pure hT hw hdst hv h
theorem Asy.evV {v : Value} (hw : wantE l env ⟨some d, op, ty, pos, after, guard⟩ = some true) (hdst : Nat.blt d n = true) (hd : isDefer op = false) (hs : isSel op = false)
    (hv : ∀ w', ExtB S w0 w' → OpV P env w' ⟨some d, op, ty, pos, after, guard⟩ v)
    (h : AsyN P c n ds S w0 l k Q rest env sats ph mu pres d v) : Asy P c n ds S w0 l k Q (⟨some d, op, ty, pos, after, guard⟩ :: rest) ⟨env, sats, ph, mu, pres⟩ := .v hw hdst hd hs hv h
theorem AsyN.boolT {m : Bool} (hm : m = true) (h : Asy P c n ds S w0 l k Q rest ⟨(d, .bool true) :: env, sats, ph, false :: mu, pres⟩) : AsyN P c n ds S w0 l k Q rest env sats ph mu pres d (.bool m) := by subst hm; exact h
theorem AsyN.boolF {m : Bool} (hm : m = false) (h : Asy P c n ds S w0 l k Q rest ⟨(d, .bool false) :: env, sats, ph, false :: mu, pres⟩) : AsyN P c n ds S w0 l k Q rest env sats ph mu pres d (.bool m) := by subst hm; exact h
theorem AsyN.boolC {m : Bool} (ht : m = true → Asy P c n ds S w0 l k Q rest ⟨(d, .bool true) :: env, sats, ph, false :: mu, pres⟩) (hf : m = false → Asy P c n ds S w0 l k Q rest ⟨(d, .bool false) :: env, sats, ph, false :: mu, pres⟩) :
    AsyN P c n ds S w0 l k Q rest env sats ph mu pres d (.bool m) := by
  cases m with
  | true => exact ht rfl
  | false => exact hf rfl
theorem AsyN.decT {p : Prop} [Decidable p] (hp : p) (h : Asy P c n ds S w0 l k Q rest ⟨(d, .bool true) :: env, sats, ph, false :: mu, pres⟩) : AsyN P c n ds S w0 l k Q rest env sats ph mu pres d (.bool (decide p)) := .boolT (decide_eq_true hp) h
theorem AsyN.decF {p : Prop} [Decidable p] (hp : ¬ p) (h : Asy P c n ds S w0 l k Q rest ⟨(d, .bool false) :: env, sats, ph, false :: mu, pres⟩) : AsyN P c n ds S w0 l k Q rest env sats ph mu pres d (.bool (decide p)) := .boolF (decide_eq_false hp) h
theorem AsyN.eqT {a b : Int} (hp : a = b) (h : Asy P c n ds S w0 l k Q rest ⟨(d, .bool true) :: env, sats, ph, false :: mu, pres⟩) : AsyN P c n ds S w0 l k Q rest env sats ph mu pres d (.bool (a == b)) := .boolT (beq_iff_eq.2 hp) h
theorem AsyN.eqF {a b : Int} (hp : a ≠ b) (h : Asy P c n ds S w0 l k Q rest ⟨(d, .bool false) :: env, sats, ph, false :: mu, pres⟩) : AsyN P c n ds S w0 l k Q rest env sats ph mu pres d (.bool (a == b)) := .boolF (beq_eq_false_iff_ne.2 hp) h
theorem AsyN.neT {a b : Int} (hp : a ≠ b) (h : Asy P c n ds S w0 l k Q rest ⟨(d, .bool true) :: env, sats, ph, false :: mu, pres⟩) : AsyN P c n ds S w0 l k Q rest env sats ph mu pres d (.bool (a != b)) := .boolT (bne_iff_ne.2 hp) h
theorem AsyN.neF {a b : Int} (hp : a = b) (h : Asy P c n ds S w0 l k Q rest ⟨(d, .bool false) :: env, sats, ph, false :: mu, pres⟩) : AsyN P c n ds S w0 l k Q rest env sats ph mu pres d (.bool (a != b)) := .boolF (bne_eq_false_iff_eq.2 hp) h
theorem AsyN.int {kd : IntKind} {m m' : Int} (hm : m = m') (h : Asy P c n ds S w0 l k Q rest ⟨(d, .int kd m') :: env, sats, ph, false :: mu, pres⟩) : AsyN P c n ds S w0 l k Q rest env sats ph mu pres d (.int kd m) := by subst hm; exact h
theorem AsyN.any {v : Value} (h : Asy P c n ds S w0 l k Q rest ⟨(d, v) :: env, sats, ph, false :: mu, pres⟩) : AsyN P c n ds S w0 l k Q rest env sats ph mu pres d v := h
theorem Asy.callN {g : FuncId} {args : Array Operand} {ts : Array TypeId} {vs : List Value} {v : Value}
    (hw : wantE l env ⟨some d, .call ⟨.value (.func g), args, ts⟩, ty, pos, after, guard⟩ = some true) (hdst : Nat.blt d n = true) (ha : evL env args.toList = some vs)
    (hc : ∀ w', ExtB S w0 w' → Rets P g vs w' fun u w'' => u = v ∧ Ext w' w'') (h : AsyN P c n ds S w0 l k Q rest env sats ph mu pres d v) :
    Asy P c n ds S w0 l k Q (⟨some d, .call ⟨.value (.func g), args, ts⟩, ty, pos, after, guard⟩ :: rest) ⟨env, sats, ph, mu, pres⟩ :=
  .val hw hdst rfl rfl (fun w' e => OpE.call ha (hc w' e)) h
/-- As pre0, sat1, wriP: it reads one that is known by a lasting law; two known by laws that last till now. -/
theorem Asy.pre1 (i : Nat) {t : Nat} {U : Pred} (V : Pred) (hi : sats[i]? = some (t, U)) (hl : (Oper.looksAt l.toArray ⟨some d, op, ty, pos, after, guard⟩).contains t = true)
    (hw : wantE l env ⟨some d, op, ty, pos, after, guard⟩ = some true) (hdst : Nat.blt d n = true) (hd : isDefer op = false) (hs : isSel op = false)
    (hV : ∀ v w' w'', ExtB S w0 w' → Ext w' w'' → V v w' → V v w'')
    (h : ∀ w' x, ExtB S w0 w' → U x w' → OpE P ((t, x) :: env) w' ⟨some d, op, ty, pos, after, guard⟩ (fun u w'' => Ext w' w'' ∧ V u w'') fun _ _ => False)
    (h' : Asy P c n ds S w0 l k Q rest ⟨env.del (some d), sats, ph, false :: mu, (d, V) :: pres⟩) : Asy P c n ds S w0 l k Q (⟨some d, op, ty, pos, after, guard⟩ :: rest) ⟨env, sats, ph, mu, pres⟩ :=
  .step (e := .pre V) ⟨hdst, hs, hw, hd, hV, fun w' ρ hx hg => h w' _ hx (hg.sat t U (List.mem_of_getElem? hi) (by simpa using hl)) ρ (ev_cons hg.ev rfl)⟩ h'
theorem Asy.wriP2 (i j : Nat) {t s : Nat} {U U' : Pred} (V : Pred) (hi : pres[i]? = some (t, U)) (hl : (Oper.looksAt l.toArray ⟨some d, op, ty, pos, after, guard⟩).contains t = true)
    (hj : pres[j]? = some (s, U')) (hl' : (Oper.looksAt l.toArray ⟨some d, op, ty, pos, after, guard⟩).contains s = true)
    (hw : wantE l env ⟨some d, op, ty, pos, after, guard⟩ = some true) (hdst : Nat.blt d n = true) (hd : isDefer op = false) (hs : isSel op = false)
    (hV : ∀ v w' w'', ExtB S w0 w' → Ext w' w'' → V v w' → V v w'')
    (h : ∀ w' x y, Ext w0 w' → U x w' → U' y w' → OpE P ((t, x) :: (s, y) :: env) w' ⟨some d, op, ty, pos, after, guard⟩ (fun u w'' => ExtB S w' w'' ∧ V u w'') fun _ _ => False)
    (h' : Asy P c n ds S w0 l k Q rest ⟨env.del (some d), sats, some (some d, V), true :: mu, pres⟩) : Asy P c n ds S w0 l k Q (⟨some d, op, ty, pos, after, guard⟩ :: rest) ⟨env, sats, none, mu, pres⟩ :=
  .step (e := .wri V) ⟨hdst, hs, hw, hd, hV, fun w' ρ hx hg hp => h w' _ _ hx (hp rfl t U (List.mem_of_getElem? hi) (by simpa using hl)) (hp rfl s U' (List.mem_of_getElem? hj) (by simpa using hl')) ρ (ev_cons (ev_cons hg.ev rfl) rfl)⟩ h'
/-- It writes what was there. -/
theorem Asy.keepN (hw : wantE l env ⟨none, op, ty, pos, after, guard⟩ = some true) (hd : isDefer op = false) (hs : isSel op = false)
    (h : ∀ w', ExtB S w0 w' → OpE P env w' ⟨none, op, ty, pos, after, guard⟩ (fun u w'' => u = undef ∧ w'' = w') fun _ _ => False)
    (h' : Asy P c n ds S w0 l k Q rest ⟨env, sats, ph, false :: mu, pres⟩) : Asy P c n ds S w0 l k Q (⟨none, op, ty, pos, after, guard⟩ :: rest) ⟨env, sats, ph, mu, pres⟩ :=
  .step (e := .val undef) ⟨rfl, hs, .inr ⟨hw, hd, fun w' ρ hx hg => (h w' hx ρ hg.ev).mono (by rintro _ _ ⟨rfl, rfl⟩; exact ⟨rfl, ExtB.refl _ _⟩) (fun _ _ h => h)⟩⟩ h'
theorem Asy.end_ (hc : chk l mu.reverse l [] = true) (h : ∀ w', Ext w0 w' → RunL P c n ds l.toArray rest k Q env w') : Asy P c n ds (fun _ => False) w0 l k Q rest ⟨env, [], none, mu, pres⟩ :=
  .tail hc fun w' e => by simpa [satsAll] using h w' e
end
theorem setObj_same {w : World} {b : Nat} {o : Obj} (h : w.heap[b]? = some o) : World.setObj w b o = w := by
  unfold World.setObj
  have : w.heap.setIfInBounds b o = w.heap := by
    apply Array.ext_getElem?
    intro k
    rw [Array.getElem?_setIfInBounds]
    by_cases e : b = k
    · subst e; rw [if_pos rfl, if_pos (lt_of_get h)]; exact h.symm
    · rw [if_neg e]
  rw [this]
theorem OpE.storeSame {P : Program} {w : World} {env : Env} {ty : TypeId} {pos : String} {after : Array Edge} {guard : Option (Nat × Bool)} {T : Tab} (hT : T.Ok P) {t bt : TypeId} {i : TI} {x y : Operand} {b o : Nat} {v : Value} {cs : List Value}
    (hx : evO env x = some (.pointer (some ⟨b, o, none⟩))) (hy : evO env y = some v)
    (ht : T.get t = some i) (hsz : v.cells.toList.length = i.size) (hb : Blk w b cs bt) (hlen : Nat.ble (o + v.cells.toList.length) cs.length = true) (hp : v.cells.toList.all plainV = true) (he : setAt cs o v.cells.toList = cs) :
    OpE P env w ⟨none, .store t x y, ty, pos, after, guard⟩ (fun u w' => u = undef ∧ w' = w) fun _ _ => False := fun ρ hρ => by
  refine ExecE.of_skip (w' := w) ?_ ⟨rfl, rfl⟩
  simp only [execOp, Instr.storeAt, hρ _ _ hx, hρ _ _ hy]
  refine Eq.trans (run_bind (v := ()) (w' := w) _ _ ?_) rfl
  rw [run_bind _ _ (show (Instr.sureAddr (.pointer (some ⟨b, o, none⟩))).run P w = .ok ⟨b, o, none⟩ w from rfl)]
  obtain ⟨j, hj, hs, _⟩ := TI.info (hT.get _ _ ht)
  unfold storeVar
  rw [run_bind _ _ (run_sizeOf hj)]
  rw [if_neg (by rw [hs, ← hsz]; simp)]
  have := run_storeCells (P := P) v.cells.toList 0 cs hb (by have := Nat.le_of_ble_eq_true hlen; omega) (List.all_eq_true.1 hp)
  rw [Nat.add_zero, he] at this
  rw [show World.setObj w b (.cells cs.toArray bt (0, 0)) = w from setObj_same hb] at this
  simpa using this
theorem Blk.up {w w' : World} {b : Nat} {cs : List Value} {t : TypeId} (h : Blk w b cs t) (e : Ext w w') : Blk w' b cs t := h.ext e id
theorem Row.up {w w' : World} {b o : Nat} {cs : List Value} (h : Row w b o cs) (e : Ext w w') : Row w' b o cs := h.extE e
theorem IsSl.up {w w' : World} {sz n : Nat} {v : Value} {cs : List Value} (h : IsSl w sz v n cs) (e : Ext w w') : IsSl w' sz v n cs := h.extE e
/-- A new block stands behind what was there. -/
theorem Added.ge {w w1 w' : World} {B : Nat} {o : Obj} (h : Added w1 w' B o) (x : Ext w w1) : w.heap.size ≤ B := by rw [h.eq]; exact x.size
/-- An own block is written. -/
theorem ExtB.own {w w1 w2 : World} {B : Nat} (x : Ext w w1) (e : ExtB (· = B) w1 w2) (h : w.heap.size ≤ B) : Ext w w2 := x.write e fun i hi hlt => by subst hi; omega
theorem Blk.other {w w' : World} {b B : Nat} {cs : List Value} {t : TypeId} (h : Blk w b cs t) (e : ExtB (· = B) w w') (hn : b ≠ B) : Blk w' b cs t := h.ext e hn
end Go.Rn
namespace Go.Rec
open Go.Rn
/-- Elements of k cells each. -/
structure EncOk {α : Type} (enc : α → List Value) (k : Nat) : Prop where
  len : ∀ x, (enc x).length = k
  plain : ∀ x, (enc x).all plainV = true
  pos : 0 < k
section
variable {α : Type} {enc : α → List Value} {k : Nat}
def flat (enc : α → List Value) (l : List α) : List Value := (l.map enc).flatten
theorem flat_nil : flat enc [] = [] := rfl
theorem flat_cons (x : α) (l : List α) : flat enc (x :: l) = enc x ++ flat enc l := by simp [flat]
theorem flat_append (a b : List α) : flat enc (a ++ b) = flat enc a ++ flat enc b := by simp [flat]
theorem flat_one (x : α) : flat enc [x] = enc x := by simp [flat]
theorem flat_length (h : EncOk enc k) : ∀ (l : List α), (flat enc l).length = l.length * k
  | [] => by simp [flat]
  | x :: l => by rw [flat_cons, List.length_append, h.len, flat_length h l, List.length_cons, Nat.add_mul]; omega
theorem flat_drop (h : EncOk enc k) : ∀ (l : List α) (i : Nat), (flat enc l).drop (i * k) = flat enc (l.drop i)
  | l, 0 => by simp
  | [], i + 1 => by simp [flat]
  | x :: l, i + 1 => by
    rw [flat_cons, List.drop_succ_cons, ← flat_drop h l i, List.drop_append, h.len, Nat.add_mul, Nat.one_mul, Nat.add_sub_cancel]
    rw [List.drop_eq_nil_of_le (by rw [h.len]; omega)]; rfl
theorem flat_take (h : EncOk enc k) : ∀ (l : List α) (i : Nat), (flat enc l).take (i * k) = flat enc (l.take i)
  | l, 0 => by simp [flat]
  | [], i + 1 => by simp [flat]
  | x :: l, i + 1 => by
    rw [flat_cons, List.take_succ_cons, flat_cons, ← flat_take h l i, List.take_append, h.len, Nat.add_mul, Nat.one_mul, Nat.add_sub_cancel]
    rw [List.take_of_length_le (by rw [h.len]; omega)]
theorem flat_plain (h : EncOk enc k) (l : List α) : (flat enc l).all plainV = true := by
  simp only [flat, List.all_flatten, List.all_map, List.all_eq_true]
  intro x _; exact h.plain x
theorem flat_row (h : EncOk enc k) {w : World} {b o : Nat} {l : List α} (hr : Row w b o (flat enc l)) {i : Nat} {x : α} (hx : l[i]? = some x) : Row w b (o + i * k) (enc x) := by
  refine hr.window (k := i * k) fun j v hv => ?_
  have e := flat_drop h l i
  have hd : l.drop i = x :: l.drop (i + 1) := by
    obtain ⟨hi, e⟩ := List.getElem?_eq_some_iff.1 hx
    rw [List.drop_eq_getElem_cons hi, e]
  rw [hd, flat_cons] at e
  have := congrArg (·[j]?) e
  simp only [List.getElem?_drop] at this
  rw [this, List.getElem?_append_left]
  · exact hv
  · rcases Nat.lt_or_ge j (enc x).length with h' | h'
    · exact h'
    · rw [List.getElem?_eq_none h'] at hv; simp at hv
abbrev IsL (w : World) (enc : α → List Value) (k : Nat) (v : Value) (l : List α) : Prop := IsSl w k v l.length (flat enc l)
/-- Opened: nothing, or a row. -/
theorem isL_inv {w : World} {v : Value} {l : List α} (h : IsL w enc k v l) : (∃ d, v = .slice d 0 0 ∧ l = []) ∨ ∃ b o cap, v = .slice (some ⟨b, o, none⟩) l.length cap ∧ Row w b o (flat enc l) ∧ l.length ≤ cap := by
  rcases h.inv with ⟨d, rfl, h, -⟩ | ⟨b, o, cap, rfl, hr, -, hc⟩
  · exact .inl ⟨d, rfl, List.length_eq_zero_iff.1 h⟩
  · exact .inr ⟨b, o, cap, rfl, hr, hc⟩
theorem isSl_slice {w : World} {sz n : Nat} {v : Value} {cs : List Value} (h : IsSl w sz v n cs) : ∃ d c, v = .slice d n c := by
  rcases h.inv with ⟨d, rfl, h, -⟩ | ⟨b, o, c, rfl, -⟩
  · exact ⟨d, 0, by rw [h]⟩
  · exact ⟨_, c, rfl⟩
theorem isL_ext {S : Nat → Prop} {w w' : World} {v : Value} {l : List α} (h : IsL w enc k v l) (e : ExtB S w w') (hs : l ≠ [] → ∀ j, v.ownBlock = some j → ¬ S j) : IsL w' enc k v l := by
  cases l with
  | cons a l => exact h.ext e (hs (by simp))
  | nil =>
    rcases h.inv with ⟨d, rfl, -, -⟩ | ⟨b, o, c, rfl, hr, hl, hc⟩
    · exact .nil
    · exact .row (fun i v hv => by simp [flat] at hv) hl hc
theorem isL_own {w : World} {v : Value} {l : List α} (h : IsL w enc k v l) (hk : 0 < k) (hl : l ≠ []) {j : Nat} (hj : v.ownBlock = some j) : j < w.heap.size := by
  cases l with
  | nil => exact absurd rfl hl
  | cons a l => exact h.lt (by simp) hk hj
theorem isL_held {w : World} {v : Value} {l : List α} (h : IsL w enc k v l) {i : Nat} (hi : i < l.length) : ∃ b o cap, v = .slice (some ⟨b, o, none⟩) l.length cap ∧ Row w b o (flat enc l) ∧ l.length ≤ cap := by
  obtain ⟨b, o, cap, h1, h2, -, h3⟩ := h.held (by omega)
  exact ⟨b, o, cap, h1, h2, h3⟩
end
end Go.Rec
end
section
/- Lists sorted by number; the last of the greatest: plain. -/
namespace Go.Best
section
variable {α : Type} (no at_ : α → Int)
def Srt (l : List α) : Prop := l.Pairwise fun a b => no a < no b
def good (rt : α → Bool) : Int → List α → Bool
  | _, [] => true
  | last, x :: r => rt x && decide (last < no x) && good rt (no x) r
def chk (rt : α → Bool) (lim : Nat) (code : Int) (l : List α) : Int := if lim < l.length then 2 else if good no rt (-1) l then 0 else code
def insS (x : α) (l : List α) : List α := l.takeWhile (fun y => decide (no y < no x)) ++ x :: l.dropWhile (fun y => decide (no y < no x))
def addE (rt : α → Bool) (lim : Nat) (code : Int) (l : List α) (x : α) : Int :=
  if chk no rt lim code l = 0 then (if rt x then (if l.any (fun y => decide (no y = no x)) then 151 else if l.length = lim then 2 else 0) else code) else chk no rt lim code l
def addL (rt : α → Bool) (lim : Nat) (code : Int) (l : List α) (x : α) : List α := if addE no rt lim code l x = 0 then insS no x l else []
variable {no at_}
theorem good_srt {rt : α → Bool} : ∀ {l : List α} {last : Int}, good no rt last l = true → Srt no l ∧ ∀ x ∈ l, last < no x ∧ rt x = true
  | [], last, _ => ⟨List.Pairwise.nil, by simp⟩
  | x :: r, last, h => by
    simp only [good, Bool.and_eq_true, decide_eq_true_eq] at h
    obtain ⟨⟨h1, h2⟩, h3⟩ := h
    obtain ⟨h4, h5⟩ := good_srt h3
    refine ⟨List.pairwise_cons.2 ⟨fun y hy => (h5 y hy).1, h4⟩, fun y hy => ?_⟩
    rcases List.mem_cons.1 hy with rfl | hy
    · exact ⟨h2, h1⟩
    · exact ⟨by have := (h5 y hy).1; omega, (h5 y hy).2⟩
theorem good_of {rt : α → Bool} : ∀ {l : List α} {last : Int}, Srt no l → (∀ x ∈ l, last < no x ∧ rt x = true) → good no rt last l = true
  | [], _, _, _ => rfl
  | x :: r, last, h, h' => by
    obtain ⟨h1, h2⟩ := List.pairwise_cons.1 h
    have := h' x List.mem_cons_self
    simp only [good, Bool.and_eq_true, decide_eq_true_eq]
    exact ⟨⟨this.2, this.1⟩, good_of h2 fun y hy => ⟨h1 y hy, (h' y (List.mem_cons_of_mem _ hy)).2⟩⟩
theorem chk_ok {rt : α → Bool} {lim : Nat} {code : Int} {l : List α} (hc : code ≠ 0) : chk no rt lim code l = 0 ↔ l.length ≤ lim ∧ good no rt (-1) l = true := by
  unfold chk; split
  · simp; omega
  · split
    · rename_i h; simp [h]; omega
    · rename_i h; simp [h, hc]
theorem mem_insS {x y : α} {l : List α} : y ∈ insS no x l ↔ y = x ∨ y ∈ l := by
  unfold insS
  have := List.takeWhile_append_dropWhile (p := fun y => decide (no y < no x)) (l := l)
  conv => rhs; rw [← this]
  simp only [List.mem_append, List.mem_cons]
  constructor <;> intro h
  · rcases h with h | h | h
    · exact .inr (.inl h)
    · exact .inl h
    · exact .inr (.inr h)
  · rcases h with h | h | h
    · exact .inr (.inl h)
    · exact .inl h
    · exact .inr (.inr h)
theorem length_insS (x : α) (l : List α) : (insS no x l).length = l.length + 1 := by
  unfold insS
  have := congrArg List.length (List.takeWhile_append_dropWhile (p := fun y => decide (no y < no x)) (l := l))
  simp only [List.length_append, List.length_cons] at this ⊢
  omega
theorem srt_cons {x : α} {l : List α} : Srt no (x :: l) ↔ (∀ y ∈ l, no x < no y) ∧ Srt no l := List.pairwise_cons
theorem insS_cons (x y : α) (l : List α) : insS no x (y :: l) = if no y < no x then y :: insS no x l else x :: y :: l := by
  unfold insS
  simp only [List.takeWhile_cons, List.dropWhile_cons]
  by_cases h : no y < no x <;> simp [h]
theorem srt_insS {x : α} : ∀ {l : List α}, Srt no l → (∀ y ∈ l, no y ≠ no x) → Srt no (insS no x l)
  | [], _, _ => by simp [insS, Srt]
  | y :: l, h, h' => by
    obtain ⟨h1, h2⟩ := srt_cons.1 h
    rw [insS_cons]
    split
    · rename_i hlt
      refine srt_cons.2 ⟨fun z hz => ?_, srt_insS h2 fun z hz => h' z (List.mem_cons_of_mem _ hz)⟩
      rcases mem_insS.1 hz with rfl | hz
      · exact hlt
      · exact h1 z hz
    · rename_i hge
      have := h' y List.mem_cons_self
      refine srt_cons.2 ⟨fun z hz => ?_, h⟩
      rcases List.mem_cons.1 hz with rfl | hz
      · omega
      · have := h1 z hz; omega
theorem filter_insS {p : α → Bool} {x : α} (hx : p x = false) (l : List α) : (insS no x l).filter p = l.filter p := by
  unfold insS
  conv => rhs; rw [← List.takeWhile_append_dropWhile (p := fun y => decide (no y < no x)) (l := l)]
  rw [List.filter_append, List.filter_append, List.filter_cons, hx]; simp
theorem srt_ext : ∀ {a b : List α}, Srt no a → Srt no b → (∀ x, x ∈ a ↔ x ∈ b) → a = b
  | [], [], _, _, _ => rfl
  | [], y :: b, _, _, h => by have := (h y).2 List.mem_cons_self; simp at this
  | x :: a, [], _, _, h => by have := (h x).1 List.mem_cons_self; simp at this
  | x :: a, y :: b, ha, hb, h => by
    obtain ⟨a1, a2⟩ := srt_cons.1 ha
    obtain ⟨b1, b2⟩ := srt_cons.1 hb
    have hxy : x = y := by
      rcases List.mem_cons.1 ((h x).1 List.mem_cons_self) with e | e
      · exact e
      · rcases List.mem_cons.1 ((h y).2 List.mem_cons_self) with e' | e'
        · exact e'.symm
        · have := b1 x e; have := a1 y e'; omega
    subst hxy
    rw [srt_ext a2 b2 fun z => ?_]
    constructor
    · intro hz
      rcases List.mem_cons.1 ((h z).1 (List.mem_cons_of_mem _ hz)) with e | e
      · subst e; have := a1 z hz; omega
      · exact e
    · intro hz
      rcases List.mem_cons.1 ((h z).2 (List.mem_cons_of_mem _ hz)) with e | e
      · subst e; have := b1 z hz; omega
      · exact e
theorem Srt.filter {l : List α} (h : Srt no l) (p : α → Bool) : Srt no (l.filter p) := h.sublist List.filter_sublist
theorem Srt.inj {l : List α} : Srt no l → ∀ x ∈ l, ∀ y ∈ l, no x = no y → x = y := by
  induction l with
  | nil => intro _ x hx; simp at hx
  | cons a l ih =>
    intro h x hx y hy e
    obtain ⟨h1, h2⟩ := srt_cons.1 h
    rcases List.mem_cons.1 hx with e1 | hx1
    · rcases List.mem_cons.1 hy with e2 | hy1
      · rw [e1, e2]
      · have := h1 y hy1; subst e1; omega
    · rcases List.mem_cons.1 hy with e2 | hy1
      · have := h1 x hx1; subst e2; omega
      · exact ih h2 x hx1 y hy1 e
theorem split_at {m : Int} : ∀ {l : List α}, Srt no l → (l.takeWhile fun y => decide (no y < m)).length ≤ l.length ∧ (∀ i x, l[i]? = some x → i < (l.takeWhile fun y => decide (no y < m)).length → no x < m) ∧
    (∀ i x, l[i]? = some x → (l.takeWhile fun y => decide (no y < m)).length ≤ i → m ≤ no x) ∧
    (l.any fun y => decide (no y = m)) = (match l[(l.takeWhile fun y => decide (no y < m)).length]? with | some x => decide (no x = m) | none => false)
  | [], _ => by simp
  | y :: l, h => by
    obtain ⟨h1, h2⟩ := srt_cons.1 h
    obtain ⟨i1, i2, i3, i4⟩ := split_at (m := m) h2
    by_cases hy : no y < m
    · simp only [List.takeWhile_cons, hy, decide_true, if_true, List.length_cons, List.any_cons, List.getElem?_cons_succ]
      refine ⟨by omega, fun i x hx hi => ?_, fun i x hx hi => ?_, ?_⟩
      · cases i with
        | zero => simp at hx; subst hx; exact hy
        | succ i => exact i2 i x (by simpa using hx) (by omega)
      · cases i with
        | zero => omega
        | succ i => exact i3 i x (by simpa using hx) (by omega)
      · rw [← i4, decide_eq_false (by omega), Bool.false_or]
    · simp only [List.takeWhile_cons, hy, decide_false, List.length_nil, List.any_cons]
      refine ⟨Nat.zero_le _, fun i x _ hi => by simp at hi, fun i x hx _ => ?_, ?_⟩
      · cases i with
        | zero => simp at hx; subst hx; omega
        | succ i => have := h1 x (List.mem_of_getElem? (by simpa using hx)); omega
      · have : (l.any fun y => decide (no y = m)) = false := by
          rw [List.any_eq_false]; intro x hx; have := h1 x hx; simp; omega
        rw [this]; simp
theorem take_while {p : α → Bool} : ∀ (l : List α), l.take (l.takeWhile p).length = l.takeWhile p ∧ l.drop (l.takeWhile p).length = l.dropWhile p
  | [] => by simp
  | x :: l => by
    obtain ⟨h1, h2⟩ := take_while (p := p) l
    simp only [List.takeWhile_cons, List.dropWhile_cons]
    cases p x <;> simp [h1, h2]
def cmpI (a b : Int) : Int := if a < b then -1 else if b < a then 1 else 0
theorem cmpI_neg {a b : Int} : cmpI a b < 0 ↔ a < b := by unfold cmpI; split <;> (try split) <;> omega
theorem cmpI_zero {a b : Int} : cmpI a b = 0 ↔ a = b := by unfold cmpI; split <;> (try split) <;> omega
theorem cmpI_bd (a b : Int) : -1 ≤ cmpI a b ∧ cmpI a b ≤ 1 := by unfold cmpI; split <;> (try split) <;> omega
variable (no at_)
/-- o is the last of the greatest at time t. -/
def isB (f : List α) (t : Int) : Option α → Prop
  | none => ∀ y ∈ f, t < at_ y
  | some z => z ∈ f ∧ at_ z ≤ t ∧ ∀ y ∈ f, at_ y ≤ t → at_ y < at_ z ∨ (at_ y = at_ z ∧ no y ≤ no z)
def pickS (t : Int) (best : Option α) (x : α) : Option α :=
  if at_ x ≤ t then (match best with
    | none => some x
    | some y => if at_ y ≤ at_ x then some x else some y) else best
def bst (f : List α) (t : Int) : Option α := f.foldl (pickS at_ t) none
variable {no at_}
theorem isB_uniq {f : List α} {t : Int} (hi : ∀ x ∈ f, ∀ y ∈ f, no x = no y → x = y) : ∀ {o o' : Option α}, isB no at_ f t o → isB no at_ f t o' → o = o'
  | none, none, _, _ => rfl
  | none, some z, h, h' => by have := h z h'.1; have := h'.2.1; omega
  | some z, none, h, h' => by have := h' z h.1; have := h.2.1; omega
  | some z, some z', h, h' => by
    have h1 := h.2.2 z' h'.1 h'.2.1
    have h2 := h'.2.2 z h.1 h.2.1
    rw [hi z h.1 z' h'.1 (by omega)]
theorem isB_mem {f g : List α} {t : Int} {o : Option α} (h : ∀ x, x ∈ f ↔ x ∈ g) : isB no at_ f t o → isB no at_ g t o := by
  cases o with
  | none => exact fun hb y hy => hb y ((h y).2 hy)
  | some z => exact fun hb => ⟨(h z).1 hb.1, hb.2.1, fun y hy => hb.2.2 y ((h y).2 hy)⟩
theorem pick_isB {pre : List α} {t : Int} {b : Option α} {x : α} (hb : isB no at_ pre t b) (hx : ∀ y ∈ pre, no y < no x) : isB no at_ (pre ++ [x]) t (pickS at_ t b x) := by
  unfold pickS
  split
  · rename_i hle
    cases b with
    | none =>
      refine ⟨by simp, hle, fun y hy hyt => ?_⟩
      rcases List.mem_append.1 hy with hy | hy
      · have := hb y hy; omega
      · simp at hy; subst hy; exact .inr ⟨rfl, Int.le_refl _⟩
    | some z =>
      simp only
      split
      · rename_i hz
        refine ⟨by simp, hle, fun y hy hyt => ?_⟩
        rcases List.mem_append.1 hy with hy | hy
        · have := hb.2.2 y hy hyt
          have := hx y hy
          rcases Int.lt_or_eq_of_le (show at_ y ≤ at_ x by omega) with h | h
          · exact .inl h
          · exact .inr ⟨h, by omega⟩
        · simp at hy; subst hy; exact .inr ⟨rfl, Int.le_refl _⟩
      · rename_i hz
        refine ⟨by simp [hb.1], hb.2.1, fun y hy hyt => ?_⟩
        rcases List.mem_append.1 hy with hy | hy
        · exact hb.2.2 y hy hyt
        · simp at hy; subst hy; exact .inl (by omega)
  · rename_i hgt
    cases b with
    | none =>
      intro y hy
      rcases List.mem_append.1 hy with hy | hy
      · exact hb y hy
      · simp at hy; subst hy; omega
    | some z =>
      refine ⟨by simp [hb.1], hb.2.1, fun y hy hyt => ?_⟩
      rcases List.mem_append.1 hy with hy | hy
      · exact hb.2.2 y hy hyt
      · simp at hy; subst hy; omega
theorem fold_isB {t : Int} : ∀ (post pre : List α) (b : Option α), isB no at_ pre t b → Srt no (pre ++ post) → isB no at_ (pre ++ post) t (post.foldl (pickS at_ t) b)
  | [], pre, b, hb, _ => by simpa using hb
  | x :: post, pre, b, hb, hs => by
    have h1 : Srt no ((pre ++ [x]) ++ post) := by simpa using hs
    have := fold_isB post (pre ++ [x]) _ (pick_isB hb fun y hy => (List.pairwise_append.1 hs).2.2 y hy x List.mem_cons_self) h1
    simpa using this
theorem bst_isB {f : List α} (hs : Srt no f) (t : Int) : isB no at_ f t (bst at_ f t) := by
  have := fold_isB (no := no) (at_ := at_) (t := t) f [] none (by intro y hy; simp at hy) (by simpa using hs)
  exact this
theorem bst_eq {f : List α} (hs : Srt no f) {t : Int} {o : Option α} (h : isB no at_ f t o) : bst at_ f t = o := isB_uniq hs.inj (bst_isB hs t) h
theorem bst_mem {f : List α} {t : Int} {z : α} (hs : Srt no f) (h : bst at_ f t = some z) : z ∈ f ∧ at_ z ≤ t := by
  have := bst_isB (at_ := at_) hs t
  rw [h] at this; exact ⟨this.1, this.2.1⟩
theorem bst_snoc (f : List α) (x : α) (t : Int) : bst at_ (f ++ [x]) t = pickS at_ t (bst at_ f t) x := by simp [bst]
end
end Go.Best
end
section
/- Numbers: primes, Gauss's count, the law of quadratic reciprocity, Euler's criterion, the group of the squares modulo P. Plain mathematics: no program here. -/
namespace Go.NT

/-! ### Primes -/
def IsPrime (p : Nat) : Prop := 2 ≤ p ∧ ∀ d, d ∣ p → d = 1 ∨ d = p
def noDiv (p : Nat) : Nat → Bool
  | 0 => true
  | k + 1 => p % (k + 2) != 0 && noDiv p k
theorem noDiv_spec {p : Nat} : ∀ {k : Nat}, noDiv p k = true → ∀ d, 2 ≤ d → d < k + 2 → ¬ d ∣ p
  | 0, _, d, h1, h2, _ => by omega
  | k + 1, h, d, h1, h2, hd => by
    simp only [noDiv, Bool.and_eq_true, bne_iff_ne] at h
    rcases Nat.lt_or_ge d (k + 2) with h' | h'
    · exact noDiv_spec h.2 d h1 h' hd
    · have : d = k + 2 := by omega
      subst this
      exact h.1 (Nat.mod_eq_zero_of_dvd hd)
theorem prime_of_noDiv {p k : Nat} (hp : 2 ≤ p) (h : noDiv p k = true) (hk : p < (k + 2) * (k + 2)) : IsPrime p := by
  refine ⟨hp, fun d hd => ?_⟩
  obtain ⟨e, he⟩ := hd
  have hd0 : d ≠ 0 := by rintro rfl; simp at he; omega
  have he0 : e ≠ 0 := by rintro rfl; simp at he; omega
  by_cases h1 : d = 1
  · exact .inl h1
  by_cases h2 : e = 1
  · subst h2; right; omega
  exfalso
  rcases Nat.lt_or_ge d (k + 2) with hlt | hge
  · exact noDiv_spec h d (by omega) hlt ⟨e, he⟩
  · rcases Nat.lt_or_ge e (k + 2) with hlt | hge'
    · exact noDiv_spec h e (by omega) hlt ⟨d, by rw [he, Nat.mul_comm]⟩
    · have := Nat.mul_le_mul hge hge'
      omega

theorem coprime_of_prime {p a : Nat} (hp : IsPrime p) (h : ¬ p ∣ a) : Nat.Coprime a p := by
  have h1 := hp.2 (Nat.gcd a p) (Nat.gcd_dvd_right a p)
  rcases h1 with h1 | h1
  · exact h1
  · exfalso; apply h; rw [← h1]; exact Nat.gcd_dvd_left a p
theorem prime_mul {p a b : Nat} (hp : IsPrime p) (h : p ∣ a * b) : p ∣ a ∨ p ∣ b := by
  by_cases ha : p ∣ a
  · exact .inl ha
  · exact .inr (Nat.Coprime.dvd_of_dvd_mul_left (coprime_of_prime hp ha).symm h)

/-! ### Big sums -/
section
variable {α : Type} (op : α → α → α) (e : α)
def bigTo (f : Nat → α) : Nat → α
  | 0 => e
  | k + 1 => op (bigTo f k) (f (k + 1))
end
def sumTo (f : Nat → Nat) (h : Nat) : Nat := bigTo (· + ·) 0 f h

theorem bigTo_congr {α : Type} {op : α → α → α} {e : α} {f g : Nat → α} : ∀ {h : Nat}, (∀ k, 1 ≤ k → k ≤ h → f k = g k) → bigTo op e f h = bigTo op e g h
  | 0, _ => rfl
  | h + 1, hh => by simp only [bigTo]; rw [bigTo_congr (fun k h1 h2 => hh k h1 (by omega)), hh (h + 1) (by omega) (by omega)]

theorem no_inj : ∀ (h : Nat) (m : Nat → Nat), (∀ k, 1 ≤ k → k ≤ h + 1 → 1 ≤ m k ∧ m k ≤ h) → (∀ j k, 1 ≤ j → j ≤ h + 1 → 1 ≤ k → k ≤ h + 1 → m j = m k → j = k) → False
  | 0, m, hr, _ => by have := hr 1 (by omega) (by omega); omega
  | h + 1, m, hr, hi => by
    refine no_inj h (fun k => if m k = h + 1 then m (h + 2) else m k) (fun k h1 h2 => ?_) (fun j k j1 j2 k1 k2 he => ?_)
    · have a1 := hr k h1 (by omega)
      have a2 := hr (h + 2) (by omega) (by omega)
      split
      · rename_i e
        have : m (h + 2) ≠ h + 1 := fun e2 => by have := hi k (h + 2) h1 (by omega) (by omega) (by omega) (by omega); omega
        omega
      · omega
    · split at he <;> split at he
      · exact hi j k j1 (by omega) k1 (by omega) (by omega)
      · have := hi (h + 2) k (by omega) (by omega) k1 (by omega) he; omega
      · have := hi j (h + 2) j1 (by omega) (by omega) (by omega) he; omega
      · exact hi j k j1 (by omega) k1 (by omega) he

section
variable {α : Type} {op : α → α → α} {e : α} (hc : ∀ a b, op a b = op b a) (ha : ∀ a b c, op (op a b) c = op a (op b c))
include hc ha
theorem bigTo_swap {g g' : Nat → α} {k0 : Nat} : ∀ {h : Nat}, 1 ≤ k0 → k0 ≤ h → (∀ k, 1 ≤ k → k ≤ h → k ≠ k0 → g k = g' k) → op (bigTo op e g h) (g' k0) = op (bigTo op e g' h) (g k0)
  | 0, h1, h2, _ => by omega
  | h + 1, h1, h2, hh => by
    simp only [bigTo]
    by_cases hk : k0 = h + 1
    · subst hk
      rw [bigTo_congr (fun k a b => hh k a (by omega) (by omega)), ha, ha, hc (g (h + 1))]
    · have ih := bigTo_swap (h := h) h1 (by omega) (fun k a b c => hh k a (by omega) c)
      rw [ha, hc (g (h + 1)), ← ha, ih, ha, hc (g k0), ← ha, hh (h + 1) (by omega) (by omega) (fun e => hk e.symm)]

theorem bigTo_perm {f : Nat → α} : ∀ (h : Nat) (m : Nat → Nat), (∀ k, 1 ≤ k → k ≤ h → 1 ≤ m k ∧ m k ≤ h) → (∀ j k, 1 ≤ j → j ≤ h → 1 ≤ k → k ≤ h → m j = m k → j = k) →
    bigTo op e (fun k => f (m k)) h = bigTo op e f h
  | 0, _, _, _ => rfl
  | h + 1, m, hr, hi => by
    by_cases hcc : m (h + 1) = h + 1
    · simp only [bigTo, hcc]
      rw [bigTo_perm h m (fun k h1 h2 => ?_) (fun j k a b c d => hi j k a (by omega) c (by omega))]
      have := hr k h1 (by omega)
      have h3 : m k ≠ h + 1 := fun e => by have := hi k (h + 1) h1 (by omega) (by omega) (by omega) (by omega); omega
      omega
    · have hcr := hr (h + 1) (by omega) (by omega)
      by_cases hex : ∃ k0, 1 ≤ k0 ∧ k0 ≤ h ∧ m k0 = h + 1
      · obtain ⟨k0, hk1, hk2, hk3⟩ := hex
        have uniq : ∀ k, 1 ≤ k → k ≤ h → k ≠ k0 → m k ≠ h + 1 := fun k a b c e => c (hi k k0 a (by omega) hk1 (by omega) (by omega))
        have ih := bigTo_perm (f := f) h (fun k => if m k = h + 1 then m (h + 1) else m k) (fun k h1 h2 => by
          have := hr k h1 (by omega); split <;> omega) (fun j k j1 j2 k1 k2 he => by
          split at he <;> split at he
          · exact hi j k j1 (by omega) k1 (by omega) (by omega)
          · have := hi (h + 1) k (by omega) (by omega) k1 (by omega) he; omega
          · have := hi j (h + 1) j1 (by omega) (by omega) (by omega) he; omega
          · exact hi j k j1 (by omega) k1 (by omega) he)
        simp only [bigTo]
        rw [← ih]
        have sw := bigTo_swap (e := e) hc ha (g := fun k => f (m k)) (g' := fun k => f (if m k = h + 1 then m (h + 1) else m k)) hk1 hk2 (fun k a b c => by simp only [if_neg (uniq k a b c)])
        simp only [hk3, if_true] at sw
        exact sw
      · exfalso
        refine no_inj h m (fun k h1 h2 => ?_) (fun j k a b c d => hi j k a b c d)
        have := hr k h1 h2
        by_cases hk : k = h + 1
        · subst hk; omega
        · have : m k ≠ h + 1 := fun e => hex ⟨k, h1, by omega, e⟩
          omega
end

theorem sumTo_perm {f : Nat → Nat} (h : Nat) (m : Nat → Nat) (hr : ∀ k, 1 ≤ k → k ≤ h → 1 ≤ m k ∧ m k ≤ h) (hi : ∀ j k, 1 ≤ j → j ≤ h → 1 ≤ k → k ≤ h → m j = m k → j = k) :
    sumTo (fun k => f (m k)) h = sumTo f h := bigTo_perm Nat.add_comm Nat.add_assoc h m hr hi
theorem sumTo_succ (f : Nat → Nat) (h : Nat) : sumTo f (h + 1) = sumTo f h + f (h + 1) := rfl
theorem sumTo_congr {f g : Nat → Nat} {h : Nat} (hh : ∀ k, 1 ≤ k → k ≤ h → f k = g k) : sumTo f h = sumTo g h := bigTo_congr hh
theorem sumTo_add (f g : Nat → Nat) : ∀ h, sumTo (fun k => f k + g k) h = sumTo f h + sumTo g h
  | 0 => rfl
  | h + 1 => by simp only [sumTo_succ, sumTo_add f g h]; omega
theorem sumTo_mul (c : Nat) (f : Nat → Nat) : ∀ h, sumTo (fun k => c * f k) h = c * sumTo f h
  | 0 => rfl
  | h + 1 => by simp only [sumTo_succ, sumTo_mul c f h, Nat.mul_add]
theorem sumTo_mod (f g : Nat → Nat) : ∀ h, (∀ k, 1 ≤ k → k ≤ h → f k % 2 = g k % 2) → sumTo f h % 2 = sumTo g h % 2
  | 0, _ => rfl
  | h + 1, hh => by
    have := sumTo_mod f g h (fun k a b => hh k a (by omega))
    have := hh (h + 1) (by omega) (by omega)
    simp only [sumTo_succ]; omega
theorem sumTo_const (c : Nat) : ∀ h, sumTo (fun _ => c) h = c * h
  | 0 => rfl
  | h + 1 => by simp only [sumTo_succ, sumTo_const c h, Nat.mul_add, Nat.mul_one]
theorem sumTo_swap (f : Nat → Nat → Nat) : ∀ (h h' : Nat), sumTo (fun k => sumTo (fun j => f k j) h') h = sumTo (fun j => sumTo (fun k => f k j) h) h'
  | 0, h' => by
    show 0 = sumTo (fun _ => 0) h'
    rw [sumTo_const]; omega
  | h + 1, h' => by
    rw [sumTo_succ, sumTo_swap f h h', ← sumTo_add]
    exact sumTo_congr fun j _ _ => rfl

/-! ### Gauss's count -/
/-- How many of the first (n - 1) / 2 multiples of a leave more than half of n. -/
def G (a n : Nat) : Nat := sumTo (fun k => if a * k % n > n / 2 then 1 else 0) (n / 2)
/-- The least of a remainder and its negative. -/
def lst (a n k : Nat) : Nat := if a * k % n > n / 2 then n - a * k % n else a * k % n

section
variable {a n : Nat} (hn : n % 2 = 1) (hco : Nat.Coprime a n)
include hn hco
theorem rem_pos {k : Nat} (h1 : 1 ≤ k) (h2 : k < n) : 1 ≤ a * k % n := by
  rcases Nat.eq_zero_or_pos (a * k % n) with h | h
  · exfalso
    have hd := Nat.dvd_of_mod_eq_zero h
    have := Nat.Coprime.dvd_of_dvd_mul_left hco.symm hd
    have := Nat.le_of_dvd (by omega) this
    omega
  · exact h
theorem lst_range {k : Nat} (h1 : 1 ≤ k) (h2 : k ≤ n / 2) : 1 ≤ lst a n k ∧ lst a n k ≤ n / 2 := by
  have := rem_pos hn hco h1 (by omega)
  have := Nat.mod_lt (a * k) (by omega : n > 0)
  unfold lst; split <;> omega
theorem lst_inj {j k : Nat} (j1 : 1 ≤ j) (j2 : j ≤ n / 2) (k1 : 1 ≤ k) (k2 : k ≤ n / 2) (he : lst a n j = lst a n k) : j = k := by
  have key : ∀ {j k : Nat}, j ≤ k → k ≤ n / 2 → a * j % n = a * k % n → j = k := by
    intro j k hjk hk hmod
    have hd : n ∣ a * (k - j) := by
      rw [Nat.mul_sub]
      exact Nat.dvd_of_mod_eq_zero (Nat.sub_mod_eq_zero_of_mod_eq hmod.symm)
    have := Nat.Coprime.dvd_of_dvd_mul_left hco.symm hd
    rcases Nat.eq_zero_or_pos (k - j) with h0 | h0
    · omega
    · have := Nat.le_of_dvd h0 this; omega
  have key2 : a * j % n + a * k % n = n → False := by
    intro hs
    have hd : n ∣ a * (j + k) := by
      apply Nat.dvd_of_mod_eq_zero
      rw [Nat.mul_add, Nat.add_mod, hs, Nat.mod_self]
    have := Nat.Coprime.dvd_of_dvd_mul_left hco.symm hd
    have := Nat.le_of_dvd (by omega) this; omega
  have l1 := Nat.mod_lt (a * j) (by omega : n > 0)
  have l2 := Nat.mod_lt (a * k) (by omega : n > 0)
  unfold lst at he
  have fin : a * j % n = a * k % n → j = k := fun h => by
    rcases Nat.le_total j k with h' | h'
    · exact key h' k2 h
    · exact (key h' j2 h.symm).symm
  split at he <;> split at he
  · exact fin (by omega)
  · exact (key2 (by omega)).elim
  · exact (key2 (by omega)).elim
  · exact fin he
end

theorem G_mod (a n : Nat) : G (a % n) n = G a n := by
  unfold G
  refine sumTo_congr fun k _ _ => ?_
  rw [Nat.mod_mul_mod]
theorem G_one {n : Nat} : G 1 n = 0 := by
  unfold G
  rw [sumTo_congr (g := fun _ => 0) (fun k h1 h2 => ?_), sumTo_const]; · omega
  rw [Nat.one_mul, Nat.mod_eq_of_lt (by omega), if_neg (by omega)]

theorem G_mul {a b n : Nat} (hn : n % 2 = 1) (ha : Nat.Coprime a n) (hb : Nat.Coprime b n) : G (a * b) n % 2 = (G a n + G b n) % 2 := by
  have hp : G a n = sumTo (fun k => if a * lst b n k % n > n / 2 then 1 else 0) (n / 2) := by
    unfold G
    exact (sumTo_perm (f := fun k => if a * k % n > n / 2 then 1 else 0) (n / 2) (lst b n) (fun k h1 h2 => lst_range hn hb h1 h2) (fun j k => lst_inj hn hb)).symm
  rw [hp]
  unfold G
  rw [← sumTo_add]
  refine sumTo_mod _ _ _ fun k h1 h2 => ?_
  have hlr := lst_range hn hb h1 h2
  have hra := rem_pos hn ha hlr.1 (by omega)
  have e1 : a * b * k % n = a * (b * k % n) % n := by rw [Nat.mul_assoc, Nat.mul_mod_mod]
  have lb := Nat.mod_lt (b * k) (by omega : n > 0)
  have la := Nat.mod_lt (a * lst b n k) (by omega : n > 0)
  rw [e1]
  by_cases hs : b * k % n > n / 2
  · have hl : lst b n k = n - b * k % n := by unfold lst; rw [if_pos hs]
    rw [hl] at hra la ⊢
    rw [if_pos hs]
    have : a * (b * k % n) % n = n - a * (n - b * k % n) % n := by
      have hsum : (a * (b * k % n) + a * (n - b * k % n)) % n = 0 := by
        rw [← Nat.mul_add, show b * k % n + (n - b * k % n) = n by omega, Nat.mul_mod_left]
      rw [Nat.add_mod] at hsum
      have l3 := Nat.mod_lt (a * (b * k % n)) (by omega : n > 0)
      have hd := Nat.dvd_of_mod_eq_zero hsum
      obtain ⟨q, hq⟩ := hd
      have : q = 1 := by
        rcases q with _ | _ | q
        · simp at hq; omega
        · rfl
        · have : n * (q + 1 + 1) ≥ n * 2 := Nat.mul_le_mul_left n (by omega)
          omega
      subst this; omega
    rw [this]
    split <;> split <;> omega
  · have hl : lst b n k = b * k % n := by unfold lst; rw [if_neg hs]
    rw [hl, if_neg hs]
    simp

def F (a n : Nat) : Nat := sumTo (fun k => a * k / n) (n / 2)
def T (h : Nat) : Nat := sumTo (fun k => k) h
theorem T_eq : ∀ h, 2 * T h = h * (h + 1)
  | 0 => rfl
  | h + 1 => by
    have := T_eq h
    unfold T at this ⊢
    rw [sumTo_succ, Nat.mul_add, this]
    simp only [Nat.mul_add, Nat.add_mul, Nat.mul_one, Nat.one_mul]; omega

theorem gauss_sum {a n : Nat} (hn : n % 2 = 1) (ha : Nat.Coprime a n) : (a * T (n / 2)) % 2 = (F a n + G a n + T (n / 2)) % 2 := by
  have hp : T (n / 2) = sumTo (fun k => lst a n k) (n / 2) := by
    unfold T
    exact (sumTo_perm (f := fun k => k) (n / 2) (lst a n) (fun k h1 h2 => lst_range hn ha h1 h2) (fun j k => lst_inj hn ha)).symm
  conv => rhs; rw [hp]
  unfold F G T
  rw [← sumTo_mul, ← sumTo_add, ← sumTo_add]
  refine sumTo_mod _ _ _ fun k h1 h2 => ?_
  have l := Nat.mod_lt (a * k) (by omega : n > 0)
  have e := Nat.div_add_mod (a * k) n
  have em : n * (a * k / n) % 2 = a * k / n % 2 := by
    rw [Nat.mul_mod, hn, Nat.one_mul, Nat.mod_mod]
  unfold lst
  split <;> omega

theorem G_two {n : Nat} (hn : n % 2 = 1) : G 2 n % 2 = if n % 8 = 3 ∨ n % 8 = 5 then 1 else 0 := by
  have hco : Nat.Coprime 2 n := by
    have := coprime_of_prime (p := 2) (a := n) ⟨by omega, fun d hd => by have := Nat.le_of_dvd (by omega) hd; rcases d with _ | _ | _ | d <;> simp_all⟩ (by omega)
    exact this.symm
  have h := gauss_sum hn hco
  have hF : F 2 n = 0 := by
    unfold F
    rw [sumTo_congr (g := fun _ => 0) (fun k h1 h2 => Nat.div_eq_of_lt (by omega)), sumTo_const]; omega
  rw [hF] at h
  have ht := T_eq (n / 2)
  have hq : ∃ q r, n = 8 * q + r ∧ (r = 1 ∨ r = 3 ∨ r = 5 ∨ r = 7) := ⟨n / 8, n % 8, by omega, by omega⟩
  obtain ⟨q, r, rfl, hr⟩ := hq
  have h4 : (8 * q + r) / 2 = 4 * q + r / 2 := by omega
  rw [h4] at ht h
  generalize T (4 * q + r / 2) = t at ht h
  have hm : ∃ z, (4 * q + r / 2) * (4 * q + r / 2 + 1) = 4 * z + (r / 2) * (r / 2 + 1) := by
    refine ⟨4 * q * q + q * (r / 2) + q * (r / 2 + 1), ?_⟩
    simp only [Nat.add_mul, Nat.mul_add, Nat.mul_assoc, Nat.mul_comm, Nat.mul_left_comm, Nat.mul_one]; omega
  obtain ⟨z, hz⟩ := hm
  rw [hz] at ht
  rcases hr with rfl | rfl | rfl | rfl <;> simp at ht ⊢ <;> omega

theorem G_odd {a n : Nat} (hn : n % 2 = 1) (ha : Nat.Coprime a n) (hodd : a % 2 = 1) : G a n % 2 = F a n % 2 := by
  have h := gauss_sum hn ha
  rw [Nat.mul_mod, hodd, Nat.one_mul, Nat.mod_mod] at h
  omega

theorem floor_count {n x : Nat} (hn : 0 < n) : ∀ H, x / n ≤ H → sumTo (fun j => if n * j ≤ x then 1 else 0) H = x / n := by
  have key : ∀ H, sumTo (fun j => if n * j ≤ x then 1 else 0) H = min H (x / n) := by
    intro H
    induction H with
    | zero => simp [sumTo, bigTo]
    | succ H ih =>
      rw [sumTo_succ, ih]
      by_cases h : n * (H + 1) ≤ x
      · have : H + 1 ≤ x / n := (Nat.le_div_iff_mul_le hn).2 (by rw [Nat.mul_comm]; exact h)
        rw [if_pos h]; omega
      · have : ¬ H + 1 ≤ x / n := fun hh => h (by have := (Nat.le_div_iff_mul_le hn).1 hh; rw [Nat.mul_comm]; exact this)
        rw [if_neg h]; omega
  intro H hH
  rw [key]; omega

theorem F_add {a n : Nat} (hn : n % 2 = 1) (ha : a % 2 = 1) (hco : Nat.Coprime a n) : F a n + F n a = (a / 2) * (n / 2) := by
  have bound : ∀ {a n k : Nat}, n % 2 = 1 → a % 2 = 1 → k ≤ n / 2 → a * k / n ≤ a / 2 := by
    intro a n k hn ha hk
    have h1 : a * k ≤ a * (n / 2) := Nat.mul_le_mul_left a hk
    have h2 : a * k / n < a / 2 + 1 := by
      rw [Nat.div_lt_iff_lt_mul (by omega)]
      have e1 : n = 2 * (n / 2) + 1 := by omega
      have e2 : a = 2 * (a / 2) + 1 := by omega
      generalize n / 2 = p at *
      generalize a / 2 = q at *
      subst e1; subst e2
      have : (q + 1) * (2 * p + 1) = (2 * q + 1) * p + p + q + 1 := by
        simp only [Nat.add_mul, Nat.mul_add, Nat.mul_comm, Nat.mul_left_comm, Nat.mul_one, Nat.one_mul]; omega
      omega
    omega
  have f1 : F a n = sumTo (fun k => sumTo (fun j => if n * j ≤ a * k then 1 else 0) (a / 2)) (n / 2) := by
    unfold F
    exact sumTo_congr fun k h1 h2 => (floor_count (by omega) _ (bound hn ha h2)).symm
  have f2 : F n a = sumTo (fun k => sumTo (fun j => if a * k ≤ n * j then 1 else 0) (a / 2)) (n / 2) := by
    rw [sumTo_swap]
    unfold F
    exact sumTo_congr fun k h1 h2 => (floor_count (by omega) _ (bound ha hn h2)).symm
  rw [f1, f2, ← sumTo_add, sumTo_congr (g := fun _ => a / 2) (fun k h1 h2 => ?_), sumTo_const]
  rw [← sumTo_add, sumTo_congr (g := fun _ => 1) (fun j j1 j2 => ?_), sumTo_const, Nat.one_mul]
  have : n * j ≠ a * k := fun e => by
    have hd : n ∣ a * k := ⟨j, e.symm⟩
    have := Nat.Coprime.dvd_of_dvd_mul_left hco.symm hd
    have := Nat.le_of_dvd (by omega) this
    omega
  split <;> split <;> omega

/-- The law of quadratic reciprocity. -/
theorem G_swap {a n : Nat} (hn : n % 2 = 1) (ha : a % 2 = 1) (hco : Nat.Coprime a n) : G a n % 2 = (G n a + if a % 4 = 3 ∧ n % 4 = 3 then 1 else 0) % 2 := by
  have h1 := G_odd hn hco ha
  have h2 := G_odd ha hco.symm hn
  have h3 := F_add hn ha hco
  have h4 : (a / 2) * (n / 2) % 2 = if a % 4 = 3 ∧ n % 4 = 3 then 1 else 0 := by
    rw [Nat.mul_mod]
    have ea : a / 2 % 2 = if a % 4 = 3 then 1 else 0 := by split <;> omega
    have en : n / 2 % 2 = if n % 4 = 3 then 1 else 0 := by split <;> omega
    rw [ea, en]
    by_cases x1 : a % 4 = 3 <;> by_cases x2 : n % 4 = 3 <;> simp [x1, x2]
  rw [← h4, ← h3]; omega

end Go.NT
namespace Go.NT

set_option maxRecDepth 100000 in
theorem primeP : IsPrime 2147483579 := prime_of_noDiv (k := 46340) (by decide) (by decide +kernel) (by decide)
set_option maxRecDepth 100000 in
theorem primeQ : IsPrime 1073741789 := prime_of_noDiv (k := 32767) (by decide) (by decide +kernel) (by decide)

/-! ### Powers modulo m -/
theorem mul_mod_congr {a a' b b' m : Int} (ha : a % m = a' % m) (hb : b % m = b' % m) : a * b % m = a' * b' % m := by
  rw [Int.mul_emod, ha, hb, ← Int.mul_emod]
theorem pow_mod (a m : Int) : ∀ n : Nat, (a % m) ^ n % m = a ^ n % m
  | 0 => by simp
  | n + 1 => by rw [Int.pow_succ, Int.pow_succ]; exact mul_mod_congr (pow_mod a m n) (by simp)
theorem pow_mod_congr {a b m : Int} (h : a % m = b % m) (n : Nat) : a ^ n % m = b ^ n % m := by rw [← pow_mod a, h, pow_mod]

theorem int_prime_mul {p : Nat} (hp : IsPrime p) {x y : Int} (h : (p : Int) ∣ x * y) : (p : Int) ∣ x ∨ (p : Int) ∣ y := by
  have h' : p ∣ x.natAbs * y.natAbs := by
    have := Int.natAbs_dvd_natAbs.2 h
    rwa [Int.natAbs_mul, Int.natAbs_natCast] at this
  rcases prime_mul hp h' with h | h
  · exact .inl (Int.dvd_natAbs.1 (Int.natCast_dvd_natCast.2 h))
  · exact .inr (Int.dvd_natAbs.1 (Int.natCast_dvd_natCast.2 h))

def prodTo (f : Nat → Int) (h : Nat) : Int := bigTo (· * ·) 1 f h
theorem prodTo_succ (f : Nat → Int) (h : Nat) : prodTo f (h + 1) = prodTo f h * f (h + 1) := rfl
theorem prodTo_mul (f g : Nat → Int) : ∀ h, prodTo (fun k => f k * g k) h = prodTo f h * prodTo g h
  | 0 => rfl
  | h + 1 => by simp only [prodTo_succ, prodTo_mul f g h, Int.mul_assoc, Int.mul_comm, Int.mul_left_comm]
theorem prodTo_const (c : Int) : ∀ h, prodTo (fun _ => c) h = c ^ h
  | 0 => by simp [prodTo, bigTo]
  | h + 1 => by rw [prodTo_succ, prodTo_const c h, Int.pow_succ]
theorem dvd_mul_sub {p a b c d : Int} (h1 : p ∣ a - b) (h2 : p ∣ c - d) : p ∣ a * c - b * d := by
  have : a * c - b * d = (a - b) * c + b * (c - d) := by rw [Int.sub_mul, Int.mul_sub]; omega
  rw [this]
  exact Int.dvd_add (Int.dvd_mul_of_dvd_left h1) (Int.dvd_mul_of_dvd_right h2)
theorem prodTo_dvd {p : Int} {f g : Nat → Int} : ∀ h, (∀ k, 1 ≤ k → k ≤ h → p ∣ f k - g k) → p ∣ prodTo f h - prodTo g h
  | 0, _ => by simp [prodTo, bigTo]
  | h + 1, hh => by
    rw [prodTo_succ, prodTo_succ]
    exact dvd_mul_sub (prodTo_dvd h fun k a b => hh k a (by omega)) (hh (h + 1) (by omega) (by omega))
theorem prodTo_sign (s : Nat → Bool) : ∀ h, prodTo (fun k => if s k then -1 else 1) h = (-1) ^ sumTo (fun k => if s k then 1 else 0) h
  | 0 => rfl
  | h + 1 => by
    rw [prodTo_succ, sumTo_succ, prodTo_sign s h, Int.pow_add]
    cases s (h + 1) <;> simp
theorem fact_coprime {p : Nat} (hp : IsPrime p) : ∀ h, h < p → ¬ (p : Int) ∣ prodTo (fun k => (k : Int)) h
  | 0, _ => by
    intro hd
    have h1 : (p : Int) ∣ 1 := hd
    have := Int.le_of_dvd (by decide) h1
    have := hp.1; omega
  | h + 1, hh => by
    intro hd
    rw [prodTo_succ] at hd
    rcases int_prime_mul hp hd with h1 | h1
    · exact fact_coprime hp h (by omega) h1
    · have := Int.le_of_dvd (by omega) h1; omega

theorem gauss {p a : Nat} (hp : IsPrime p) (hodd : p % 2 = 1) (ha : ¬ p ∣ a) : (p : Int) ∣ (a : Int) ^ (p / 2) - (-1) ^ G a p := by
  have hco := coprime_of_prime hp ha
  let s : Nat → Bool := fun k => decide (a * k % p > p / 2)
  have h1 : (p : Int) ∣ prodTo (fun k => (a : Int) * k) (p / 2) - prodTo (fun k => (if s k then -1 else 1) * (lst a p k : Int)) (p / 2) := by
    refine prodTo_dvd _ fun k k1 k2 => ?_
    have e := Nat.div_add_mod (a * k) p
    have l := Nat.mod_lt (a * k) (by omega : p > 0)
    have e' : (a : Int) * k = p * (a * k / p : Nat) + (a * k % p : Nat) := by rw [← Int.natCast_mul, ← Int.natCast_mul, ← Int.natCast_add, e]
    rw [e']
    by_cases hs : a * k % p > p / 2
    · have hl : lst a p k = p - a * k % p := by unfold lst; rw [if_pos hs]
      simp only [s, hs, decide_true, if_true, hl]
      refine ⟨(a * k / p : Nat) + 1, ?_⟩
      rw [Int.mul_add]; omega
    · have hl : lst a p k = a * k % p := by unfold lst; rw [if_neg hs]
      simp only [s, hs, decide_false, hl]
      refine ⟨(a * k / p : Nat), ?_⟩
      simp
  rw [prodTo_mul, prodTo_mul, prodTo_const, prodTo_sign] at h1
  have h2 : prodTo (fun k => (lst a p k : Int)) (p / 2) = prodTo (fun k => (k : Int)) (p / 2) :=
    bigTo_perm (f := fun k => (k : Int)) Int.mul_comm Int.mul_assoc (p / 2) (lst a p) (fun k h1 h2 => lst_range hodd hco h1 h2) (fun j k => lst_inj hodd hco)
  rw [h2, ← Int.sub_mul] at h1
  have h3 : sumTo (fun k => if s k then 1 else 0) (p / 2) = G a p := by
    unfold G
    exact sumTo_congr fun k _ _ => by simp [s]
  rw [h3] at h1
  rcases int_prime_mul hp h1 with h | h
  · exact h
  · exact (fact_coprime hp _ (by omega) h).elim

theorem neg_one_pow (k : Nat) : (-1 : Int) ^ k = if k % 2 = 0 then 1 else -1 := by
  induction k with
  | zero => rfl
  | succ k ih => rw [Int.pow_succ, ih]; split <;> split <;> omega

/-! ### The group -/
def validS (x : Int) : Bool := decide (1 ≤ x ∧ x < 2147483579 ∧ x ^ 1073741789 % 2147483579 = 1)

theorem euler {x : Nat} (h1 : 1 ≤ x) (h2 : x < 2147483579) : (x : Int) ^ 1073741789 % 2147483579 = if G x 2147483579 % 2 = 0 then 1 else 2147483578 := by
  have h := gauss (p := 2147483579) (a := x) primeP (by decide) (fun hd => by have := Nat.le_of_dvd (by omega) hd; omega)
  rw [neg_one_pow] at h
  obtain ⟨q, hq⟩ := h
  have e : (2147483579 / 2 : Nat) = 1073741789 := by decide
  rw [e] at hq
  generalize (x : Int) ^ 1073741789 = y at *
  split at hq <;> rename_i hg
  · rw [if_pos hg]; omega
  · rw [if_neg hg]; omega

theorem validS_iff {x : Nat} (h1 : 1 ≤ x) (h2 : x < 2147483579) : validS x = decide (G x 2147483579 % 2 = 0) := by
  unfold validS
  rw [euler h1 h2]
  by_cases h : G x 2147483579 % 2 = 0 <;> simp [h] <;> omega

theorem euler_cases {x : Int} (h1 : 1 ≤ x) (h2 : x < 2147483579) : x ^ 1073741789 % 2147483579 = 1 ∨ x ^ 1073741789 % 2147483579 = 2147483578 := by
  obtain ⟨k, rfl⟩ := Int.eq_ofNat_of_zero_le (by omega : 0 ≤ x)
  rw [euler (by omega) (by omega)]
  split <;> simp

theorem validS_inv {x : Int} (h : validS x = true) : 1 ≤ x ∧ x < 2147483579 ∧ x ^ 1073741789 % 2147483579 = 1 := by simpa [validS] using h

/-- A number modulo P whose power to Q is 1. -/
theorem valid_of_pow {y : Int} (h : y ^ 1073741789 % 2147483579 = 1) : validS (y % 2147483579) = true := by
  have h1 : (y % 2147483579) ^ 1073741789 % 2147483579 = 1 := by rw [pow_mod]; exact h
  have h2 := Int.emod_nonneg y (by decide : (2147483579 : Int) ≠ 0)
  have h3 := Int.emod_lt_of_pos y (by decide : (0 : Int) < 2147483579)
  have h4 : y % 2147483579 ≠ 0 := fun e => by
    rw [e, Int.zero_pow (by decide)] at h1
    exact absurd h1 (by decide)
  simp only [validS, decide_eq_true_eq]
  exact ⟨by omega, h3, h1⟩

theorem valid_mul {a b : Int} (ha : validS a = true) (hb : validS b = true) : validS (a * b % 2147483579) = true := by
  refine valid_of_pow ?_
  rw [Int.mul_pow]
  have := mul_mod_congr (a' := 1) (b' := 1) (m := 2147483579) (by rw [(validS_inv ha).2.2]; rfl) (by rw [(validS_inv hb).2.2]; rfl)
  rw [this]; decide

theorem valid_pow {a : Int} (ha : validS a = true) (n : Nat) : validS (a ^ n % 2147483579) = true := by
  refine valid_of_pow ?_
  rw [← Int.pow_mul, Nat.mul_comm, Int.pow_mul, pow_mod_congr (b := 1) (by rw [(validS_inv ha).2.2]; rfl), Int.one_pow]
  decide

theorem valid_one : validS 1 = true := by
  simp only [validS, decide_eq_true_eq]
  exact ⟨by decide, by decide, by rw [Int.one_pow]; decide⟩

theorem pow_period {a : Int} (ha : validS a = true) (n : Nat) : a ^ (n % 1073741789) % 2147483579 = a ^ n % 2147483579 := by
  conv => rhs; rw [← Nat.div_add_mod n 1073741789, Int.pow_add, Int.pow_mul]
  have := mul_mod_congr (a := (a ^ 1073741789) ^ (n / 1073741789)) (a' := 1) (b := a ^ (n % 1073741789)) (b' := a ^ (n % 1073741789)) (m := 2147483579)
    (by rw [pow_mod_congr (b := 1) (by rw [(validS_inv ha).2.2]; rfl), Int.one_pow]) rfl
  rw [this]; simp

theorem valid_sq {x : Int} (h1 : 1 ≤ x) (h2 : x < 2147483579) : validS (x * x % 2147483579) = true := by
  refine valid_of_pow ?_
  rw [Int.mul_pow]
  rcases euler_cases h1 h2 with h | h
  · rw [mul_mod_congr (a' := 1) (b' := 1) (by rw [h]; rfl) (by rw [h]; rfl)]; decide
  · rw [mul_mod_congr (a' := 2147483578) (b' := 2147483578) (by rw [h]; rfl) (by rw [h]; rfl)]; decide

theorem neg_pow_odd (x : Int) (k : Nat) (h : k % 2 = 1) : (-x) ^ k = - (x ^ k) := by
  have : -x = (-1) * x := by omega
  rw [this, Int.mul_pow, neg_one_pow, if_neg (by omega)]; omega

theorem valid_neg {x : Int} (h1 : 1 ≤ x) (h2 : x < 2147483579) : validS (2147483579 - x) = !validS x := by
  have e : (2147483579 - x) ^ 1073741789 % 2147483579 = (- (x ^ 1073741789)) % 2147483579 := by
    rw [← neg_pow_odd _ _ (by decide)]
    exact pow_mod_congr (by omega) _
  have e2 : (- (x ^ 1073741789)) % 2147483579 = if x ^ 1073741789 % 2147483579 = 1 then 2147483578 else 1 := by
    rcases euler_cases h1 h2 with h | h
    · generalize x ^ 1073741789 = y at *; rw [if_pos h]; omega
    · generalize x ^ 1073741789 = y at *; rw [if_neg (by omega)]; omega
  unfold validS
  rw [e, e2]
  rcases euler_cases h1 h2 with h | h <;> rw [h] <;> simp <;> omega

end Go.NT
end
section
/- The walks of package group, first part: least, squares. -/
namespace Go.Sg
open Go.Rn Go.NT Go.Proofs

def ints (l : List Int) : List Value := l.map (Value.int .i64)
theorem ints_get {l : List Int} {i : Nat} (h : i < l.length) : (ints l)[i]? = some (.int .i64 l[i]) := by simp [ints, h]

theorem tmod_cases (n Q : Int) (hQ : 0 < Q) : (n.tmod Q = n % Q ∧ 0 ≤ n % Q ∧ n % Q < Q) ∨ (n.tmod Q = n % Q - Q ∧ 0 < n % Q ∧ n % Q < Q) := by
  have h2 := Int.emod_nonneg n (by omega : Q ≠ 0)
  have h3 := Int.emod_lt_of_pos n hQ
  rw [Int.tmod_eq_emod]
  by_cases h : 0 ≤ n ∨ Q ∣ n
  · rw [if_pos h]; left; omega
  · rw [if_neg h]
    have : n % Q ≠ 0 := fun e => h (.inr (Int.dvd_of_emod_eq_zero e))
    right; omega

/-- group.least: a product of numbers, modulo Q. -/
def leastS (l : List Int) : Int := l.foldl (fun n x => n * (x.tmod 1073741789 + 1073741789) % 1073741789) 1

theorem tmodQ (x : Int) : -1073741789 < x.tmod 1073741789 ∧ x.tmod 1073741789 < 1073741789 := by
  have h1 := Int.emod_nonneg x (by decide : (1073741789 : Int) ≠ 0)
  have h2 := Int.emod_lt_of_pos x (by decide : (0 : Int) < 1073741789)
  rw [Int.tmod_eq_emod]; split <;> simp <;> omega

theorem mulmod_bd {a b : Int} (ha : 0 ≤ a) (ha' : a < 2147483579) (hb : 0 ≤ b) (hb' : b < 2147483579) : 0 ≤ a * b ∧ a * b < 4611686018427387904 := by
  refine ⟨Int.mul_nonneg ha hb, ?_⟩
  have := Int.mul_le_mul (show a ≤ 2147483578 by omega) (show b ≤ 2147483578 by omega) hb (by decide)
  omega

theorem mulQ_bd {a b : Int} (ha : 0 ≤ a) (ha' : a < 1073741789) (hb : 0 ≤ b) (hb' : b < 2147483578) : 0 ≤ a * b ∧ a * b < 4611686018427387904 := by
  refine ⟨Int.mul_nonneg ha hb, ?_⟩
  have := Int.mul_le_mul (show a ≤ 2147483578 by omega) (show b ≤ 2147483578 by omega) hb (by decide)
  omega

theorem leastS_snoc (l : List Int) (x : Int) : leastS (l ++ [x]) = leastS l * (x.tmod 1073741789 + 1073741789) % 1073741789 := by simp [leastS]
theorem leastS_bd (l : List Int) : 0 ≤ leastS l ∧ leastS l < 1073741789 := by
  suffices h : ∀ m : List Int, 0 ≤ leastS m.reverse ∧ leastS m.reverse < 1073741789 by simpa using h l.reverse
  intro m
  induction m with
  | nil => decide
  | cons x m ih =>
    rw [List.reverse_cons, leastS_snoc]
    exact ⟨Int.emod_nonneg _ (by decide), Int.emod_lt_of_pos _ (by decide)⟩

theorem take_snoc {α : Type} (l : List α) (k : Nat) (h : k < l.length) : l.take (k + 1) = l.take k ++ [l[k]] := by
  rw [List.take_succ_eq_append_getElem h]

theorem least_ok (l : List Int) (b o cap : Nat) (w : World) (hr : Row w b o (ints l)) (hl : l.length < 9223372036854775807) :
    Rets Tryd.prog 59 [.slice (some ⟨b, o, none⟩) l.length cap] w fun v w' => v = .int .i64 (leastS l) ∧ w = w' := by
  refine RetsX.of (nt := 20) Tryd.func59 (by kernel_rfl) rfl rfl (by simp) (by simp only [argEnv]; rfl) ?_
  repeat (first | refine RunL.pureI Tryd.tOk rfl rfl rfl (by (first | exact wr_i64 (by omega) (by omega) | exact wm_i64 (by omega) | exact wq_i64 (by omega) (by omega) (by omega) | rfl)) ?_ | refine RunL.pure Tryd.tOk rfl rfl rfl ?_ | refine RunL.unwantedD rfl rfl ?_ | refine RunE.seq ?_ | refine RunE.region ?_ | refine RunL.nil ?_ | refine RunE.block ?_ | refine RunE.inBlock ?_ | refine RunE.skip ?_ | refine RunE.exit rfl ?_ | refine RunE.scope ?_ | refine RunE.inScope ?_ | refine RunE.label ?_)
  refine RunE.loop (ι := Nat) (fun j => [(3, .int .i64 (leastS (l.take j))), (6, .slice (some ⟨b, o, none⟩) l.length cap), (7, .int .i64 l.length), (8, .int .i64 (j : Int))])
    (fun j w' => w' = w ∧ j ≤ l.length) (fun j => l.length - j) 0 (by repeat (first | exact Sub.nil _ | refine Sub.cons rfl ?_)) ⟨rfl, by omega⟩ ?_
  rintro j w' ⟨rfl, hj⟩ IH
  repeat (first | refine RunL.pureI Tryd.tOk rfl rfl rfl (by (first | exact wr_i64 (by omega) (by omega) | exact wm_i64 (by omega) | exact wq_i64 (by omega) (by omega) (by omega) | rfl)) ?_ | refine RunL.pure Tryd.tOk rfl rfl rfl ?_ | refine RunL.unwantedD rfl rfl ?_ | refine RunE.seq ?_ | refine RunE.region ?_ | refine RunL.nil ?_ | refine RunE.block ?_ | refine RunE.inBlock ?_ | refine RunE.skip ?_ | refine RunE.exit rfl ?_ | refine RunE.scope ?_ | refine RunE.inScope ?_ | refine RunE.label ?_)
  refine RunE.cond rfl (fun h => ?_) (fun h => ?_) <;> (first | replace h := of_decide_eq_true h | replace h := of_decide_eq_false h | replace h := beq_iff_eq.1 h | replace h := beq_eq_false_iff_ne.1 h | replace h := bne_iff_ne.1 h | replace h := bne_eq_false_iff_eq.1 h | skip)
  · have hj' : j < l.length := by omega
    have h1 := leastS_bd (l.take j)
    have h2 := tmodQ l[j]
    have h3 := mulQ_bd h1.1 h1.2 (by omega : 0 ≤ l[j].tmod 1073741789 + 1073741789) (by omega)
    have hsn := leastS_snoc (l.take j) l[j]
    rw [← take_snoc l j hj'] at hsn
    repeat (first | refine RunL.pureI Tryd.tOk rfl rfl rfl (by (first | exact wr_i64 (by omega) (by omega) | exact wm_i64 (by omega) | exact wq_i64 (by omega) (by omega) (by omega) | rfl)) ?_ | refine RunL.pure Tryd.tOk rfl rfl rfl ?_ | refine RunL.unwantedD rfl rfl ?_ | refine RunE.seq ?_ | refine RunE.region ?_ | refine RunL.nil ?_ | refine RunE.block ?_ | refine RunE.inBlock ?_ | refine RunE.skip ?_ | refine RunE.exit rfl ?_ | refine RunE.scope ?_ | refine RunE.inScope ?_ | refine RunE.label ?_)
    refine RunL.indexAddr1 Tryd.tOk j rfl rfl rfl rfl rfl rfl hj' ?_
    refine RunL.load rfl rfl rfl (Loads.scalar Tryd.tOk rfl rfl (hr j _ (ints_get hj'))) ?_
    repeat (first | refine RunL.pureI Tryd.tOk rfl rfl rfl (by (first | exact wr_i64 (by omega) (by omega) | exact wm_i64 (by omega) | exact wq_i64 (by omega) (by omega) (by omega) | rfl)) ?_ | refine RunL.pure Tryd.tOk rfl rfl rfl ?_ | refine RunL.unwantedD rfl rfl ?_ | refine RunE.seq ?_ | refine RunE.region ?_ | refine RunL.nil ?_ | refine RunE.block ?_ | refine RunE.inBlock ?_ | refine RunE.skip ?_ | refine RunE.exit rfl ?_ | refine RunE.scope ?_ | refine RunE.inScope ?_ | refine RunE.label ?_)
    refine RunE.weaken (.cons ?_ (by repeat (first | exact Sub.nil _ | refine Sub.cons rfl ?_))) (IH (j + 1) _ (by omega) ⟨rfl, by omega⟩)
    rw [hsn]; rfl
  · repeat (first | refine RunL.pureI Tryd.tOk rfl rfl rfl (by (first | exact wr_i64 (by omega) (by omega) | exact wm_i64 (by omega) | exact wq_i64 (by omega) (by omega) (by omega) | rfl)) ?_ | refine RunL.pure Tryd.tOk rfl rfl rfl ?_ | refine RunL.unwantedD rfl rfl ?_ | refine RunE.seq ?_ | refine RunE.region ?_ | refine RunL.nil ?_ | refine RunE.block ?_ | refine RunE.inBlock ?_ | refine RunE.skip ?_ | refine RunE.exit rfl ?_ | refine RunE.scope ?_ | refine RunE.inScope ?_ | refine RunE.label ?_)
    refine RunE.retFn Tryd.func59 (.tmp rfl .nil) ⟨?_, rfl⟩
    simp only [oneOr]
    rw [List.take_of_length_le (by omega)]

theorem and1 {m : Int} (h : 0 ≤ m) (h' : m < 9223372036854775808) : IntKind.i64.wrap ((BitVec.ofInt IntKind.i64.bits m &&& BitVec.ofInt IntKind.i64.bits 1).toNat : Int) = m % 2 := by
  obtain ⟨k, rfl⟩ := Int.eq_ofNat_of_zero_le h
  have e : (BitVec.ofInt IntKind.i64.bits (k : Int) &&& BitVec.ofInt IntKind.i64.bits 1).toNat = k % 2 := by
    rw [BitVec.toNat_and]
    have h1 : (BitVec.ofInt IntKind.i64.bits (k : Int)).toNat = k := by
      simp only [IntKind.bits, BitVec.toNat_ofInt]; omega
    have h2 : (BitVec.ofInt IntKind.i64.bits 1).toNat = 1 := by decide
    rw [h1, h2, Nat.and_one_is_mod]
  rw [e, wr_i64 (by omega) (by omega)]
  omega
theorem shr1 {m : Int} : m.fdiv (2 ^ (min 1 IntKind.i64.bits)) = m / 2 := by
  have : (2 : Int) ^ (min 1 IntKind.i64.bits) = 2 := by decide
  rw [this, Int.fdiv_eq_ediv_of_nonneg _ (by decide)]

/-- The iterator of group.squares: it calls yield on (x, is m odd), while m is positive; then the square, and the half. -/
theorem squares1_ok (ba bn : Nat) (y : Value) (J : Int → Int → World → Prop) (hne : ba ≠ bn)
    (hstab : ∀ x m w w', J x m w → ExtB (fun k => k = ba ∨ k = bn) w w' → J x m w')
    (hy : ∀ x m w, J x m w → 0 ≤ x → x < 2147483579 → 0 < m → m < 9223372036854775808 → Blk w ba [.int .i64 x] 3 → Blk w bn [.int .i64 m] 3 →
      FnV Tryd.prog y [.int .i64 x, .bool (m % 2 == 1)] w (fun v w' => v = .bool true ∧ J (x * x % 2147483579) (m / 2) w' ∧ Blk w' ba [.int .i64 x] 3 ∧ Blk w' bn [.int .i64 m] 3) (fun _ _ => False))
    (a n : Int) (w : World) (ha : 0 ≤ a) (ha' : a < 2147483579) (hn : 0 ≤ n) (hn' : n < 9223372036854775808) (hA : Blk w ba [.int .i64 a] 3) (hN : Blk w bn [.int .i64 n] 3) (hJ : J a n w) :
    Rets Tryd.prog 92 [y, .pointer (some ⟨bn, 0, none⟩), .pointer (some ⟨ba, 0, none⟩)] w fun _ w' => ∃ x, J x 0 w' := by
  refine RetsX.of (nt := 19) Tryd.func92 (by kernel_rfl) rfl rfl (by simp) (by simp only [argEnv]; rfl) ?_
  repeat (first | refine RunL.pureI Tryd.tOk rfl rfl rfl (by (first | exact wr_i64 (by omega) (by omega) | exact wm_i64 (by omega) | exact wq_i64 (by omega) (by omega) (by omega) | rfl)) ?_ | refine RunL.pure Tryd.tOk rfl rfl rfl ?_ | refine RunL.unwantedD rfl rfl ?_ | refine RunE.seq ?_ | refine RunE.region ?_ | refine RunL.nil ?_ | refine RunE.block ?_ | refine RunE.inBlock ?_ | refine RunE.skip ?_ | refine RunE.exit rfl ?_ | refine RunE.scope ?_ | refine RunE.inScope ?_ | refine RunE.label ?_)
  refine RunE.loop (ι := Int × Int) (fun _ => [(0, y), (1, .pointer (some ⟨bn, 0, none⟩)), (2, .pointer (some ⟨ba, 0, none⟩))])
    (fun s w => 0 ≤ s.1 ∧ s.1 < 2147483579 ∧ 0 ≤ s.2 ∧ s.2 < 9223372036854775808 ∧ Blk w ba [.int .i64 s.1] 3 ∧ Blk w bn [.int .i64 s.2] 3 ∧ J s.1 s.2 w) (fun s => s.2.toNat) (a, n) (by repeat (first | exact Sub.nil _ | refine Sub.cons rfl ?_)) ⟨ha, ha', hn, hn', hA, hN, hJ⟩ ?_
  rintro ⟨x, m⟩ w ⟨hx, hx', hm, hm', hA, hN, hJ⟩ IH
  simp only at hx hx' hm hm' hA hN hJ
  repeat (first | refine RunL.pureI Tryd.tOk rfl rfl rfl (by (first | exact wr_i64 (by omega) (by omega) | exact wm_i64 (by omega) | exact wq_i64 (by omega) (by omega) (by omega) | rfl)) ?_ | refine RunL.pure Tryd.tOk rfl rfl rfl ?_ | refine RunL.unwantedD rfl rfl ?_ | refine RunE.seq ?_ | refine RunE.region ?_ | refine RunL.nil ?_ | refine RunE.block ?_ | refine RunE.inBlock ?_ | refine RunE.skip ?_ | refine RunE.exit rfl ?_ | refine RunE.scope ?_ | refine RunE.inScope ?_ | refine RunE.label ?_)
  refine RunL.load rfl rfl rfl (Loads.scalar Tryd.tOk rfl rfl (hN.cell rfl)) ?_
  repeat (first | refine RunL.pureI Tryd.tOk rfl rfl rfl (by (first | exact wr_i64 (by omega) (by omega) | exact wm_i64 (by omega) | exact wq_i64 (by omega) (by omega) (by omega) | rfl)) ?_ | refine RunL.pure Tryd.tOk rfl rfl rfl ?_ | refine RunL.unwantedD rfl rfl ?_ | refine RunE.seq ?_ | refine RunE.region ?_ | refine RunL.nil ?_ | refine RunE.block ?_ | refine RunE.inBlock ?_ | refine RunE.skip ?_ | refine RunE.exit rfl ?_ | refine RunE.scope ?_ | refine RunE.inScope ?_ | refine RunE.label ?_)
  refine RunE.cond rfl (fun h => ?_) (fun h => ?_) <;> (first | replace h := of_decide_eq_true h | replace h := of_decide_eq_false h | replace h := beq_iff_eq.1 h | replace h := beq_eq_false_iff_ne.1 h | replace h := bne_iff_ne.1 h | replace h := bne_eq_false_iff_eq.1 h | skip)
  · have hb := mulmod_bd hx hx' hx hx'
    repeat (first | refine RunL.pureI Tryd.tOk rfl rfl rfl (by (first | exact wr_i64 (by omega) (by omega) | exact wm_i64 (by omega) | exact wq_i64 (by omega) (by omega) (by omega) | rfl)) ?_ | refine RunL.pure Tryd.tOk rfl rfl rfl ?_ | refine RunL.unwantedD rfl rfl ?_ | refine RunE.seq ?_ | refine RunE.region ?_ | refine RunL.nil ?_ | refine RunE.block ?_ | refine RunE.inBlock ?_ | refine RunE.skip ?_ | refine RunE.exit rfl ?_ | refine RunE.scope ?_ | refine RunE.inScope ?_ | refine RunE.label ?_)
    refine RunL.load rfl rfl rfl (Loads.scalar Tryd.tOk rfl rfl (hA.cell rfl)) ?_
    refine RunL.load rfl rfl rfl (Loads.scalar Tryd.tOk rfl rfl (hN.cell rfl)) ?_
    refine RunL.pureI Tryd.tOk rfl rfl rfl (and1 hm hm') ?_
    repeat (first | refine RunL.pureI Tryd.tOk rfl rfl rfl (by (first | exact wr_i64 (by omega) (by omega) | exact wm_i64 (by omega) | exact wq_i64 (by omega) (by omega) (by omega) | rfl)) ?_ | refine RunL.pure Tryd.tOk rfl rfl rfl ?_ | refine RunL.unwantedD rfl rfl ?_ | refine RunE.seq ?_ | refine RunE.region ?_ | refine RunL.nil ?_ | refine RunE.block ?_ | refine RunE.inBlock ?_ | refine RunE.skip ?_ | refine RunE.exit rfl ?_ | refine RunE.scope ?_ | refine RunE.inScope ?_ | refine RunE.label ?_)
    refine RunL.callV rfl rfl rfl rfl (hy x m w hJ hx hx' h hm' hA hN) (fun _ _ _ h => h.elim) ?_
    rintro v w1 ⟨rfl, hJ1, hA1, hN1⟩
    repeat (first | refine RunL.pureI Tryd.tOk rfl rfl rfl (by (first | exact wr_i64 (by omega) (by omega) | exact wm_i64 (by omega) | exact wq_i64 (by omega) (by omega) (by omega) | rfl)) ?_ | refine RunL.pure Tryd.tOk rfl rfl rfl ?_ | refine RunL.unwantedD rfl rfl ?_ | refine RunE.seq ?_ | refine RunE.region ?_ | refine RunL.nil ?_ | refine RunE.block ?_ | refine RunE.inBlock ?_ | refine RunE.skip ?_ | refine RunE.exit rfl ?_ | refine RunE.scope ?_ | refine RunE.inScope ?_ | refine RunE.label ?_)
    refine RunE.condF rfl rfl ?_
    repeat (first | refine RunL.pureI Tryd.tOk rfl rfl rfl (by (first | exact wr_i64 (by omega) (by omega) | exact wm_i64 (by omega) | exact wq_i64 (by omega) (by omega) (by omega) | rfl)) ?_ | refine RunL.pure Tryd.tOk rfl rfl rfl ?_ | refine RunL.unwantedD rfl rfl ?_ | refine RunE.seq ?_ | refine RunE.region ?_ | refine RunL.nil ?_ | refine RunE.block ?_ | refine RunE.inBlock ?_ | refine RunE.skip ?_ | refine RunE.exit rfl ?_ | refine RunE.scope ?_ | refine RunE.inScope ?_ | refine RunE.label ?_)
    refine RunL.load rfl rfl rfl (Loads.scalar Tryd.tOk rfl rfl (hA1.cell rfl)) ?_
    refine RunL.load rfl rfl rfl (Loads.scalar Tryd.tOk rfl rfl (hA1.cell rfl)) ?_
    repeat (first | refine RunL.pureI Tryd.tOk rfl rfl rfl (by (first | exact wr_i64 (by omega) (by omega) | exact wm_i64 (by omega) | exact wq_i64 (by omega) (by omega) (by omega) | rfl)) ?_ | refine RunL.pure Tryd.tOk rfl rfl rfl ?_ | refine RunL.unwantedD rfl rfl ?_ | refine RunE.seq ?_ | refine RunE.region ?_ | refine RunL.nil ?_ | refine RunE.block ?_ | refine RunE.inBlock ?_ | refine RunE.skip ?_ | refine RunE.exit rfl ?_ | refine RunE.scope ?_ | refine RunE.inScope ?_ | refine RunE.label ?_)
    refine RunL.store Tryd.tOk rfl rfl rfl rfl rfl hA1 rfl rfl ?_
    intro w2 hT
    have hA2 : Blk w2 ba [.int .i64 (x * x % 2147483579)] 3 := hT.at_
    have hN2 := hN1.ext hT.ext (fun e => hne e.symm)
    have hJ2 := hstab _ _ _ _ hJ1 (hT.ext.mono fun k _ e => .inl e)
    repeat (first | refine RunL.pureI Tryd.tOk rfl rfl rfl (by (first | exact wr_i64 (by omega) (by omega) | exact wm_i64 (by omega) | exact wq_i64 (by omega) (by omega) (by omega) | rfl)) ?_ | refine RunL.pure Tryd.tOk rfl rfl rfl ?_ | refine RunL.unwantedD rfl rfl ?_ | refine RunE.seq ?_ | refine RunE.region ?_ | refine RunL.nil ?_ | refine RunE.block ?_ | refine RunE.inBlock ?_ | refine RunE.skip ?_ | refine RunE.exit rfl ?_ | refine RunE.scope ?_ | refine RunE.inScope ?_ | refine RunE.label ?_)
    refine RunL.load rfl rfl rfl (Loads.scalar Tryd.tOk rfl rfl (hN2.cell rfl)) ?_
    refine RunL.pureI Tryd.tOk rfl rfl rfl shr1 ?_
    refine RunL.store Tryd.tOk rfl rfl rfl rfl rfl hN2 rfl rfl ?_
    intro w3 hT3
    have hA3 := hA2.ext hT3.ext hne
    have hN3 : Blk w3 bn [.int .i64 (m / 2)] 3 := hT3.at_
    have hJ3 := hstab _ _ _ _ hJ2 (hT3.ext.mono fun k _ e => .inr e)
    repeat (first | refine RunL.pureI Tryd.tOk rfl rfl rfl (by (first | exact wr_i64 (by omega) (by omega) | exact wm_i64 (by omega) | exact wq_i64 (by omega) (by omega) (by omega) | rfl)) ?_ | refine RunL.pure Tryd.tOk rfl rfl rfl ?_ | refine RunL.unwantedD rfl rfl ?_ | refine RunE.seq ?_ | refine RunE.region ?_ | refine RunL.nil ?_ | refine RunE.block ?_ | refine RunE.inBlock ?_ | refine RunE.skip ?_ | refine RunE.exit rfl ?_ | refine RunE.scope ?_ | refine RunE.inScope ?_ | refine RunE.label ?_)
    exact RunE.weaken (by repeat (first | exact Sub.nil _ | refine Sub.cons rfl ?_)) (IH (x * x % 2147483579, m / 2) _ (by simp only; omega) ⟨by simp only; omega, by simp only; omega, by simp only; omega, by simp only; omega, hA3, hN3, hJ3⟩)
  · repeat (first | refine RunL.pureI Tryd.tOk rfl rfl rfl (by (first | exact wr_i64 (by omega) (by omega) | exact wm_i64 (by omega) | exact wq_i64 (by omega) (by omega) (by omega) | rfl)) ?_ | refine RunL.pure Tryd.tOk rfl rfl rfl ?_ | refine RunL.unwantedD rfl rfl ?_ | refine RunE.seq ?_ | refine RunE.region ?_ | refine RunL.nil ?_ | refine RunE.block ?_ | refine RunE.inBlock ?_ | refine RunE.skip ?_ | refine RunE.exit rfl ?_ | refine RunE.scope ?_ | refine RunE.inScope ?_ | refine RunE.label ?_)
    refine RunE.fallFn Tryd.func92 .nil ⟨x, ?_⟩
    obtain rfl : m = 0 := by omega
    exact hJ

theorem squares_ok (a n : Int) (w : World) : Rets Tryd.prog 58 [.int .i64 a, .int .i64 n] w fun v w' =>
    v = .func (.func 92) #[] #[.pointer (some ⟨w.heap.size + 1, 0, none⟩), .pointer (some ⟨w.heap.size, 0, none⟩)] ∧ Blk w' w.heap.size [.int .i64 a] 3 ∧ Blk w' (w.heap.size + 1) [.int .i64 n] 3 ∧ Ext w w' ∧ w'.heap.size = w.heap.size + 2 := by
  refine RetsX.of (nt := 6) Tryd.func58 (by kernel_rfl) rfl rfl (by simp) (by simp only [argEnv]; rfl) ?_
  repeat (first | refine RunL.pureI Tryd.tOk rfl rfl rfl (by (first | exact wr_i64 (by omega) (by omega) | exact wm_i64 (by omega) | exact wq_i64 (by omega) (by omega) (by omega) | rfl)) ?_ | refine RunL.pure Tryd.tOk rfl rfl rfl ?_ | refine RunL.unwantedD rfl rfl ?_ | refine RunE.seq ?_ | refine RunE.region ?_ | refine RunL.nil ?_ | refine RunE.block ?_ | refine RunE.inBlock ?_ | refine RunE.skip ?_ | refine RunE.exit rfl ?_ | refine RunE.scope ?_ | refine RunE.inScope ?_ | refine RunE.label ?_)
  refine RunL.box rfl rfl rfl fun B w1 h1 => ?_
  refine RunL.box rfl rfl rfl fun B2 w2 h2 => ?_
  repeat (first | refine RunL.pureI Tryd.tOk rfl rfl rfl (by (first | exact wr_i64 (by omega) (by omega) | exact wm_i64 (by omega) | exact wq_i64 (by omega) (by omega) (by omega) | rfl)) ?_ | refine RunL.pure Tryd.tOk rfl rfl rfl ?_ | refine RunL.unwantedD rfl rfl ?_ | refine RunE.seq ?_ | refine RunE.region ?_ | refine RunL.nil ?_ | refine RunE.block ?_ | refine RunE.inBlock ?_ | refine RunE.skip ?_ | refine RunE.exit rfl ?_ | refine RunE.scope ?_ | refine RunE.inScope ?_ | refine RunE.label ?_)
  refine RunE.retFn Tryd.func58 (.tmp rfl .nil) ?_
  have e1 := h1.eq
  have e2 := h2.eq
  have s1 := h1.size
  have s2 := h2.size
  obtain rfl : B = w.heap.size := e1
  obtain rfl : B2 = w.heap.size + 1 := by omega
  refine ⟨rfl, ?_, ?_, h1.ext.trans h2.ext, by omega⟩
  · exact Blk.ext (show Blk w1 _ [.int .i64 a] 3 from h1.at_) h2.ext id
  · exact h2.at_

theorem least1 (n : Int) : leastS [n] = n % 1073741789 := by
  simp only [leastS, List.foldl]
  rcases tmod_cases n 1073741789 (by decide) with ⟨h1, h2, h3⟩ | ⟨h1, h2, h3⟩ <;> omega


end Go.Sg
end
section
/- The walk of group.Valid. -/
namespace Go.Sg
open Go.Rn Go.NT Go.Proofs
theorem coprime_mod {x n : Nat} (h : Nat.Coprime x n) : Nat.Coprime (n % x) x := by
  have : Nat.gcd (n % x) x = 1 := by rw [← Nat.gcd_rec]; exact h
  exact this

/-- What stays the same while group.Valid reduces: the sign of the symbol. -/
def VInv (x0 : Nat) (s : Nat × Nat × Bool) : Prop :=
  1 ≤ s.1 ∧ s.1 < 2147483579 ∧ s.2.1 ≤ 2147483579 ∧ 1 ≤ s.2.1 ∧ s.2.1 % 2 = 1 ∧ Nat.Coprime s.1 s.2.1 ∧ G x0 2147483579 % 2 = (G s.1 s.2.1 + if s.2.2 then 0 else 1) % 2

theorem VInv.half {x0 x n : Nat} {sq : Bool} (h : VInv x0 (x, n, sq)) (hx : x % 2 = 0) : VInv x0 (x / 2, n, if n % 8 = 3 ∨ n % 8 = 5 then !sq else sq) := by
  obtain ⟨h1, h2, h3, h4, h5, h6, h7⟩ := h
  simp only at h1 h2 h3 h4 h5 h6 h7
  have hc : Nat.Coprime (x / 2) n := Nat.Coprime.coprime_dvd_left ⟨2, by omega⟩ h6
  have h2c : Nat.Coprime 2 n := Nat.Coprime.coprime_dvd_left ⟨x / 2, by omega⟩ h6
  refine ⟨by simp only; omega, by simp only; omega, h3, h4, h5, hc, ?_⟩
  have e : x = 2 * (x / 2) := by omega
  rw [h7]
  conv => lhs; rw [e]
  have hm := G_mul h5 h2c hc
  have ht := G_two h5
  simp only
  by_cases h8 : n % 8 = 3 ∨ n % 8 = 5
  · rw [if_pos h8] at ht ⊢
    cases sq <;> simp <;> omega
  · rw [if_neg h8] at ht ⊢
    cases sq <;> simp <;> omega

theorem VInv.swap {x0 x n : Nat} {sq : Bool} (h : VInv x0 (x, n, sq)) (hx : x % 2 = 1) (h1x : x ≠ 1) : VInv x0 (n % x, x, if x % 4 = 3 ∧ n % 4 = 3 then !sq else sq) := by
  obtain ⟨h1, h2, h3, h4, h5, h6, h7⟩ := h
  simp only at h1 h2 h3 h4 h5 h6 h7
  have hc := coprime_mod h6
  have hp : n % x ≠ 0 := fun e => by rw [e] at hc; simp [Nat.Coprime] at hc; omega
  have hl := Nat.mod_lt n (by omega : x > 0)
  refine ⟨by simp only; omega, by simp only; omega, by simp only; omega, h1, hx, hc, ?_⟩
  have hs := G_swap h5 hx h6
  rw [h7]
  simp only
  rw [G_mod]
  by_cases h8 : x % 4 = 3 ∧ n % 4 = 3
  · rw [if_pos h8] at hs ⊢
    cases sq <;> simp <;> omega
  · rw [if_neg h8] at hs ⊢
    cases sq <;> simp <;> omega

theorem VInv.done {x0 n : Nat} {sq : Bool} (h1 : 1 ≤ x0) (h2 : x0 < 2147483579) (h : VInv x0 (1, n, sq)) : validS x0 = sq := by
  have h7 := h.2.2.2.2.2.2
  rw [validS_iff h1 h2, h7]
  simp only [G_one]
  cases sq <;> simp

theorem VInv.start {x0 : Nat} (h1 : 1 ≤ x0) (h2 : x0 < 2147483579) : VInv x0 (x0, 2147483579, true) := by
  unfold VInv
  simp only
  have hg : ∀ g : Nat, g % 2 = (g + if true = true then 0 else 1) % 2 := fun g => by simp
  refine ⟨h1, h2, Nat.le_refl _, by decide, by decide, coprime_of_prime primeP (fun hd => ?_), hg _⟩
  have := Nat.le_of_dvd (by omega) hd; omega

def vEnv (s : Nat × Nat × Bool) : Env := [(0, .int .i64 (s.1 : Int)), (3, .int .i64 (s.2.1 : Int)), (4, .bool s.2.2)]

theorem valid_ok (x : Int) (w : World) : Rets Tryd.prog 28 [.int .i64 x] w fun v w' => v = .bool (validS x) ∧ w = w' := by
  refine RetsX.of (nt := 45) Tryd.func28 (by kernel_rfl) rfl rfl (by simp) (by simp only [argEnv]; rfl) ?_
  repeat (first | refine RunL.pureI Tryd.tOk rfl rfl rfl (by (first | exact wr_i64 (by omega) (by omega) | exact wm_i64 (by omega) | exact wq_i64 (by omega) (by omega) (by omega) | rfl)) ?_ | refine RunL.pure Tryd.tOk rfl rfl rfl ?_ | refine RunL.unwantedD rfl rfl ?_ | refine RunE.seq ?_ | refine RunE.region ?_ | refine RunL.nil ?_ | refine RunE.block ?_ | refine RunE.inBlock ?_ | refine RunE.skip ?_ | refine RunE.exit rfl ?_ | refine RunE.scope ?_ | refine RunE.inScope ?_ | refine RunE.label ?_)
  cases hx1 : decide (x < 1) with
  | true =>
    have hx : x < 1 := of_decide_eq_true hx1
    repeat (first | refine RunL.pureI Tryd.tOk rfl rfl rfl (by (first | exact wr_i64 (by omega) (by omega) | exact wm_i64 (by omega) | exact wq_i64 (by omega) (by omega) (by omega) | rfl)) ?_ | refine RunL.pure Tryd.tOk rfl rfl rfl ?_ | refine RunL.unwantedD rfl rfl ?_ | refine RunE.seq ?_ | refine RunE.region ?_ | refine RunL.nil ?_ | refine RunE.block ?_ | refine RunE.inBlock ?_ | refine RunE.skip ?_ | refine RunE.exit rfl ?_ | refine RunE.scope ?_ | refine RunE.inScope ?_ | refine RunE.label ?_)
    refine RunE.condT rfl rfl ?_
    repeat (first | refine RunL.pureI Tryd.tOk rfl rfl rfl (by (first | exact wr_i64 (by omega) (by omega) | exact wm_i64 (by omega) | exact wq_i64 (by omega) (by omega) (by omega) | rfl)) ?_ | refine RunL.pure Tryd.tOk rfl rfl rfl ?_ | refine RunL.unwantedD rfl rfl ?_ | refine RunE.seq ?_ | refine RunE.region ?_ | refine RunL.nil ?_ | refine RunE.block ?_ | refine RunE.inBlock ?_ | refine RunE.skip ?_ | refine RunE.exit rfl ?_ | refine RunE.scope ?_ | refine RunE.inScope ?_ | refine RunE.label ?_)
    refine RunE.retFn Tryd.func28 (.tmp rfl .nil) ⟨?_, rfl⟩
    simp only [oneOr, validS]
    congr 1
    exact (decide_eq_false (by omega)).symm
  | false =>
    have hx : ¬ x < 1 := of_decide_eq_false hx1
    repeat (first | refine RunL.pureI Tryd.tOk rfl rfl rfl (by (first | exact wr_i64 (by omega) (by omega) | exact wm_i64 (by omega) | exact wq_i64 (by omega) (by omega) (by omega) | rfl)) ?_ | refine RunL.pure Tryd.tOk rfl rfl rfl ?_ | refine RunL.unwantedD rfl rfl ?_ | refine RunE.seq ?_ | refine RunE.region ?_ | refine RunL.nil ?_ | refine RunE.block ?_ | refine RunE.inBlock ?_ | refine RunE.skip ?_ | refine RunE.exit rfl ?_ | refine RunE.scope ?_ | refine RunE.inScope ?_ | refine RunE.label ?_)
    refine RunE.cond rfl (fun hx2 => ?_) (fun hx2 => ?_) <;> (first | replace hx2 := of_decide_eq_true hx2 | replace hx2 := of_decide_eq_false hx2 | replace hx2 := beq_iff_eq.1 hx2 | replace hx2 := beq_eq_false_iff_ne.1 hx2 | replace hx2 := bne_iff_ne.1 hx2 | replace hx2 := bne_eq_false_iff_eq.1 hx2 | skip)
    · repeat (first | refine RunL.pureI Tryd.tOk rfl rfl rfl (by (first | exact wr_i64 (by omega) (by omega) | exact wm_i64 (by omega) | exact wq_i64 (by omega) (by omega) (by omega) | rfl)) ?_ | refine RunL.pure Tryd.tOk rfl rfl rfl ?_ | refine RunL.unwantedD rfl rfl ?_ | refine RunE.seq ?_ | refine RunE.region ?_ | refine RunL.nil ?_ | refine RunE.block ?_ | refine RunE.inBlock ?_ | refine RunE.skip ?_ | refine RunE.exit rfl ?_ | refine RunE.scope ?_ | refine RunE.inScope ?_ | refine RunE.label ?_)
      refine RunE.retFn Tryd.func28 (.tmp rfl .nil) ⟨?_, rfl⟩
      simp only [oneOr, validS]
      congr 1
      exact (decide_eq_false (by omega)).symm
    · obtain ⟨x0, rfl⟩ := Int.eq_ofNat_of_zero_le (by omega : 0 ≤ x)
      have h1 : 1 ≤ x0 := by omega
      have h2 : x0 < 2147483579 := by omega
      repeat (first | refine RunL.pureI Tryd.tOk rfl rfl rfl (by (first | exact wr_i64 (by omega) (by omega) | exact wm_i64 (by omega) | exact wq_i64 (by omega) (by omega) (by omega) | rfl)) ?_ | refine RunL.pure Tryd.tOk rfl rfl rfl ?_ | refine RunL.unwantedD rfl rfl ?_ | refine RunE.seq ?_ | refine RunE.region ?_ | refine RunL.nil ?_ | refine RunE.block ?_ | refine RunE.inBlock ?_ | refine RunE.skip ?_ | refine RunE.exit rfl ?_ | refine RunE.scope ?_ | refine RunE.inScope ?_ | refine RunE.label ?_)
      have hv0 := VInv.start h1 h2
      refine RunE.loop (ι := Nat × Nat × Bool) vEnv (fun s w' => w = w' ∧ VInv x0 s) (fun s => s.1) (x0, 2147483579, true) (by unfold vEnv; exact (by repeat (first | exact Sub.nil _ | refine Sub.cons rfl ?_))) ⟨rfl, hv0⟩ ?_
      rintro ⟨y, n, sq⟩ _ ⟨rfl, hv⟩ IH
      have hv' := hv
      obtain ⟨b1, b2, b3, b4, b5, b6, _⟩ := hv'
      simp only at b1 b2 b3 b4 b5 b6
      unfold vEnv
      dsimp only
      repeat (first | refine RunL.pureI Tryd.tOk rfl rfl rfl (by (first | exact wr_i64 (by omega) (by omega) | exact wm_i64 (by omega) | exact wq_i64 (by omega) (by omega) (by omega) | rfl)) ?_ | refine RunL.pure Tryd.tOk rfl rfl rfl ?_ | refine RunL.unwantedD rfl rfl ?_ | refine RunE.seq ?_ | refine RunE.region ?_ | refine RunL.nil ?_ | refine RunE.block ?_ | refine RunE.inBlock ?_ | refine RunE.skip ?_ | refine RunE.exit rfl ?_ | refine RunE.scope ?_ | refine RunE.inScope ?_ | refine RunE.label ?_)
      refine RunE.cond rfl (fun hy1 => ?_) (fun hy1 => ?_) <;> (first | replace hy1 := of_decide_eq_true hy1 | replace hy1 := of_decide_eq_false hy1 | replace hy1 := beq_iff_eq.1 hy1 | replace hy1 := beq_eq_false_iff_ne.1 hy1 | replace hy1 := bne_iff_ne.1 hy1 | replace hy1 := bne_eq_false_iff_eq.1 hy1 | skip)
      · repeat (first | refine RunL.pureI Tryd.tOk rfl rfl rfl (by (first | exact wr_i64 (by omega) (by omega) | exact wm_i64 (by omega) | exact wq_i64 (by omega) (by omega) (by omega) | rfl)) ?_ | refine RunL.pure Tryd.tOk rfl rfl rfl ?_ | refine RunL.unwantedD rfl rfl ?_ | refine RunE.seq ?_ | refine RunE.region ?_ | refine RunL.nil ?_ | refine RunE.block ?_ | refine RunE.inBlock ?_ | refine RunE.skip ?_ | refine RunE.exit rfl ?_ | refine RunE.scope ?_ | refine RunE.inScope ?_ | refine RunE.label ?_)
        have hy : 1 < y := by omega
        refine RunE.loop (ι := Nat × Bool) (fun s => vEnv (s.1, n, s.2)) (fun s w' => w = w' ∧ VInv x0 (s.1, n, s.2) ∧ s.1 ≤ y) (fun s => s.1) (y, sq) (by unfold vEnv; exact (by repeat (first | exact Sub.nil _ | refine Sub.cons rfl ?_))) ⟨rfl, hv, Nat.le_refl _⟩ ?_
        rintro ⟨z, sq2⟩ _ ⟨rfl, hz, hzy⟩ IH2
        have hz' := hz
        obtain ⟨c1, c2, c3, c4, c5, c6, _⟩ := hz'
        simp only at c1 c2 c3 c4 c5 c6 hzy
        unfold vEnv
        dsimp only
        repeat (first | refine RunL.pureI Tryd.tOk rfl rfl rfl (by (first | exact wr_i64 (by omega) (by omega) | exact wm_i64 (by omega) | exact wq_i64 (by omega) (by omega) (by omega) | rfl)) ?_ | refine RunL.pure Tryd.tOk rfl rfl rfl ?_ | refine RunL.unwantedD rfl rfl ?_ | refine RunE.seq ?_ | refine RunE.region ?_ | refine RunL.nil ?_ | refine RunE.block ?_ | refine RunE.inBlock ?_ | refine RunE.skip ?_ | refine RunE.exit rfl ?_ | refine RunE.scope ?_ | refine RunE.inScope ?_ | refine RunE.label ?_)
        refine RunE.cond rfl (fun hev => ?_) (fun hev => ?_) <;> (first | replace hev := of_decide_eq_true hev | replace hev := of_decide_eq_false hev | replace hev := beq_iff_eq.1 hev | replace hev := beq_eq_false_iff_ne.1 hev | replace hev := bne_iff_ne.1 hev | replace hev := bne_eq_false_iff_eq.1 hev | skip)
        · have hz2 := hz.half (by omega)
          repeat (first | refine RunL.pureI Tryd.tOk rfl rfl rfl (by (first | exact wr_i64 (by omega) (by omega) | exact wm_i64 (by omega) | exact wq_i64 (by omega) (by omega) (by omega) | rfl)) ?_ | refine RunL.pure Tryd.tOk rfl rfl rfl ?_ | refine RunL.unwantedD rfl rfl ?_ | refine RunE.seq ?_ | refine RunE.region ?_ | refine RunL.nil ?_ | refine RunE.block ?_ | refine RunE.inBlock ?_ | refine RunE.skip ?_ | refine RunE.exit rfl ?_ | refine RunE.scope ?_ | refine RunE.inScope ?_ | refine RunE.label ?_)
          have fin : ∀ (b : Bool), b = decide (n % 8 = 3 ∨ n % 8 = 5) → VInv x0 (z / 2, n, if b then !sq2 else sq2) := fun b hb => by
            subst hb; simpa using hz2
          have done : ∀ b : Bool, VInv x0 (z / 2, n, b) → RunE Tryd.prog ⟨28, .normal, none⟩ 45 [] _ _ (vEnv (z / 2, n, b)) w := fun b hb => IH2 (z / 2, b) _ (by simp only; omega) ⟨rfl, hb, by simp only; omega⟩
          cases h3 : ((n : Int) % 8 == 3) with
          | true =>
            have h3' : n % 8 = 3 := by have := beq_iff_eq.1 h3; omega
            repeat (first | refine RunL.pureI Tryd.tOk rfl rfl rfl (by (first | exact wr_i64 (by omega) (by omega) | exact wm_i64 (by omega) | exact wq_i64 (by omega) (by omega) (by omega) | rfl)) ?_ | refine RunL.pure Tryd.tOk rfl rfl rfl ?_ | refine RunL.unwantedD rfl rfl ?_ | refine RunE.seq ?_ | refine RunE.region ?_ | refine RunL.nil ?_ | refine RunE.block ?_ | refine RunE.inBlock ?_ | refine RunE.skip ?_ | refine RunE.exit rfl ?_ | refine RunE.scope ?_ | refine RunE.inScope ?_ | refine RunE.label ?_)
            refine RunE.condT rfl rfl ?_
            repeat (first | refine RunL.pureI Tryd.tOk rfl rfl rfl (by (first | exact wr_i64 (by omega) (by omega) | exact wm_i64 (by omega) | exact wq_i64 (by omega) (by omega) (by omega) | rfl)) ?_ | refine RunL.pure Tryd.tOk rfl rfl rfl ?_ | refine RunL.unwantedD rfl rfl ?_ | refine RunE.seq ?_ | refine RunE.region ?_ | refine RunL.nil ?_ | refine RunE.block ?_ | refine RunE.inBlock ?_ | refine RunE.skip ?_ | refine RunE.exit rfl ?_ | refine RunE.scope ?_ | refine RunE.inScope ?_ | refine RunE.label ?_)
            refine RunE.weaken ?_ (done _ (fin true (by simp [h3'])))
            unfold vEnv; exact (by repeat (first | exact Sub.nil _ | refine Sub.cons rfl ?_))
          | false =>
            have h3' : n % 8 ≠ 3 := by have := beq_eq_false_iff_ne.1 h3; omega
            repeat (first | refine RunL.pureI Tryd.tOk rfl rfl rfl (by (first | exact wr_i64 (by omega) (by omega) | exact wm_i64 (by omega) | exact wq_i64 (by omega) (by omega) (by omega) | rfl)) ?_ | refine RunL.pure Tryd.tOk rfl rfl rfl ?_ | refine RunL.unwantedD rfl rfl ?_ | refine RunE.seq ?_ | refine RunE.region ?_ | refine RunL.nil ?_ | refine RunE.block ?_ | refine RunE.inBlock ?_ | refine RunE.skip ?_ | refine RunE.exit rfl ?_ | refine RunE.scope ?_ | refine RunE.inScope ?_ | refine RunE.label ?_)
            refine RunE.cond rfl (fun h5 => ?_) (fun h5 => ?_) <;> (first | replace h5 := of_decide_eq_true h5 | replace h5 := of_decide_eq_false h5 | replace h5 := beq_iff_eq.1 h5 | replace h5 := beq_eq_false_iff_ne.1 h5 | replace h5 := bne_iff_ne.1 h5 | replace h5 := bne_eq_false_iff_eq.1 h5 | skip)
            · repeat (first | refine RunL.pureI Tryd.tOk rfl rfl rfl (by (first | exact wr_i64 (by omega) (by omega) | exact wm_i64 (by omega) | exact wq_i64 (by omega) (by omega) (by omega) | rfl)) ?_ | refine RunL.pure Tryd.tOk rfl rfl rfl ?_ | refine RunL.unwantedD rfl rfl ?_ | refine RunE.seq ?_ | refine RunE.region ?_ | refine RunL.nil ?_ | refine RunE.block ?_ | refine RunE.inBlock ?_ | refine RunE.skip ?_ | refine RunE.exit rfl ?_ | refine RunE.scope ?_ | refine RunE.inScope ?_ | refine RunE.label ?_)
              refine RunE.weaken ?_ (done _ (fin true (by simp; omega)))
              unfold vEnv; exact (by repeat (first | exact Sub.nil _ | refine Sub.cons rfl ?_))
            · repeat (first | refine RunL.pureI Tryd.tOk rfl rfl rfl (by (first | exact wr_i64 (by omega) (by omega) | exact wm_i64 (by omega) | exact wq_i64 (by omega) (by omega) (by omega) | rfl)) ?_ | refine RunL.pure Tryd.tOk rfl rfl rfl ?_ | refine RunL.unwantedD rfl rfl ?_ | refine RunE.seq ?_ | refine RunE.region ?_ | refine RunL.nil ?_ | refine RunE.block ?_ | refine RunE.inBlock ?_ | refine RunE.skip ?_ | refine RunE.exit rfl ?_ | refine RunE.scope ?_ | refine RunE.inScope ?_ | refine RunE.label ?_)
              refine RunE.weaken ?_ (done _ (fin false (by simp; omega)))
              unfold vEnv; exact (by repeat (first | exact Sub.nil _ | refine Sub.cons rfl ?_))
        · repeat (first | refine RunL.pureI Tryd.tOk rfl rfl rfl (by (first | exact wr_i64 (by omega) (by omega) | exact wm_i64 (by omega) | exact wq_i64 (by omega) (by omega) (by omega) | rfl)) ?_ | refine RunL.pure Tryd.tOk rfl rfl rfl ?_ | refine RunL.unwantedD rfl rfl ?_ | refine RunE.seq ?_ | refine RunE.region ?_ | refine RunL.nil ?_ | refine RunE.block ?_ | refine RunE.inBlock ?_ | refine RunE.skip ?_ | refine RunE.exit rfl ?_ | refine RunE.scope ?_ | refine RunE.inScope ?_ | refine RunE.label ?_)
          refine RunE.cond rfl (fun hz1 => ?_) (fun hz1 => ?_) <;> (first | replace hz1 := of_decide_eq_true hz1 | replace hz1 := of_decide_eq_false hz1 | replace hz1 := beq_iff_eq.1 hz1 | replace hz1 := beq_eq_false_iff_ne.1 hz1 | replace hz1 := bne_iff_ne.1 hz1 | replace hz1 := bne_eq_false_iff_eq.1 hz1 | skip)
          · repeat (first | refine RunL.pureI Tryd.tOk rfl rfl rfl (by (first | exact wr_i64 (by omega) (by omega) | exact wm_i64 (by omega) | exact wq_i64 (by omega) (by omega) (by omega) | rfl)) ?_ | refine RunL.pure Tryd.tOk rfl rfl rfl ?_ | refine RunL.unwantedD rfl rfl ?_ | refine RunE.seq ?_ | refine RunE.region ?_ | refine RunL.nil ?_ | refine RunE.block ?_ | refine RunE.inBlock ?_ | refine RunE.skip ?_ | refine RunE.exit rfl ?_ | refine RunE.scope ?_ | refine RunE.inScope ?_ | refine RunE.label ?_)
            refine RunE.retFn Tryd.func28 (.tmp rfl .nil) ⟨?_, rfl⟩
            have : z = 1 := by omega
            subst this
            simp only [oneOr]
            rw [hz.done h1 h2]
          · have hz3 := hz.swap (by omega) (by omega)
            repeat (first | refine RunL.pureI Tryd.tOk rfl rfl rfl (by (first | exact wr_i64 (by omega) (by omega) | exact wm_i64 (by omega) | exact wq_i64 (by omega) (by omega) (by omega) | rfl)) ?_ | refine RunL.pure Tryd.tOk rfl rfl rfl ?_ | refine RunL.unwantedD rfl rfl ?_ | refine RunE.seq ?_ | refine RunE.region ?_ | refine RunL.nil ?_ | refine RunE.block ?_ | refine RunE.inBlock ?_ | refine RunE.skip ?_ | refine RunE.exit rfl ?_ | refine RunE.scope ?_ | refine RunE.inScope ?_ | refine RunE.label ?_)
            have done : ∀ b : Bool, VInv x0 (n % z, z, b) → RunE Tryd.prog ⟨28, .normal, none⟩ 45 [] _ _ (vEnv (n % z, z, b)) w := fun b hb => IH (n % z, z, b) _ (by simp only; have := Nat.mod_lt n (by omega : z > 0); omega) ⟨rfl, hb⟩
            have hrem : (n : Int).tmod (z : Int) = ((n % z : Nat) : Int) := by rw [Int.tmod_eq_emod_of_nonneg (by omega)]; omega
            cases h3 : ((z : Int) % 4 == 3) with
            | false =>
              have h3' : z % 4 ≠ 3 := by have := beq_eq_false_iff_ne.1 h3; omega
              rw [if_neg (by omega)] at hz3
              repeat (first | refine RunL.pureI Tryd.tOk rfl rfl rfl (by (first | exact wr_i64 (by omega) (by omega) | exact wm_i64 (by omega) | exact wq_i64 (by omega) (by omega) (by omega) | rfl)) ?_ | refine RunL.pure Tryd.tOk rfl rfl rfl ?_ | refine RunL.unwantedD rfl rfl ?_ | refine RunE.seq ?_ | refine RunE.region ?_ | refine RunL.nil ?_ | refine RunE.block ?_ | refine RunE.inBlock ?_ | refine RunE.skip ?_ | refine RunE.exit rfl ?_ | refine RunE.scope ?_ | refine RunE.inScope ?_ | refine RunE.label ?_)
              refine RunE.condF rfl rfl ?_
              repeat (first | refine RunL.pureI Tryd.tOk rfl rfl rfl (by (first | exact wr_i64 (by omega) (by omega) | exact wm_i64 (by omega) | exact wq_i64 (by omega) (by omega) (by omega) | rfl)) ?_ | refine RunL.pure Tryd.tOk rfl rfl rfl ?_ | refine RunL.unwantedD rfl rfl ?_ | refine RunE.seq ?_ | refine RunE.region ?_ | refine RunL.nil ?_ | refine RunE.block ?_ | refine RunE.inBlock ?_ | refine RunE.skip ?_ | refine RunE.exit rfl ?_ | refine RunE.scope ?_ | refine RunE.inScope ?_ | refine RunE.label ?_)
              refine RunL.rem rfl rfl rfl rfl (by omega) hrem ?_
              repeat (first | refine RunL.pureI Tryd.tOk rfl rfl rfl (by (first | exact wr_i64 (by omega) (by omega) | exact wm_i64 (by omega) | exact wq_i64 (by omega) (by omega) (by omega) | rfl)) ?_ | refine RunL.pure Tryd.tOk rfl rfl rfl ?_ | refine RunL.unwantedD rfl rfl ?_ | refine RunE.seq ?_ | refine RunE.region ?_ | refine RunL.nil ?_ | refine RunE.block ?_ | refine RunE.inBlock ?_ | refine RunE.skip ?_ | refine RunE.exit rfl ?_ | refine RunE.scope ?_ | refine RunE.inScope ?_ | refine RunE.label ?_)
              refine RunE.weaken ?_ (done _ hz3)
              unfold vEnv; exact (by repeat (first | exact Sub.nil _ | refine Sub.cons rfl ?_))
            | true =>
              have h3' : z % 4 = 3 := by have := beq_iff_eq.1 h3; omega
              repeat (first | refine RunL.pureI Tryd.tOk rfl rfl rfl (by (first | exact wr_i64 (by omega) (by omega) | exact wm_i64 (by omega) | exact wq_i64 (by omega) (by omega) (by omega) | rfl)) ?_ | refine RunL.pure Tryd.tOk rfl rfl rfl ?_ | refine RunL.unwantedD rfl rfl ?_ | refine RunE.seq ?_ | refine RunE.region ?_ | refine RunL.nil ?_ | refine RunE.block ?_ | refine RunE.inBlock ?_ | refine RunE.skip ?_ | refine RunE.exit rfl ?_ | refine RunE.scope ?_ | refine RunE.inScope ?_ | refine RunE.label ?_)
              refine RunE.cond rfl (fun h4 => ?_) (fun h4 => ?_) <;> (first | replace h4 := of_decide_eq_true h4 | replace h4 := of_decide_eq_false h4 | replace h4 := beq_iff_eq.1 h4 | replace h4 := beq_eq_false_iff_ne.1 h4 | replace h4 := bne_iff_ne.1 h4 | replace h4 := bne_eq_false_iff_eq.1 h4 | skip)
              · rw [if_pos (by omega)] at hz3
                repeat (first | refine RunL.pureI Tryd.tOk rfl rfl rfl (by (first | exact wr_i64 (by omega) (by omega) | exact wm_i64 (by omega) | exact wq_i64 (by omega) (by omega) (by omega) | rfl)) ?_ | refine RunL.pure Tryd.tOk rfl rfl rfl ?_ | refine RunL.unwantedD rfl rfl ?_ | refine RunE.seq ?_ | refine RunE.region ?_ | refine RunL.nil ?_ | refine RunE.block ?_ | refine RunE.inBlock ?_ | refine RunE.skip ?_ | refine RunE.exit rfl ?_ | refine RunE.scope ?_ | refine RunE.inScope ?_ | refine RunE.label ?_)
                refine RunL.rem rfl rfl rfl rfl (by omega) hrem ?_
                repeat (first | refine RunL.pureI Tryd.tOk rfl rfl rfl (by (first | exact wr_i64 (by omega) (by omega) | exact wm_i64 (by omega) | exact wq_i64 (by omega) (by omega) (by omega) | rfl)) ?_ | refine RunL.pure Tryd.tOk rfl rfl rfl ?_ | refine RunL.unwantedD rfl rfl ?_ | refine RunE.seq ?_ | refine RunE.region ?_ | refine RunL.nil ?_ | refine RunE.block ?_ | refine RunE.inBlock ?_ | refine RunE.skip ?_ | refine RunE.exit rfl ?_ | refine RunE.scope ?_ | refine RunE.inScope ?_ | refine RunE.label ?_)
                refine RunE.weaken ?_ (done _ hz3)
                unfold vEnv; exact (by repeat (first | exact Sub.nil _ | refine Sub.cons rfl ?_))
              · rw [if_neg (by omega)] at hz3
                repeat (first | refine RunL.pureI Tryd.tOk rfl rfl rfl (by (first | exact wr_i64 (by omega) (by omega) | exact wm_i64 (by omega) | exact wq_i64 (by omega) (by omega) (by omega) | rfl)) ?_ | refine RunL.pure Tryd.tOk rfl rfl rfl ?_ | refine RunL.unwantedD rfl rfl ?_ | refine RunE.seq ?_ | refine RunE.region ?_ | refine RunL.nil ?_ | refine RunE.block ?_ | refine RunE.inBlock ?_ | refine RunE.skip ?_ | refine RunE.exit rfl ?_ | refine RunE.scope ?_ | refine RunE.inScope ?_ | refine RunE.label ?_)
                refine RunL.rem rfl rfl rfl rfl (by omega) hrem ?_
                repeat (first | refine RunL.pureI Tryd.tOk rfl rfl rfl (by (first | exact wr_i64 (by omega) (by omega) | exact wm_i64 (by omega) | exact wq_i64 (by omega) (by omega) (by omega) | rfl)) ?_ | refine RunL.pure Tryd.tOk rfl rfl rfl ?_ | refine RunL.unwantedD rfl rfl ?_ | refine RunE.seq ?_ | refine RunE.region ?_ | refine RunL.nil ?_ | refine RunE.block ?_ | refine RunE.inBlock ?_ | refine RunE.skip ?_ | refine RunE.exit rfl ?_ | refine RunE.scope ?_ | refine RunE.inScope ?_ | refine RunE.label ?_)
                refine RunE.weaken ?_ (done _ hz3)
                unfold vEnv; exact (by repeat (first | exact Sub.nil _ | refine Sub.cons rfl ?_))
      · repeat (first | refine RunL.pureI Tryd.tOk rfl rfl rfl (by (first | exact wr_i64 (by omega) (by omega) | exact wm_i64 (by omega) | exact wq_i64 (by omega) (by omega) (by omega) | rfl)) ?_ | refine RunL.pure Tryd.tOk rfl rfl rfl ?_ | refine RunL.unwantedD rfl rfl ?_ | refine RunE.seq ?_ | refine RunE.region ?_ | refine RunL.nil ?_ | refine RunE.block ?_ | refine RunE.inBlock ?_ | refine RunE.skip ?_ | refine RunE.exit rfl ?_ | refine RunE.scope ?_ | refine RunE.inScope ?_ | refine RunE.label ?_)
        refine RunE.retFn Tryd.func28 (.tmp rfl .nil) ⟨?_, rfl⟩
        have : y = 1 := by omega
        subst this
        simp only [oneOr]
        rw [hv.done h1 h2]

end Go.Sg
end
section
/- Devices (chapter 48): plain. -/
namespace Go.Dev
open Go.Best Go.NT Go.Sg
structure Dev where
  no : Int
  at_ : Int
  known : Int
  person : Int
  key : Int
  gone : Bool
deriving DecidableEq, Inhabited
def i64 (n : Int) : Prop := -9223372036854775808 ≤ n ∧ n < 9223372036854775808
def rightD (x : Dev) : Bool := decide (0 ≤ x.no ∧ x.no ≤ 1048576 ∧ 0 ≤ x.at_ ∧ x.at_ < 1099511627776 ∧ 0 ≤ x.known ∧ x.known < 1099511627776 ∧ 0 ≤ x.person ∧ x.person < 64) && (if x.gone then decide (x.key = 0) else validS x.key && decide (x.key ≠ 1))
theorem right_key {x : Dev} (h : rightD x = true) : x.gone = decide (x.key = 0) := by
  unfold rightD at h
  simp only [Bool.and_eq_true] at h
  cases hg : x.gone with
  | true => rw [hg] at h; simp at h; simp [h.2]
  | false =>
    rw [hg] at h
    simp at h
    have := validS_inv h.2.1
    symm; exact decide_eq_false (by omega)
theorem right_no {x : Dev} (h : rightD x = true) : 0 ≤ x.no ∧ 0 ≤ x.at_ ∧ x.at_ < 1099511627776 := by
  unfold rightD at h
  rw [Bool.and_eq_true] at h
  have := of_decide_eq_true h.1; omega
abbrev SrtD := Srt Dev.no
def usedD (l : List Dev) (key : Int) : Bool := l.any fun y => decide (key ≠ 0 ∧ y.key = key)
theorem usedD_snoc (l : List Dev) (x : Dev) (key : Int) : usedD (l ++ [x]) key = (usedD l key || decide (key ≠ 0 ∧ x.key = key)) := by simp [usedD, List.any_append]
/-- One after the other: right, in order, with new keys. -/
def goodL (pre : List Dev) (last : Int) : List Dev → Bool
  | [] => true
  | x :: r => rightD x && decide (last < x.no) && !usedD pre x.key && goodL (pre ++ [x]) x.no r
def chkD (l : List Dev) : Int := if 1024 < l.length then 2 else if goodL [] (-1) l then 0 else 480
def KeysD (l : List Dev) : Prop := l.Pairwise fun a b => b.key ≠ 0 → a.key ≠ b.key
theorem goodL_inv : ∀ {l pre : List Dev} {last : Int}, goodL pre last l = true → SrtD l ∧ (∀ x ∈ l, last < x.no ∧ rightD x = true) ∧ KeysD l ∧ (∀ x ∈ l, usedD pre x.key = false)
  | [], _, _, _ => ⟨List.Pairwise.nil, by simp, List.Pairwise.nil, by simp⟩
  | x :: r, pre, last, h => by
    simp only [goodL, Bool.and_eq_true, decide_eq_true_eq, Bool.not_eq_true'] at h
    obtain ⟨⟨⟨h1, h2⟩, h3⟩, h4⟩ := h
    obtain ⟨i1, i2, i3, i4⟩ := goodL_inv h4
    refine ⟨List.pairwise_cons.2 ⟨fun y hy => (i2 y hy).1, i1⟩, fun y hy => ?_, List.pairwise_cons.2 ⟨fun y hy hk e => ?_, i3⟩, fun y hy => ?_⟩
    · rcases List.mem_cons.1 hy with rfl | hy
      · exact ⟨h2, h1⟩
      · exact ⟨by have := (i2 y hy).1; omega, (i2 y hy).2⟩
    · have := i4 y hy
      rw [usedD_snoc, Bool.or_eq_false_iff] at this
      exact absurd (decide_eq_true (p := y.key ≠ 0 ∧ x.key = y.key) ⟨hk, e⟩) (by rw [this.2]; simp)
    · rcases List.mem_cons.1 hy with rfl | hy
      · exact h3
      · have := i4 y hy
        rw [usedD_snoc, Bool.or_eq_false_iff] at this
        exact this.1
theorem goodL_of : ∀ {l pre : List Dev} {last : Int}, SrtD l → (∀ x ∈ l, last < x.no ∧ rightD x = true) → KeysD l → (∀ x ∈ l, usedD pre x.key = false) → goodL pre last l = true
  | [], _, _, _, _, _, _ => rfl
  | x :: r, pre, last, h1, h2, h3, h4 => by
    obtain ⟨a1, a2⟩ := List.pairwise_cons.1 h1
    obtain ⟨k1, k2⟩ := List.pairwise_cons.1 h3
    have hx := h2 x List.mem_cons_self
    simp only [goodL, Bool.and_eq_true, decide_eq_true_eq, Bool.not_eq_true']
    refine ⟨⟨⟨hx.2, hx.1⟩, h4 x List.mem_cons_self⟩, goodL_of a2 (fun y hy => ⟨a1 y hy, (h2 y (List.mem_cons_of_mem _ hy)).2⟩) k2 fun y hy => ?_⟩
    rw [usedD_snoc, Bool.or_eq_false_iff]
    exact ⟨h4 y (List.mem_cons_of_mem _ hy), decide_eq_false fun h => k1 y hy h.1 h.2⟩
theorem chkD_ok {l : List Dev} : chkD l = 0 ↔ l.length ≤ 1024 ∧ SrtD l ∧ (∀ x ∈ l, rightD x = true) ∧ KeysD l := by
  unfold chkD
  split
  · rename_i h
    exact ⟨fun e => absurd e (by decide), fun e => absurd e.1 (by omega)⟩
  · rename_i h0
    split
    · rename_i h
      obtain ⟨a, b, c, -⟩ := goodL_inv h
      exact ⟨fun _ => ⟨by omega, a, fun x hx => (b x hx).2, c⟩, fun _ => rfl⟩
    · rename_i h
      exact ⟨fun e => absurd e (by decide), fun ⟨_, a, b, c⟩ => absurd (goodL_of a (fun x hx => ⟨by have := (right_no (b x hx)).1; omega, b x hx⟩) c fun x _ => rfl) h⟩
def addED (l : List Dev) (x : Dev) : Int :=
  if chkD l = 0 then (if rightD x then (if (l.any fun y => decide (y.no = x.no)) || usedD l x.key then 151 else if l.length = 1024 then 2 else 0) else 480) else chkD l
def addLD (l : List Dev) (x : Dev) : List Dev := if addED l x = 0 then insS Dev.no x l else []
/-- Of a person, known at a time. -/
def kd (p time : Int) (x : Dev) : Bool := decide (x.person = p ∧ x.known ≤ time)
def bestD (l : List Dev) (p t time : Int) : Option Dev := bst Dev.at_ (l.filter (kd p time)) t
def argD (p t time : Int) : Bool := decide (0 ≤ p ∧ p < 64 ∧ 0 ≤ t ∧ t < 1099511627776 ∧ 0 ≤ time ∧ time < 1099511627776)
def curE (l : List Dev) (p t time : Int) : Int := if chkD l = 0 then (if argD p t time then 0 else 1) else chkD l
def heldD : Option Dev → Option Dev
  | none => none
  | some x => if x.gone then none else some x
def curD (l : List Dev) (p t time : Int) : Option Dev := if curE l p t time = 0 then heldD (bestD l p t time) else none
def ansD : Option Dev → Int × Int × Bool
  | none => (0, 0, false)
  | some x => (x.no, x.key, true)
end Go.Dev
end
