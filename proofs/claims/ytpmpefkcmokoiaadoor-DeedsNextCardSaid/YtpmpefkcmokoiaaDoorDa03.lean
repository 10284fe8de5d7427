/- Parts of this project that the claims share: Sl, Step, Chk, Cod1, Bits, Sha1, ShaS, Open, CodS, Cod2, Cod3, Cod4, Cod5. -/
import Derived.Test.YtpmpefkcmokoiaaDoorDa02
import Derived.Lib.AppendStr
import Derived.ChangeArms
import Derived.Deep.Slices
set_option linter.unusedSimpArgs false
set_option linter.unusedVariables false
set_option linter.unusedSectionVars false
section
/- Slices as lists: what is read of them, parts of them, room for them. -/
namespace Go.Rn
open Go.RowKit

variable {P : Program} {w : World} {env : Env} {dst : Option Tmp} {ty : TypeId} {pos : String} {after : Array Edge} {guard : Option (Nat × Bool)}

theorem IsSl.inv {sz n : Nat} {v : Value} {cs : List Value} (h : IsSl w sz v n cs) : (∃ d, v = .slice d 0 0 ∧ n = 0 ∧ cs = []) ∨
    ∃ b o cap, v = .slice (some ⟨b, o, none⟩) n cap ∧ Row w b o cs ∧ cs.length = n * sz ∧ n ≤ cap := by
  cases h with
  | nil => exact .inl ⟨_, rfl, rfl, rfl⟩
  | row hr hl hc => exact .inr ⟨_, _, _, rfl, hr, hl, hc⟩
theorem IsSl.held {sz n : Nat} {v : Value} {cs : List Value} (h : IsSl w sz v n cs) (hn : 0 < n) : ∃ b o cap, v = .slice (some ⟨b, o, none⟩) n cap ∧ Row w b o cs ∧ cs.length = n * sz ∧ n ≤ cap := by
  rcases h.inv with ⟨_, -, h, -⟩ | h
  · omega
  · exact h
theorem IsSl.ext {S : Nat → Prop} {sz n : Nat} {v : Value} {cs : List Value} {w' : World} (h : IsSl w sz v n cs) (e : ExtB S w w') (hs : ∀ k, v.ownBlock = some k → ¬ S k) : IsSl w' sz v n cs := by
  rcases h.inv with ⟨d0, rfl, rfl, rfl⟩ | ⟨b, o, cap, rfl, hr, hl, hc⟩
  · exact .nil
  · exact .row (hr.ext e (hs b rfl)) hl hc
theorem IsSl.extE {sz n : Nat} {v : Value} {cs : List Value} {w' : World} (h : IsSl w sz v n cs) (e : Ext w w') : IsSl w' sz v n cs := h.ext e fun _ _ h => h
theorem IsSl.lt {sz n : Nat} {v : Value} {cs : List Value} (h : IsSl w sz v n cs) (hn : 0 < n) (hz : 0 < sz) {k : Nat} (hk : v.ownBlock = some k) : k < w.heap.size := by
  obtain ⟨b, o, cap, rfl, hr, hl, hc⟩ := h.held hn
  have : k = b := by simpa [Value.ownBlock] using hk.symm
  subst this
  have hlen : 0 < cs.length := by rw [hl]; exact Nat.mul_pos hn hz
  exact cell_lt (hr 0 cs[0] (by simp [hlen]))
theorem isSl_own {base : Nat} {e : TypeId} {sz n : Nat} {v : Value} {xs : List Value} (h : w.ownsRow base e sz v n xs) : IsSl w sz v n xs := by
  obtain ⟨hl, ⟨rfl, rfl⟩ | ⟨g, cap, cur, rfl, hb, hg, hn, hc, hs, ht⟩⟩ := h
  · obtain rfl : xs = [] := List.eq_nil_of_length_eq_zero (by simpa using hl)
    exact .nil
  · refine .row (fun i u hu => ?_) hl hn
    have hb : Blk w g cur.toList e := by unfold Blk; rw [hg]
    rw [Nat.zero_add]
    refine hb.cell ?_
    rw [← ht, List.getElem?_take] at hu
    split at hu
    · exact hu
    · simp at hu
theorem isSl_blk {b o n cap sz : Nat} {t : TypeId} {cs ds : List Value} (h : Blk w b cs t) (hd : ∀ i v, ds[i]? = some v → cs[o + i]? = some v) (hl : ds.length = n * sz) (hc : n ≤ cap) :
    IsSl w sz (.slice (some ⟨b, o, none⟩) n cap) n ds := .row (h.rowAt o hd) hl hc

theorem ownsRow_ext {S : Nat → Prop} {base : Nat} {e : TypeId} {sz n : Nat} {v : Value} {xs : List Value} {w' : World} (h : w.ownsRow base e sz v n xs) (x : ExtB S w w') (hs : ∀ k, v.ownBlock = some k → ¬ S k) :
    w'.ownsRow base e sz v n xs := by
  obtain ⟨hl, ⟨rfl, rfl⟩ | ⟨g, cap, cur, rfl, hb, hg, hr⟩⟩ := h
  · exact ⟨hl, .inl ⟨rfl, rfl⟩⟩
  · exact ⟨hl, .inr ⟨g, cap, cur, rfl, hb, by rw [x.block g (lt_of_get hg) (hs g rfl)]; exact hg, hr⟩⟩
theorem ownsRow_base {base base' : Nat} {e : TypeId} {sz n : Nat} {v : Value} {xs : List Value} (h : w.ownsRow base e sz v n xs) (hb : base' ≤ base) : w.ownsRow base' e sz v n xs := by
  obtain ⟨hl, h | ⟨g, cap, cur, h1, h2, hr⟩⟩ := h
  · exact ⟨hl, .inl h⟩
  · exact ⟨hl, .inr ⟨g, cap, cur, h1, by omega, hr⟩⟩
theorem ownsRow_ge {base : Nat} {e : TypeId} {sz n : Nat} {v : Value} {xs : List Value} (h : w.ownsRow base e sz v n xs) {k : Nat} (hk : v.ownBlock = some k) : base ≤ k := by
  obtain ⟨hl, ⟨rfl, rfl⟩ | ⟨g, cap, cur, rfl, hb, hr⟩⟩ := h
  · simp [Value.ownBlock] at hk
  · simp [Value.ownBlock] at hk; omega
theorem ownsRow_added {B : Nat} {base : Nat} {e : TypeId} {sz n : Nat} {cs : List Value} {w' : World} (h : Added w w' B (.cells cs.toArray e (0, 0))) (hb : base ≤ B) (hl : cs.length = n * sz) (hm : n ≤ maxLen) :
    w'.ownsRow base e sz (.slice (some ⟨B, 0, none⟩) n n) n cs := by
  refine ⟨hl, .inr ⟨B, n, cs.toArray, rfl, hb, h.at_, Nat.le_refl _, hm, by simpa using hl, ?_⟩⟩
  simp [← hl]

/-! ### Lengths -/
theorem OpV.lenV {T : Tab} (hT : T.Ok P) {t e : TypeId} {sz : Nat} {ag : Bool} {s bb : Nat} {z : List Value} {a u : Bool} {x : Operand} {v : Value} {d : Option Addr} {n cap : Nat}
    (ht : T.get t = some ⟨.slc sz ag e, s, bb, z, a, u⟩) (hx : evO env x = some v) (hv : v = .slice d n cap) :
    OpV P env w ⟨dst, .call ⟨.builtin .len, #[x], #[t]⟩, ty, pos, after, guard⟩ (.int .i64 (n : Int)) := .of_run fun ρ hρ => by
  subst hv
  refine ⟨Builtin.len_ #[t] ty #[.slice d n cap], by simp only [execOp, resolve, List.map_toArray, List.map_cons, List.map_nil, hρ _ _ hx]; rfl, ?_⟩
  have hu := (TD.of_slc (TI.tdof (hT.get _ _ ht)).symm).1
  simp [Builtin.len_, bind, Sem.bind, Sem.run, goInt, pure, underlying, program, hu]
theorem OpV.lenSl {w' : World} {T : Tab} (hT : T.Ok P) {t e : TypeId} {sz : Nat} {ag : Bool} {s bb : Nat} {z : List Value} {a u : Bool} {x : Operand} {v : Value} {n : Nat} {cs : List Value} {sz' : Nat}
    (ht : T.get t = some ⟨.slc sz ag e, s, bb, z, a, u⟩) (hx : evO env x = some v) (hv : IsSl w' sz' v n cs) :
    OpV P env w ⟨dst, .call ⟨.builtin .len, #[x], #[t]⟩, ty, pos, after, guard⟩ (.int .i64 (n : Int)) := by
  rcases hv.inv with ⟨d0, rfl, rfl, rfl⟩ | ⟨b, o, cap, rfl, -⟩
  · exact OpV.lenV (cap := 0) hT ht hx rfl
  · exact OpV.lenV hT ht hx rfl
theorem OpV.cap {T : Tab} (hT : T.Ok P) {t e : TypeId} {sz : Nat} {ag : Bool} {s bb : Nat} {z : List Value} {a u : Bool} {x : Operand} {d : Option Addr} {n cap : Nat}
    (ht : T.get t = some ⟨.slc sz ag e, s, bb, z, a, u⟩) (hx : evO env x = some (.slice d n cap)) :
    OpV P env w ⟨dst, .call ⟨.builtin .cap, #[x], #[t]⟩, ty, pos, after, guard⟩ (.int .i64 (cap : Int)) := .of_run fun ρ hρ => by
  refine ⟨Builtin.cap_ #[t] ty #[.slice d n cap], by simp only [execOp, resolve, List.map_toArray, List.map_cons, List.map_nil, hρ _ _ hx]; rfl, ?_⟩
  have hu := (TD.of_slc (TI.tdof (hT.get _ _ ht)).symm).1
  simp [Builtin.cap_, bind, Sem.bind, Sem.run, goInt, pure, underlying, program, hu]

/-! ### Parts -/
theorem OpE.part {T : Tab} (hT : T.Ok P) {t e : TypeId} {sz : Nat} {ag : Bool} {s bb : Nat} {z : List Value} {a u : Bool} {x : Operand} {low high : Option Operand} {v : Value} {n lo hi : Nat} {cs : List Value}
    (ht : T.get t = some ⟨.slc sz ag e, s, bb, z, a, u⟩) (hx : evO env x = some v) (hv : IsSl w sz v n cs) (hl : Bnd env low 0 lo) (hh : Bnd env high n hi) (h1 : lo ≤ hi) (h2 : hi ≤ n) :
    OpE P env w ⟨dst, .slice t x low high none, ty, pos, after, guard⟩ (fun u w' => w = w' ∧ u.ownBlock = v.ownBlock ∧ IsSl w sz u (hi - lo) ((cs.drop (lo * sz)).take ((hi - lo) * sz))) fun _ _ => False := by
  rcases hv.inv with ⟨d0, rfl, rfl, rfl⟩ | ⟨b, o, cap, rfl, hr, hln, hc⟩
  · obtain rfl : hi = 0 := by omega
    obtain rfl : lo = 0 := by omega
    refine (OpV.sliceNil hT ht hx hl hh).e.mono ?_ fun _ _ h => h
    rintro _ _ ⟨rfl, rfl⟩
    exact ⟨rfl, rfl, by simpa using IsSl.nil (d := d0)⟩
  · refine (OpV.sliceS hT ht hx hl hh (.none (n := cap)) (.inl rfl) h1 (by omega) (Nat.le_refl _)).e.mono ?_ fun _ _ h => h
    rintro _ _ ⟨rfl, rfl⟩
    refine ⟨rfl, rfl, .row ?_ ?_ (by omega)⟩
    · by_cases he : cap = lo
      · have : hi - lo = 0 := by omega
        rw [this]
        intro i u hu
        simp at hu
      · unfold offOf; rw [if_neg he]
        exact (hr.drop _).take _
    · rw [List.length_take, List.length_drop, hln, ← Nat.mul_sub_right_distrib]
      exact Nat.min_eq_left (Nat.mul_le_mul_right _ (by omega))

/-! ### Room: append(nil, make([]T, n)...) -/
theorem OpE.growNil {T : Tab} (hT : T.Ok P) {t e ti : TypeId} {kt : IntKind} {sz : Nat} {ag : Bool} {s bb s' bb' : Nat} {z z' : List Value} {a u a' u' : Bool} {ie : TI} {x y : Operand} {kd : IntKind} {i : Int} {m : Nat}
    (ht : T.get t = some ⟨.slc sz ag e, s, bb, z, a, u⟩) (hti : T.get ti = some ⟨.int kt, s', bb', z', a', u'⟩) (he : T.get e = some ie) (hz : ie.zero.length = sz) (hsz : Nat.blt 0 sz = true)
    (hx : evO env x = some (.slice none 0 0)) (hy : evO env y = some (.int kd i)) (hi : i = (m : Int)) (hm : 0 < m) (hb : m * ie.bytes ≤ 140737488355328) (h63 : m < 9223372036854775807) :
    OpE P env w ⟨dst, .call ⟨.builtin .append, #[x, y], #[t, ti]⟩, ty, pos, after, guard⟩
      (fun v w' => ∃ B cap, v = .slice (some ⟨B, 0, none⟩) m cap ∧ m ≤ cap ∧ cap ≤ maxLen ∧ B = w.heap.size ∧ Ext w w' ∧ ∃ cur, w'.heap[B]? = some (.cells cur e (0, 0)) ∧ cur.size = cap * sz) fun _ _ => False := by
  obtain ⟨hu, hc⟩ := TD.of_slc (TI.tdof (hT.get _ _ ht)).symm
  have hui := TD.of_int (TI.tdof (hT.get _ _ hti)).symm
  obtain ⟨j, dd, zv, hj, hd, hzv, h1, h2, h3, h4, h5, _⟩ := TI.inv (hT.get _ _ he)
  obtain ⟨ii, d', hii, hs', _, _⟩ := cellsAgg_inv hc
  rw [hii] at hj; cases hj
  have hzs : zv.cells.size = sz := by rw [← hz, h3]; simp
  subst hi
  have hsz' : 0 < sz := by simpa [Nat.blt_eq] using hsz
  have hwr : IntKind.i64.wrap (m : Int) = (m : Int) := wr_i64 (by omega) (by omega)
  have hcap := grownCap_ge w m 0 e
  have hcm : grownCap w m 0 e ≤ maxLen := grownCap_le_maxLen w m 0 e (by simp only [maxLen]; omega)
  have e48 : (2 : Int) ^ 48 = 281474976710656 := rfl
  have n48 : (2 : Nat) ^ 48 = 281474976710656 := rfl
  have hr : (Builtin.append_ #[t, ti] ty #[.slice none 0 0, .int kd (m : Int)]).run P w =
      .ok (.slice (some ⟨w.heap.size, 0, none⟩) m (grownCap w m 0 e)) (w.drew.alloc (.cells (Builtin.zeroCells zv.cells m ++ Builtin.zeroCells zv.cells (grownCap w m 0 e - m)) e)) := by
    have hn : m ≠ 0 := by omega
    have h63' : ¬ (9223372036854775807 < (m : Int)) := by omega
    have h48' : ¬ (281474976710656 < Builtin.nextslicecap m 0 * j.bytes) := by rw [nextslicecap_zero hm, ← h2]; omega
    have h0 : ¬ ((m : Int) < 0) := by omega
    have hneg : ¬ (281474976710656 < (m : Int) * (j.bytes : Int)) := by
      rw [← h2]
      have := Int.ofNat_le.2 hb
      rw [Int.natCast_mul] at this
      omega
    have hms : m * sz ≠ 0 := Nat.ne_of_gt (Nat.mul_pos hm hsz')
    have hmi : ¬ (m = 0 ∨ sz = 0) := by omega
    have hai : (asIntOf (.int kd (m : Int))).run P w = .ok (kd, (m : Int)) w := rfl
    have hmn : ¬ ((m : Int) ≤ 0) := by omega
    simp [Builtin.append_, run_underlying hu, run_underlying hui, sizeOf, typeInfo, zeroValue, hii, hzv, asInt, hai, hmn, hwr, h0, hneg, hn, h63', h48', Question.forced, run_firstCells_none, newRow, grownCap, hs', hms, hmi]
  refine .of_run (w' := _) (v := _) ?_ fun ρ hρ => ⟨_, by simp only [execOp, resolve, List.map_toArray, List.map_cons, List.map_nil, hρ _ _ hx, hρ _ _ hy] <;> rfl, hr⟩
  refine ⟨_, _, rfl, hcap, hcm, rfl, ⟨Nat.le_succ _, rfl, rfl, rfl, by simp, fun k hk _ => (by apply heap_alloc_old; exact hk)⟩, _, heap_alloc_new w.drew _, ?_⟩
  simp only [Array.size_append, size_zeroCells, hzs, ← Nat.add_mul]
  congr 1
  omega
end Go.Rn
namespace Go.Rn
variable {P : Program} {w : World} {env : Env} {dst : Option Tmp} {ty : TypeId} {pos : String} {after : Array Edge} {guard : Option (Nat × Bool)}
theorem OpV.sliceAq {T : Tab} (hT : T.Ok P) {t e : TypeId} {N sz : Nat} {ag : Bool} {s bb : Nat} {z : List Value} {a u : Bool} {x : Operand} {low high : Option Operand} {b o lo hi q len cap : Nat}
    (ht : T.get t = some ⟨.arr N sz ag e, s, bb, z, a, u⟩) (hx : evO env x = some (.pointer (some ⟨b, o, none⟩))) (hl : Bnd env low 0 lo) (hh : Bnd env high N hi) (h1 : lo ≤ hi) (h2 : hi ≤ N)
    (hq : offOf o lo N sz = q) (hlen : hi - lo = len) (hcap : N - lo = cap) :
    OpV P env w ⟨dst, .slice t x low high none, ty, pos, after, guard⟩ (.slice (some ⟨b, q, none⟩) len cap) := by
  subst hq; subst hlen; subst hcap
  exact OpV.sliceA hT ht hx hl hh (.none (n := N)) (.inl rfl) h1 h2 (Nat.le_refl _)
theorem OpV.sliceSq {T : Tab} (hT : T.Ok P) {t e : TypeId} {sz : Nat} {ag : Bool} {s bb : Nat} {z : List Value} {a u : Bool} {x : Operand} {low high : Option Operand} {b o n c lo hi q len cap : Nat}
    (ht : T.get t = some ⟨.slc sz ag e, s, bb, z, a, u⟩) (hx : evO env x = some (.slice (some ⟨b, o, none⟩) n c)) (hl : Bnd env low 0 lo) (hh : Bnd env high n hi) (h1 : lo ≤ hi) (h2 : hi ≤ c)
    (hq : offOf o lo c sz = q) (hlen : hi - lo = len) (hcap : c - lo = cap) :
    OpV P env w ⟨dst, .slice t x low high none, ty, pos, after, guard⟩ (.slice (some ⟨b, q, none⟩) len cap) := by
  subst hq; subst hlen; subst hcap
  exact OpV.sliceS hT ht hx hl hh (.none (n := c)) (.inl rfl) h1 h2 (Nat.le_refl _)

theorem u64_shr (n k : Nat) (hk : k ≤ 64) : ((n : Nat) : Int).fdiv (2 ^ (min k IntKind.u64.bits)) = ((n / 2 ^ k : Nat) : Int) := by
  have e : IntKind.u64.bits = 64 := rfl
  rw [e, Nat.min_eq_left hk, Int.fdiv_eq_ediv_of_nonneg _ (by exact Int.pow_nonneg (by omega))]
  simp
theorem u32_shr' (n k : Nat) (hk : k ≤ 32) : ((n : Nat) : Int).fdiv (2 ^ (min k IntKind.u32.bits)) = ((n / 2 ^ k : Nat) : Int) := by
  have e : IntKind.u32.bits = 32 := rfl
  rw [e, Nat.min_eq_left hk, Int.fdiv_eq_ediv_of_nonneg _ (by exact Int.pow_nonneg (by omega))]
  simp
theorem u8_of_nat (n : Nat) : IntKind.u8.wrap (n : Int) = ((UInt8.ofNat n).toNat : Int) := by
  rw [wrap_u8]; simp [UInt8.toNat_ofNat]
theorem i64_mul (a i : Nat) (h : a * i < 9223372036854775808) : IntKind.i64.wrap ((a : Int) * (i : Int)) = ((a * i : Nat) : Int) := by
  rw [← Int.natCast_mul]; exact wr_i64 (by omega) (by omega)
theorem i64_add (a i : Nat) (h : a + i < 9223372036854775808) : IntKind.i64.wrap ((a : Int) + (i : Int)) = ((a + i : Nat) : Int) := by
  rw [← Int.natCast_add]; exact wr_i64 (by omega) (by omega)
theorem i64_sub (a i : Nat) (h : i ≤ a) (h' : a < 9223372036854775808) : IntKind.i64.wrap ((a : Int) - (i : Int)) = ((a - i : Nat) : Int) := by
  rw [← Int.natCast_sub h]; exact wr_i64 (by omega) (by omega)
end Go.Rn
namespace Go.Rn
theorem Rets.v {P : Program} {g : FuncId} {fi args all : List Value} {w : World} {R : Value → World → Prop} (h : Rets P g all w R) (e : fi ++ args = all) :
    FnV P (.func (.func g) fi.toArray [].toArray) args w R fun _ _ => False := by
  subst e
  exact RetsX.v (fi := fi) (args := args) (ca := []) (by rw [List.append_nil]; exact h)
end Go.Rn
namespace Go.Rn
theorem u64_nat (n : Nat) (h : n < 18446744073709551616) : IntKind.u64.wrap (n : Int) = (n : Int) := wr_u64 (by omega) (by omega)
theorem u64_mul (n a : Nat) (h : n * a < 18446744073709551616) : IntKind.u64.wrap ((n : Int) * (a : Int)) = ((n * a : Nat) : Int) := by rw [← Int.natCast_mul]; exact u64_nat _ h
end Go.Rn
namespace Go.Rn
variable {P : Program} {w : World} {env : Env} {dst : Option Tmp} {ty : TypeId} {pos : String} {after : Array Edge} {guard : Option (Nat × Bool)}
/-- All of a slice is copied into a part of a block. -/
theorem OpE.copySl {T : Tab} (hT : T.Ok P) {t t' e : TypeId} {sz : Nat} {ag : Bool} {s bb : Nat} {z : List Value} {a u : Bool} {x y : Operand} {b o len cap n : Nat} {v : Value} {cs vs : List Value} {bt : TypeId}
    (ht : T.get t = some ⟨.slc sz ag e, s, bb, z, a, u⟩) (hx : evO env x = some (.slice (some ⟨b, o, none⟩) len cap)) (hy : evO env y = some v)
    (hb : Blk w b cs bt) (hv : IsSl w sz v n vs) (hn : n ≤ len) (hfit : o + vs.length ≤ cs.length) (hp : vs.all plainV = true) :
    OpE P env w ⟨dst, .call ⟨.builtin .copy, #[x, y], #[t, t']⟩, ty, pos, after, guard⟩ (fun r w' => r = .int .i64 (n : Nat) ∧ Blk w' b (setAt cs o vs) bt ∧ ExtB (· = b) w w') fun _ _ => False := by
  rcases hv.inv with ⟨d0, rfl, rfl, rfl⟩ | ⟨b', o', cap', rfl, hr, hl, hc⟩
  · refine (OpE.copy0 hT ht hx hy (by simp)).mono ?_ fun _ _ h => h
    rintro _ _ ⟨rfl, rfl⟩
    exact ⟨rfl, hb, .refl _ _⟩
  · refine (OpE.copy hT ht hx hy hb hr (by rw [Nat.min_eq_left hn]; exact hl) hfit hp).mono ?_ fun _ _ h => h
    rintro _ w' ⟨rfl, t1⟩
    rw [Nat.min_eq_left hn]
    exact ⟨rfl, t1.at_, t1.ext⟩
end Go.Rn
namespace Go.Rn
theorem zerosL_one (v : Value) : ∀ n, zerosL [v] n = List.replicate n v
  | 0 => rfl
  | n + 1 => by simp [zerosL, zerosL_one v n, List.replicate_succ]
end Go.Rn
namespace Go.Rn
variable {P : Program} {c : Ctx} {k : List Item} {Q : Out → Act → World → Prop} {w : World} {n : Nat} {ds : List Deferred} {env : Env}
variable {ops : Array Oper} {d : Tmp} {ty : TypeId} {pos : String} {after : Array Edge} {guard : Option (Nat × Bool)} {rest : List Oper} {dst : Option Tmp}
theorem setAt_mid (X Y Z V : List Value) (h : V.length = Y.length) : setAt (X ++ Y ++ Z) X.length V = X ++ V ++ Z := by
  induction V generalizing X Y with
  | nil =>
    obtain rfl : Y = [] := List.eq_nil_of_length_eq_zero (by simpa using h.symm)
    rfl
  | cons v r ih =>
    cases Y with
    | nil => simp at h
    | cons y Y' =>
      unfold setAt
      have e : (X ++ y :: Y' ++ Z).set X.length v = (X ++ [v]) ++ Y' ++ Z := by simp
      rw [e]
      have := ih (X ++ [v]) Y' (by simpa using h)
      rw [List.length_append, List.length_singleton] at this
      rw [this]; simp

/-! ### Slices that are written out -/
def enumV : Nat → List Value → List (Nat × Value)
  | _, [] => []
  | i, v :: r => (i, v) :: enumV (i + 1) r
def cellsAll : List Value → List Value
  | [] => []
  | v :: r => v.cells.toList ++ cellsAll r
theorem cellsAll_length {sz : Nat} : ∀ (vs : List Value), (∀ v ∈ vs, v.cells.toList.length = sz) → (cellsAll vs).length = vs.length * sz
  | [], _ => by simp [cellsAll]
  | v :: r, h => by
    rw [cellsAll, List.length_append, h v (by simp), cellsAll_length r (fun u hu => h u (by simp [hu])), List.length_cons, Nat.add_mul]; omega
theorem fill_enum {sz : Nat} : ∀ (vs A R : List Value) (i : Nat), A.length = i * sz → R.length = vs.length * sz → (∀ v ∈ vs, v.cells.toList.length = sz) →
    fillL (fun i => some (i * sz, sz)) (A ++ R) (enumV i vs) = some (A ++ cellsAll vs)
  | [], A, R, i, hA, hR, _ => by
    obtain rfl : R = [] := List.eq_nil_of_length_eq_zero (by simpa using hR)
    rfl
  | v :: r, A, R, i, hA, hR, hv => by
    rw [List.length_cons, Nat.add_mul] at hR
    have hl := hv v (by simp)
    simp only [enumV, fillL]
    have c1 : Nat.beq v.cells.toList.length sz = true := by rw [hl]; exact Nat.beq_refl sz
    have c2 : Nat.ble (i * sz + v.cells.toList.length) (A ++ R).length = true := by rw [Nat.ble_eq, hl, List.length_append, hA, hR]; omega
    rw [c1, c2]
    simp only [Bool.and_self, cond_true]
    have e : A ++ R = A ++ R.take sz ++ R.drop sz := by rw [List.append_assoc, List.take_append_drop]
    have m := setAt_mid A (R.take sz) (R.drop sz) v.cells.toList (by rw [hl, List.length_take]; omega)
    rw [hA] at m
    rw [e, m, fill_enum r (A ++ v.cells.toList) (R.drop sz) (i + 1) (by rw [List.length_append, hA, hl, Nat.add_mul]; omega) (by rw [List.length_drop]; omega) (fun u hu => hv u (by simp [hu])), cellsAll]
    simp

theorem OpE.buildSl {T : Tab} (hT : T.Ok P) {t e : TypeId} {sz : Nat} {ag : Bool} {s b len : Nat} {z : List Value} {a u : Bool} {ie : TI} {parts : Array (Nat × Operand)} (vs : List Value)
    (ht : T.get t = some ⟨.slc sz ag e, s, b, z, a, u⟩) (he : T.get e = some ie) (hz : ie.zero.length = sz) (hlen : Nat.ble (len * sz) 16777216 = true) (hp : evParts env parts.toList = some (enumV 0 vs))
    (hl : vs.length = len) (hv : ∀ v ∈ vs, v.cells.toList.length = sz) :
    OpE P env w ⟨dst, .buildSlice t len parts, ty, pos, after, guard⟩ (fun v w' => ∃ B, v = .slice (some ⟨B, 0, none⟩) len len ∧ Added w w' B (.cells (cellsAll vs).toArray e (0, 0))) fun _ _ => False := by
  have hcs : buildCells ie.zero len sz (enumV 0 vs) = some (cellsAll vs) := by
    unfold buildCells
    have := fill_enum vs [] (zerosL ie.zero len) 0 (by simp) (by rw [zerosL_length, hz, hl]) hv
    rw [List.nil_append, List.nil_append] at this
    rw [this]
    simp only [force_eq]
  refine .of_run (w' := { w with heap := w.heap.push (.cells (cellsAll vs).toArray e) }) (v := .slice (some ⟨w.heap.size, 0, none⟩) len len) ⟨_, rfl, added_push w _⟩ fun ρ hρ => ⟨_, rfl, ?_⟩
  exact run_buildSlice hT ht he hz hlen (by rw [Array.toList_map]; exact evParts_map hρ hp) hcs
end Go.Rn
namespace Go.Rn
theorem isSl_added {w w' : World} {B : Nat} {e : TypeId} {sz n : Nat} {cs : List Value} (h : Added w w' B (.cells cs.toArray e (0, 0))) (hl : cs.length = n * sz) : IsSl w' sz (.slice (some ⟨B, 0, none⟩) n n) n cs :=
  .row (Blk.row (t := e) h.at_) hl (Nat.le_refl _)
end Go.Rn
end
section
/- Steps that part on a test; facts that go on to a later world. -/
namespace Go.Rn
open Go.RowKit
section
variable {P : Program} {c : Ctx} {k : List Item} {Q : Out → Act → World → Prop} {w : World} {n : Nat} {ds : List Deferred} {env : Env}
variable {ops : Array Oper} {d : Tmp} {op : Op} {ty : TypeId} {pos : String} {after : Array Edge} {guard : Option (Nat × Bool)} {rest : List Oper}
theorem RunL.pureC {T : Tab} (hT : T.Ok P) {m : Bool} (hw : wantE ops.toList env ⟨some d, op, ty, pos, after, guard⟩ = some true) (hdst : Nat.blt d n = true) (hv : evalOp T env op = some (.bool m))
    (ht : m = true → RunL P c n ds ops rest k Q ((d, .bool true) :: env) w) (hf : m = false → RunL P c n ds ops rest k Q ((d, .bool false) :: env) w) : RunL P c n ds ops (⟨some d, op, ty, pos, after, guard⟩ :: rest) k Q env w := by
  cases m with
  | true => exact .pure hT hw hdst hv (ht rfl)
  | false => exact .pure hT hw hdst hv (hf rfl)
/-- A value has just come: it is written in its normal form first. -/
def RunLN (P : Program) (c : Ctx) (n : Nat) (ds : List Deferred) (ops : Array Oper) (rest : List Oper) (k : List Item) (Q : Out → Act → World → Prop) (env : Env) (w : World) (d : Tmp) (v : Value) : Prop :=
  RunL P c n ds ops rest k Q ((d, v) :: env) w
theorem RunL.ev {T : Tab} (hT : T.Ok P) {v : Value} (hw : wantE ops.toList env ⟨some d, op, ty, pos, after, guard⟩ = some true) (hdst : Nat.blt d n = true) (hv : evalOp T env op = some v)
    (h : RunLN P c n ds ops rest k Q env w d v) : RunL P c n ds ops (⟨some d, op, ty, pos, after, guard⟩ :: rest) k Q env w := .pure hT hw hdst hv h
theorem RunL.evV {v : Value} (hw : wantE ops.toList env ⟨some d, op, ty, pos, after, guard⟩ = some true) (hdst : Nat.blt d n = true) (hd : isDefer op = false) (hv : OpV P env w ⟨some d, op, ty, pos, after, guard⟩ v)
    (h : RunLN P c n ds ops rest k Q env w d v) : RunL P c n ds ops (⟨some d, op, ty, pos, after, guard⟩ :: rest) k Q env w := .val hw hdst hd hv h
theorem RunLN.boolT {m : Bool} (hm : m = true) (h : RunL P c n ds ops rest k Q ((d, .bool true) :: env) w) : RunLN P c n ds ops rest k Q env w d (.bool m) := by subst hm; exact h
theorem RunLN.boolF {m : Bool} (hm : m = false) (h : RunL P c n ds ops rest k Q ((d, .bool false) :: env) w) : RunLN P c n ds ops rest k Q env w d (.bool m) := by subst hm; exact h
theorem RunLN.boolC {m : Bool} (ht : m = true → RunL P c n ds ops rest k Q ((d, .bool true) :: env) w) (hf : m = false → RunL P c n ds ops rest k Q ((d, .bool false) :: env) w) : RunLN P c n ds ops rest k Q env w d (.bool m) := by
  cases m with
  | true => exact ht rfl
  | false => exact hf rfl
theorem RunLN.decT {p : Prop} [Decidable p] (hp : p) (h : RunL P c n ds ops rest k Q ((d, .bool true) :: env) w) : RunLN P c n ds ops rest k Q env w d (.bool (decide p)) := .boolT (decide_eq_true hp) h
theorem RunLN.decF {p : Prop} [Decidable p] (hp : ¬ p) (h : RunL P c n ds ops rest k Q ((d, .bool false) :: env) w) : RunLN P c n ds ops rest k Q env w d (.bool (decide p)) := .boolF (decide_eq_false hp) h
theorem RunLN.eqT {a b : Int} (hp : a = b) (h : RunL P c n ds ops rest k Q ((d, .bool true) :: env) w) : RunLN P c n ds ops rest k Q env w d (.bool (a == b)) := .boolT (beq_iff_eq.2 hp) h
theorem RunLN.eqF {a b : Int} (hp : a ≠ b) (h : RunL P c n ds ops rest k Q ((d, .bool false) :: env) w) : RunLN P c n ds ops rest k Q env w d (.bool (a == b)) := .boolF (beq_eq_false_iff_ne.2 hp) h
theorem RunLN.neT {a b : Int} (hp : a ≠ b) (h : RunL P c n ds ops rest k Q ((d, .bool true) :: env) w) : RunLN P c n ds ops rest k Q env w d (.bool (a != b)) := .boolT (bne_iff_ne.2 hp) h
theorem RunLN.neF {a b : Int} (hp : a = b) (h : RunL P c n ds ops rest k Q ((d, .bool false) :: env) w) : RunLN P c n ds ops rest k Q env w d (.bool (a != b)) := .boolF (bne_eq_false_iff_eq.2 hp) h
theorem RunLN.int {kd : IntKind} {m m' : Int} (hm : m = m') (h : RunL P c n ds ops rest k Q ((d, .int kd m') :: env) w) : RunLN P c n ds ops rest k Q env w d (.int kd m) := by subst hm; exact h
theorem RunLN.any {v : Value} (h : RunL P c n ds ops rest k Q ((d, v) :: env) w) : RunLN P c n ds ops rest k Q env w d v := h
/-- A call that gives a value and changes nothing. -/
theorem RunL.callN {g : FuncId} {args : Array Operand} {ts : Array TypeId} {vs : List Value} {v : Value}
    (hw : wantE ops.toList env ⟨some d, .call ⟨.value (.func g), args, ts⟩, ty, pos, after, guard⟩ = some true) (hdst : Nat.blt d n = true) (ha : evL env args.toList = some vs)
    (hc : Rets P g vs w fun u w' => u = v ∧ w = w') (h : RunLN P c n ds ops rest k Q env w d v) :
    RunL P c n ds ops (⟨some d, .call ⟨.value (.func g), args, ts⟩, ty, pos, after, guard⟩ :: rest) k Q env w :=
  .call hw hdst ha hc fun _ _ hr => by obtain ⟨rfl, rfl⟩ := hr; exact h
/-- A value that is known to be such a Bool, taken apart. -/
theorem RunL.valC {m : Bool} (hw : wantE ops.toList env ⟨some d, op, ty, pos, after, guard⟩ = some true) (hdst : Nat.blt d n = true) (hd : isDefer op = false) (hv : OpV P env w ⟨some d, op, ty, pos, after, guard⟩ (.bool m))
    (ht : m = true → RunL P c n ds ops rest k Q ((d, .bool true) :: env) w) (hf : m = false → RunL P c n ds ops rest k Q ((d, .bool false) :: env) w) : RunL P c n ds ops (⟨some d, op, ty, pos, after, guard⟩ :: rest) k Q env w := by
  cases m with
  | true => exact .val hw hdst hd hv (ht rfl)
  | false => exact .val hw hdst hd hv (hf rfl)
end
section
variable {P : Program} {c : Ctx} {k : List Item} {Q : Out → Act → World → Prop} {w0 : World} {n : Nat} {ds : List Deferred} {env : Env} {S : Nat → Prop} {sats pres : List (Nat × Pred)} {ph : Option (Option Nat × Pred)} {mu : List Bool}
variable {l : List Oper} {d : Tmp} {op : Op} {ty : TypeId} {pos : String} {after : Array Edge} {guard : Option (Nat × Bool)} {rest : List Oper}
theorem Asy.pureC {T : Tab} (hT : T.Ok P) {m : Bool} (hw : wantE l env ⟨some d, op, ty, pos, after, guard⟩ = some true) (hdst : Nat.blt d n = true) (hv : evalOp T env op = some (.bool m))
    (ht : m = true → Asy P c n ds S w0 l k Q rest ⟨(d, .bool true) :: env, sats, ph, false :: mu, pres⟩) (hf : m = false → Asy P c n ds S w0 l k Q rest ⟨(d, .bool false) :: env, sats, ph, false :: mu, pres⟩) :
    Asy P c n ds S w0 l k Q (⟨some d, op, ty, pos, after, guard⟩ :: rest) ⟨env, sats, ph, mu, pres⟩ := by
  cases m with
  | true => exact .pure hT hw hdst hv (ht rfl)
  | false => exact .pure hT hw hdst hv (hf rfl)
def AsyN (P : Program) (c : Ctx) (n : Nat) (ds : List Deferred) (S : Nat → Prop) (w0 : World) (l : List Oper) (k : List Item) (Q : Out → Act → World → Prop) (rest : List Oper) (env : Env) (sats : List (Nat × Pred)) (ph : Option (Option Nat × Pred)) (mu : List Bool) (pres : List (Nat × Pred)) (d : Tmp) (v : Value) : Prop :=
  Asy P c n ds S w0 l k Q rest ⟨(d, v) :: env, sats, ph, false :: mu, pres⟩
theorem Asy.ev {T : Tab} (hT : T.Ok P) {v : Value} (hw : wantE l env ⟨some d, op, ty, pos, after, guard⟩ = some true) (hdst : Nat.blt d n = true) (hv : evalOp T env op = some v)
    (h : AsyN P c n ds S w0 l k Q rest env sats ph mu pres d v) : Asy P c n ds S w0 l k Q (⟨some d, op, ty, pos, after, guard⟩ :: rest) ⟨env, sats, ph, mu, pres⟩ := .pure hT hw hdst hv h
theorem Asy.evV {v : Value} (hw : wantE l env ⟨some d, op, ty, pos, after, guard⟩ = some true) (hdst : Nat.blt d n = true) (hd : isDefer op = false) (hs : isSel op = false)
    (hv : ∀ w', ExtB S w0 w' → OpV P env w' ⟨some d, op, ty, pos, after, guard⟩ v)
    (h : AsyN P c n ds S w0 l k Q rest env sats ph mu pres d v) : Asy P c n ds S w0 l k Q (⟨some d, op, ty, pos, after, guard⟩ :: rest) ⟨env, sats, ph, mu, pres⟩ := .v hw hdst hd hs hv h
theorem AsyN.boolT {m : Bool} (hm : m = true) (h : Asy P c n ds S w0 l k Q rest ⟨(d, .bool true) :: env, sats, ph, false :: mu, pres⟩) : AsyN P c n ds S w0 l k Q rest env sats ph mu pres d (.bool m) := by subst hm; exact h
theorem AsyN.boolF {m : Bool} (hm : m = false) (h : Asy P c n ds S w0 l k Q rest ⟨(d, .bool false) :: env, sats, ph, false :: mu, pres⟩) : AsyN P c n ds S w0 l k Q rest env sats ph mu pres d (.bool m) := by subst hm; exact h
theorem AsyN.boolC {m : Bool} (ht : m = true → Asy P c n ds S w0 l k Q rest ⟨(d, .bool true) :: env, sats, ph, false :: mu, pres⟩) (hf : m = false → Asy P c n ds S w0 l k Q rest ⟨(d, .bool false) :: env, sats, ph, false :: mu, pres⟩) :
    AsyN P c n ds S w0 l k Q rest env sats ph mu pres d (.bool m) := by
  cases m with
  | true => exact ht rfl
  | false => exact hf rfl
theorem AsyN.decT {p : Prop} [Decidable p] (hp : p) (h : Asy P c n ds S w0 l k Q rest ⟨(d, .bool true) :: env, sats, ph, false :: mu, pres⟩) : AsyN P c n ds S w0 l k Q rest env sats ph mu pres d (.bool (decide p)) := .boolT (decide_eq_true hp) h
theorem AsyN.decF {p : Prop} [Decidable p] (hp : ¬ p) (h : Asy P c n ds S w0 l k Q rest ⟨(d, .bool false) :: env, sats, ph, false :: mu, pres⟩) : AsyN P c n ds S w0 l k Q rest env sats ph mu pres d (.bool (decide p)) := .boolF (decide_eq_false hp) h
theorem AsyN.eqT {a b : Int} (hp : a = b) (h : Asy P c n ds S w0 l k Q rest ⟨(d, .bool true) :: env, sats, ph, false :: mu, pres⟩) : AsyN P c n ds S w0 l k Q rest env sats ph mu pres d (.bool (a == b)) := .boolT (beq_iff_eq.2 hp) h
theorem AsyN.eqF {a b : Int} (hp : a ≠ b) (h : Asy P c n ds S w0 l k Q rest ⟨(d, .bool false) :: env, sats, ph, false :: mu, pres⟩) : AsyN P c n ds S w0 l k Q rest env sats ph mu pres d (.bool (a == b)) := .boolF (beq_eq_false_iff_ne.2 hp) h
theorem AsyN.neT {a b : Int} (hp : a ≠ b) (h : Asy P c n ds S w0 l k Q rest ⟨(d, .bool true) :: env, sats, ph, false :: mu, pres⟩) : AsyN P c n ds S w0 l k Q rest env sats ph mu pres d (.bool (a != b)) := .boolT (bne_iff_ne.2 hp) h
theorem AsyN.neF {a b : Int} (hp : a = b) (h : Asy P c n ds S w0 l k Q rest ⟨(d, .bool false) :: env, sats, ph, false :: mu, pres⟩) : AsyN P c n ds S w0 l k Q rest env sats ph mu pres d (.bool (a != b)) := .boolF (bne_eq_false_iff_eq.2 hp) h
theorem AsyN.int {kd : IntKind} {m m' : Int} (hm : m = m') (h : Asy P c n ds S w0 l k Q rest ⟨(d, .int kd m') :: env, sats, ph, false :: mu, pres⟩) : AsyN P c n ds S w0 l k Q rest env sats ph mu pres d (.int kd m) := by subst hm; exact h
theorem AsyN.any {v : Value} (h : Asy P c n ds S w0 l k Q rest ⟨(d, v) :: env, sats, ph, false :: mu, pres⟩) : AsyN P c n ds S w0 l k Q rest env sats ph mu pres d v := h
theorem Asy.callN {g : FuncId} {args : Array Operand} {ts : Array TypeId} {vs : List Value} {v : Value}
    (hw : wantE l env ⟨some d, .call ⟨.value (.func g), args, ts⟩, ty, pos, after, guard⟩ = some true) (hdst : Nat.blt d n = true) (ha : evL env args.toList = some vs)
    (hc : ∀ w', ExtB S w0 w' → Rets P g vs w' fun u w'' => u = v ∧ Ext w' w'') (h : AsyN P c n ds S w0 l k Q rest env sats ph mu pres d v) :
    Asy P c n ds S w0 l k Q (⟨some d, .call ⟨.value (.func g), args, ts⟩, ty, pos, after, guard⟩ :: rest) ⟨env, sats, ph, mu, pres⟩ :=
  .val hw hdst rfl rfl (fun w' e => OpE.call ha (hc w' e)) h
/-- As pre0, sat1, wriP: it reads one that is known by a lasting law; two known by laws that last till now. -/
theorem Asy.pre1 (i : Nat) {t : Nat} {U : Pred} (V : Pred) (hi : sats[i]? = some (t, U)) (hl : (Oper.looksAt l.toArray ⟨some d, op, ty, pos, after, guard⟩).contains t = true)
    (hw : wantE l env ⟨some d, op, ty, pos, after, guard⟩ = some true) (hdst : Nat.blt d n = true) (hd : isDefer op = false) (hs : isSel op = false)
    (hV : ∀ v w' w'', ExtB S w0 w' → Ext w' w'' → V v w' → V v w'')
    (h : ∀ w' x, ExtB S w0 w' → U x w' → OpE P ((t, x) :: env) w' ⟨some d, op, ty, pos, after, guard⟩ (fun u w'' => Ext w' w'' ∧ V u w'') fun _ _ => False)
    (h' : Asy P c n ds S w0 l k Q rest ⟨env.del (some d), sats, ph, false :: mu, (d, V) :: pres⟩) : Asy P c n ds S w0 l k Q (⟨some d, op, ty, pos, after, guard⟩ :: rest) ⟨env, sats, ph, mu, pres⟩ :=
  .step (e := .pre V) ⟨hdst, hs, hw, hd, hV, fun w' ρ hx hg => h w' _ hx (hg.sat t U (List.mem_of_getElem? hi) (by simpa using hl)) ρ (ev_cons hg.ev rfl)⟩ h'
theorem Asy.wriP2 (i j : Nat) {t s : Nat} {U U' : Pred} (V : Pred) (hi : pres[i]? = some (t, U)) (hl : (Oper.looksAt l.toArray ⟨some d, op, ty, pos, after, guard⟩).contains t = true)
    (hj : pres[j]? = some (s, U')) (hl' : (Oper.looksAt l.toArray ⟨some d, op, ty, pos, after, guard⟩).contains s = true)
    (hw : wantE l env ⟨some d, op, ty, pos, after, guard⟩ = some true) (hdst : Nat.blt d n = true) (hd : isDefer op = false) (hs : isSel op = false)
    (hV : ∀ v w' w'', ExtB S w0 w' → Ext w' w'' → V v w' → V v w'')
    (h : ∀ w' x y, Ext w0 w' → U x w' → U' y w' → OpE P ((t, x) :: (s, y) :: env) w' ⟨some d, op, ty, pos, after, guard⟩ (fun u w'' => ExtB S w' w'' ∧ V u w'') fun _ _ => False)
    (h' : Asy P c n ds S w0 l k Q rest ⟨env.del (some d), sats, some (some d, V), true :: mu, pres⟩) : Asy P c n ds S w0 l k Q (⟨some d, op, ty, pos, after, guard⟩ :: rest) ⟨env, sats, none, mu, pres⟩ :=
  .step (e := .wri V) ⟨hdst, hs, hw, hd, hV, fun w' ρ hx hg hp => h w' _ _ hx (hp rfl t U (List.mem_of_getElem? hi) (by simpa using hl)) (hp rfl s U' (List.mem_of_getElem? hj) (by simpa using hl')) ρ (ev_cons (ev_cons hg.ev rfl) rfl)⟩ h'
/-- It writes what was there. -/
theorem Asy.keepN (hw : wantE l env ⟨none, op, ty, pos, after, guard⟩ = some true) (hd : isDefer op = false) (hs : isSel op = false)
    (h : ∀ w', ExtB S w0 w' → OpE P env w' ⟨none, op, ty, pos, after, guard⟩ (fun u w'' => u = undef ∧ w'' = w') fun _ _ => False)
    (h' : Asy P c n ds S w0 l k Q rest ⟨env, sats, ph, false :: mu, pres⟩) : Asy P c n ds S w0 l k Q (⟨none, op, ty, pos, after, guard⟩ :: rest) ⟨env, sats, ph, mu, pres⟩ :=
  .step (e := .val undef) ⟨rfl, hs, .inr ⟨hw, hd, fun w' ρ hx hg => (h w' hx ρ hg.ev).mono (by rintro _ _ ⟨rfl, rfl⟩; exact ⟨rfl, ExtB.refl _ _⟩) (fun _ _ h => h)⟩⟩ h'
theorem Asy.end_ (hc : chk l mu.reverse l [] = true) (h : ∀ w', Ext w0 w' → RunL P c n ds l.toArray rest k Q env w') : Asy P c n ds (fun _ => False) w0 l k Q rest ⟨env, [], none, mu, pres⟩ :=
  .tail hc fun w' e => by simpa [satsAll] using h w' e
end
theorem setObj_same {w : World} {b : Nat} {o : Obj} (h : w.heap[b]? = some o) : World.setObj w b o = w := by
  unfold World.setObj
  have : w.heap.setIfInBounds b o = w.heap := by
    apply Array.ext_getElem?
    intro k
    rw [Array.getElem?_setIfInBounds]
    by_cases e : b = k
    · subst e; rw [if_pos rfl, if_pos (lt_of_get h)]; exact h.symm
    · rw [if_neg e]
  rw [this]
theorem OpE.storeSame {P : Program} {w : World} {env : Env} {ty : TypeId} {pos : String} {after : Array Edge} {guard : Option (Nat × Bool)} {T : Tab} (hT : T.Ok P) {t bt : TypeId} {i : TI} {x y : Operand} {b o : Nat} {v : Value} {cs : List Value}
    (hx : evO env x = some (.pointer (some ⟨b, o, none⟩))) (hy : evO env y = some v)
    (ht : T.get t = some i) (hsz : v.cells.toList.length = i.size) (hb : Blk w b cs bt) (hlen : Nat.ble (o + v.cells.toList.length) cs.length = true) (hp : v.cells.toList.all plainV = true) (he : setAt cs o v.cells.toList = cs) :
    OpE P env w ⟨none, .store t x y, ty, pos, after, guard⟩ (fun u w' => u = undef ∧ w' = w) fun _ _ => False := fun ρ hρ => by
  refine ExecE.of_skip (w' := w) ?_ ⟨rfl, rfl⟩
  simp only [execOp, Instr.storeAt, hρ _ _ hx, hρ _ _ hy]
  refine Eq.trans (run_bind (v := ()) (w' := w) _ _ ?_) rfl
  rw [run_bind _ _ (show (Instr.sureAddr (.pointer (some ⟨b, o, none⟩))).run P w = .ok ⟨b, o, none⟩ w from rfl)]
  obtain ⟨j, hj, hs, _⟩ := TI.info (hT.get _ _ ht)
  unfold storeVar
  rw [run_bind _ _ (run_sizeOf hj)]
  rw [if_neg (by rw [hs, ← hsz]; simp)]
  have := run_storeCells (P := P) v.cells.toList 0 cs hb (by have := Nat.le_of_ble_eq_true hlen; omega) (List.all_eq_true.1 hp)
  rw [Nat.add_zero, he] at this
  rw [show World.setObj w b (.cells cs.toArray bt (0, 0)) = w from setObj_same hb] at this
  simpa using this
theorem Blk.up {w w' : World} {b : Nat} {cs : List Value} {t : TypeId} (h : Blk w b cs t) (e : Ext w w') : Blk w' b cs t := h.ext e id
theorem Row.up {w w' : World} {b o : Nat} {cs : List Value} (h : Row w b o cs) (e : Ext w w') : Row w' b o cs := h.extE e
theorem IsSl.up {w w' : World} {sz n : Nat} {v : Value} {cs : List Value} (h : IsSl w sz v n cs) (e : Ext w w') : IsSl w' sz v n cs := h.extE e
/-- A new block stands behind what was there. -/
theorem Added.ge {w w1 w' : World} {B : Nat} {o : Obj} (h : Added w1 w' B o) (x : Ext w w1) : w.heap.size ≤ B := by rw [h.eq]; exact x.size
/-- An own block is written. -/
theorem ExtB.own {w w1 w2 : World} {B : Nat} (x : Ext w w1) (e : ExtB (· = B) w1 w2) (h : w.heap.size ≤ B) : Ext w w2 := x.write e fun i hi hlt => by subst hi; omega
theorem Blk.other {w w' : World} {b B : Nat} {cs : List Value} {t : TypeId} (h : Blk w b cs t) (e : ExtB (· = B) w w') (hn : b ≠ B) : Blk w' b cs t := h.ext e hn
end Go.Rn
namespace Go.Rec
open Go.Rn
/-- Elements of k cells each. -/
structure EncOk {α : Type} (enc : α → List Value) (k : Nat) : Prop where
  len : ∀ x, (enc x).length = k
  plain : ∀ x, (enc x).all plainV = true
  pos : 0 < k
section
variable {α : Type} {enc : α → List Value} {k : Nat}
def flat (enc : α → List Value) (l : List α) : List Value := (l.map enc).flatten
theorem flat_nil : flat enc [] = [] := rfl
theorem flat_cons (x : α) (l : List α) : flat enc (x :: l) = enc x ++ flat enc l := by simp [flat]
theorem flat_append (a b : List α) : flat enc (a ++ b) = flat enc a ++ flat enc b := by simp [flat]
theorem flat_one (x : α) : flat enc [x] = enc x := by simp [flat]
theorem flat_length (h : EncOk enc k) : ∀ (l : List α), (flat enc l).length = l.length * k
  | [] => by simp [flat]
  | x :: l => by rw [flat_cons, List.length_append, h.len, flat_length h l, List.length_cons, Nat.add_mul]; omega
theorem flat_drop (h : EncOk enc k) : ∀ (l : List α) (i : Nat), (flat enc l).drop (i * k) = flat enc (l.drop i)
  | l, 0 => by simp
  | [], i + 1 => by simp [flat]
  | x :: l, i + 1 => by
    rw [flat_cons, List.drop_succ_cons, ← flat_drop h l i, List.drop_append, h.len, Nat.add_mul, Nat.one_mul, Nat.add_sub_cancel]
    rw [List.drop_eq_nil_of_le (by rw [h.len]; omega)]; rfl
theorem flat_take (h : EncOk enc k) : ∀ (l : List α) (i : Nat), (flat enc l).take (i * k) = flat enc (l.take i)
  | l, 0 => by simp [flat]
  | [], i + 1 => by simp [flat]
  | x :: l, i + 1 => by
    rw [flat_cons, List.take_succ_cons, flat_cons, ← flat_take h l i, List.take_append, h.len, Nat.add_mul, Nat.one_mul, Nat.add_sub_cancel]
    rw [List.take_of_length_le (by rw [h.len]; omega)]
theorem flat_plain (h : EncOk enc k) (l : List α) : (flat enc l).all plainV = true := by
  simp only [flat, List.all_flatten, List.all_map, List.all_eq_true]
  intro x _; exact h.plain x
theorem flat_row (h : EncOk enc k) {w : World} {b o : Nat} {l : List α} (hr : Row w b o (flat enc l)) {i : Nat} {x : α} (hx : l[i]? = some x) : Row w b (o + i * k) (enc x) := by
  refine hr.window (k := i * k) fun j v hv => ?_
  have e := flat_drop h l i
  have hd : l.drop i = x :: l.drop (i + 1) := by
    obtain ⟨hi, e⟩ := List.getElem?_eq_some_iff.1 hx
    rw [List.drop_eq_getElem_cons hi, e]
  rw [hd, flat_cons] at e
  have := congrArg (·[j]?) e
  simp only [List.getElem?_drop] at this
  rw [this, List.getElem?_append_left]
  · exact hv
  · rcases Nat.lt_or_ge j (enc x).length with h' | h'
    · exact h'
    · rw [List.getElem?_eq_none h'] at hv; simp at hv
abbrev IsL (w : World) (enc : α → List Value) (k : Nat) (v : Value) (l : List α) : Prop := IsSl w k v l.length (flat enc l)
/-- Opened: nothing, or a row. -/
theorem isL_inv {w : World} {v : Value} {l : List α} (h : IsL w enc k v l) : (∃ d, v = .slice d 0 0 ∧ l = []) ∨ ∃ b o cap, v = .slice (some ⟨b, o, none⟩) l.length cap ∧ Row w b o (flat enc l) ∧ l.length ≤ cap := by
  rcases h.inv with ⟨d, rfl, h, -⟩ | ⟨b, o, cap, rfl, hr, -, hc⟩
  · exact .inl ⟨d, rfl, List.length_eq_zero_iff.1 h⟩
  · exact .inr ⟨b, o, cap, rfl, hr, hc⟩
theorem isSl_slice {w : World} {sz n : Nat} {v : Value} {cs : List Value} (h : IsSl w sz v n cs) : ∃ d c, v = .slice d n c := by
  rcases h.inv with ⟨d, rfl, h, -⟩ | ⟨b, o, c, rfl, -⟩
  · exact ⟨d, 0, by rw [h]⟩
  · exact ⟨_, c, rfl⟩
theorem isL_ext {S : Nat → Prop} {w w' : World} {v : Value} {l : List α} (h : IsL w enc k v l) (e : ExtB S w w') (hs : l ≠ [] → ∀ j, v.ownBlock = some j → ¬ S j) : IsL w' enc k v l := by
  cases l with
  | cons a l => exact h.ext e (hs (by simp))
  | nil =>
    rcases h.inv with ⟨d, rfl, -, -⟩ | ⟨b, o, c, rfl, hr, hl, hc⟩
    · exact .nil
    · exact .row (fun i v hv => by simp [flat] at hv) hl hc
theorem isL_own {w : World} {v : Value} {l : List α} (h : IsL w enc k v l) (hk : 0 < k) (hl : l ≠ []) {j : Nat} (hj : v.ownBlock = some j) : j < w.heap.size := by
  cases l with
  | nil => exact absurd rfl hl
  | cons a l => exact h.lt (by simp) hk hj
theorem isL_held {w : World} {v : Value} {l : List α} (h : IsL w enc k v l) {i : Nat} (hi : i < l.length) : ∃ b o cap, v = .slice (some ⟨b, o, none⟩) l.length cap ∧ Row w b o (flat enc l) ∧ l.length ≤ cap := by
  obtain ⟨b, o, cap, h1, h2, -, h3⟩ := h.held (by omega)
  exact ⟨b, o, cap, h1, h2, h3⟩
end
end Go.Rec
end
section
/- Is it a number? (a step that fails at once where the value is none) -/
namespace Go.Rn
open Go.RowKit
section
variable {P : Program} {c : Ctx} {k : List Item} {Q : Out → Act → World → Prop} {w : World} {n : Nat} {ds : List Deferred} {env : Env}
variable {ops : Array Oper} {d : Tmp} {rest : List Oper}
theorem RunLN.chk {kd : IntKind} {m : Int} (h : RunLN P c n ds ops rest k Q env w d (.int kd m)) : RunLN P c n ds ops rest k Q env w d (.int kd m) := h
end
section
variable {P : Program} {c : Ctx} {k : List Item} {Q : Out → Act → World → Prop} {w0 : World} {n : Nat} {ds : List Deferred} {env : Env} {S : Nat → Prop} {sats pres : List (Nat × Pred)} {ph : Option (Option Nat × Pred)} {mu : List Bool} {l rest : List Oper} {d : Tmp}
theorem AsyN.chk {kd : IntKind} {m : Int} (h : AsyN P c n ds S w0 l k Q rest env sats ph mu pres d (.int kd m)) : AsyN P c n ds S w0 l k Q rest env sats ph mu pres d (.int kd m) := h
end
end Go.Rn
end
section
/- The codec's numbers and values. -/
namespace Go.Rn
open Go.RowKit Go.Lib
variable {P : Program} {w : World} {env : Env} {dst : Option Tmp} {ty : TypeId} {pos : String} {after : Array Edge} {guard : Option (Nat × Bool)}
/-- append(v, s...) of a string's bytes. -/
theorem OpE.appendStr {T : Tab} (hT : T.Ok P) {t u e : TypeId} {ag : Bool} {s bb s' bb' s2 : Nat} {z z' : List Value} {a u1 a' u' a2 u2 : Bool} {x y : Operand} {v : Value} {n base : Nat} {xs : List Value} {str : ByteArray} (hz : (P.info? e).bind (·.zero) = some (.int .u8 0))
    (ht : T.get t = some ⟨.slc 1 ag e, s, bb, z, a, u1⟩) (hu : T.get u = some ⟨.str, s', bb', z', a', u'⟩) (he : T.get e = some ⟨.int .u8, s2, 1, [.int .u8 0], a2, u2⟩)
    (hx : evO env x = some v) (hy : evO env y = some (.string str)) (hv : w.ownsRow base e 1 v n xs) (hb : n + str.size ≤ 140737488355328) (hbase : base ≤ w.heap.size) :
    OpE P env w ⟨dst, .call ⟨.builtin .append, #[x, y], #[t, u]⟩, ty, pos, after, guard⟩
      (fun v' w' => w'.ownsRow base e 1 v' (n + str.size) (xs ++ bytesV str.data.toList) ∧ ExtB (fun k => v.ownBlock = some k) w w') fun _ _ => False := by
  obtain ⟨hut, hc⟩ := TD.of_slc (TI.tdof (hT.get _ _ ht)).symm
  have hus := TD.of_str (TI.tdof (hT.get _ _ hu)).symm
  have hue := TD.of_int (TI.tdof (hT.get _ _ he)).symm
  obtain ⟨j, dd, zv, hj, hd, hzv, h1, h2, h3, h4, h5, _⟩ := TI.inv (hT.get _ _ he)
  obtain ⟨ii, d', hii, hs', _, _⟩ := cellsAgg_inv hc
  rw [hii] at hj; cases hj
  have hz : j.zero = some (.int .u8 0) := by rw [hii] at hz; exact hz
  obtain ⟨v', w', hrun, hown, hgr, -⟩ := run_append_own_string (P := P) (w := w) base t u ty e j hut hus hii hz hs' h2.symm v n xs hv str (by simp only [maxLen]; omega) hb hbase
  exact .of_run (w' := w') (v := v') ⟨hown, .of_grown hgr (run_drawn _ hrun)⟩ fun ρ hρ => ⟨_, by simp only [execOp, resolve, List.map_toArray, List.map_cons, List.map_nil, hρ _ _ hx, hρ _ _ hy] <;> rfl, hrun⟩

/-- x.(T), ok: it is one. -/
theorem OpV.assertT {t u : TypeId} {x : Operand} {v : Value} {d : TypeDesc} (hx : evO env x = some (.iface u v)) (hu : P.underlying u = some d) (hd : isIfaceD d = false) :
    OpV P env w ⟨dst, .typeAssert x t u true, ty, pos, after, guard⟩ (.tuple #[v, .bool true]) := .of_run fun ρ hρ => by
  refine ⟨_, by simp only [execOp, hρ _ _ hx]; rfl, ?_⟩
  unfold Instr.typeAssert
  rw [run_bind _ _ (run_underlying hu)]
  cases d <;> first | (simp [isIfaceD] at hd; done) | simp [Pure.pure, Sem.run]
/-- x.(T), ok: it is none. -/
theorem OpV.assertF {t u u' : TypeId} {x : Operand} {v zv : Value} {d : TypeDesc} (hx : evO env x = some (.iface u' v)) (hne : (Nat.beq u' u) = false) (hu : P.underlying u = some d) (hd : isIfaceD d = false)
    (hz : (P.info? u).bind (·.zero) = some zv) :
    OpV P env w ⟨dst, .typeAssert x t u true, ty, pos, after, guard⟩ (.tuple #[zv, .bool false]) := .of_run fun ρ hρ => by
  refine ⟨_, by simp only [execOp, hρ _ _ hx]; rfl, ?_⟩
  obtain ⟨i, hi, hiz⟩ := Option.bind_eq_some_iff.1 hz
  have hne' : ¬ u' = u := fun e => by subst e; simp at hne
  have hzr : (zeroValue u).run P w = .ok zv w := by unfold zeroValue; rw [run_bind _ _ (run_typeInfo hi), hiz]; rfl
  unfold Instr.typeAssert
  rw [run_bind _ _ (run_underlying hu)]
  cases d <;> first | (simp [isIfaceD] at hd; done) | (simp only [hne', if_false, if_true]; rw [run_bind _ _ hzr]; rfl)
end Go.Rn
end
section
/- Numbers of 32 bits as bit vectors. -/
namespace Go.Rn

theorem u32_bits : IntKind.u32.bits = 32 := rfl
theorem u32_wrap_nat (n : Nat) (h : n < 4294967296) : IntKind.u32.wrap (n : Int) = (n : Int) := wr_u32 (by omega) (by omega)
theorem bv_of (x : BitVec 32) : BitVec.ofInt IntKind.u32.bits (x.toNat : Int) = x := by
  show BitVec.ofInt 32 ((x.toNat : Nat) : Int) = x
  rw [BitVec.ofInt_natCast, BitVec.ofNat_toNat, BitVec.setWidth_eq]
theorem u32_xor (x y : BitVec 32) : IntKind.u32.wrap ((BitVec.ofInt IntKind.u32.bits (x.toNat : Int) ^^^ BitVec.ofInt IntKind.u32.bits (y.toNat : Int)).toNat : Int) = ((x ^^^ y).toNat : Int) := by
  rw [bv_of, bv_of]; exact u32_wrap_nat _ (BitVec.isLt (x ^^^ y))
theorem u32_and (x y : BitVec 32) : IntKind.u32.wrap ((BitVec.ofInt IntKind.u32.bits (x.toNat : Int) &&& BitVec.ofInt IntKind.u32.bits (y.toNat : Int)).toNat : Int) = ((x &&& y).toNat : Int) := by
  rw [bv_of, bv_of]; exact u32_wrap_nat _ (BitVec.isLt (x &&& y))
theorem u32_or (x y : BitVec 32) : IntKind.u32.wrap ((BitVec.ofInt IntKind.u32.bits (x.toNat : Int) ||| BitVec.ofInt IntKind.u32.bits (y.toNat : Int)).toNat : Int) = ((x ||| y).toNat : Int) := by
  rw [bv_of, bv_of]; exact u32_wrap_nat _ (BitVec.isLt (x ||| y))
theorem u32_add (x y : BitVec 32) : IntKind.u32.wrap ((x.toNat : Int) + (y.toNat : Int)) = ((x + y).toNat : Int) := by
  rw [wrap_u32, BitVec.toNat_add]; omega
theorem u32_shl (x : BitVec 32) (n : Nat) (h : n ≤ 32) : IntKind.u32.wrap ((x.toNat : Int) * 2 ^ (min n IntKind.u32.bits)) = ((x <<< n).toNat : Int) := by
  rw [wrap_u32, BitVec.toNat_shiftLeft, Nat.shiftLeft_eq, u32_bits, Nat.min_eq_left h]
  have : (x.toNat : Int) * 2 ^ n = ((x.toNat * 2 ^ n : Nat) : Int) := by simp
  rw [this]; omega
theorem u32_shr (x : BitVec 32) (n : Nat) (h : n ≤ 32) : ((x.toNat : Int).fdiv (2 ^ (min n IntKind.u32.bits))) = ((x >>> n).toNat : Int) := by
  rw [BitVec.toNat_ushiftRight, Nat.shiftRight_eq_div_pow, u32_bits, Nat.min_eq_left h]
  rw [Int.fdiv_eq_ediv_of_nonneg _ (by exact Int.pow_nonneg (by omega))]
  simp
theorem u32_of_u8 (b : UInt8) : IntKind.u32.wrap ((b.toNat : Nat) : Int) = ((BitVec.ofNat 32 b.toNat).toNat : Int) := by
  have := b.toNat_lt
  rw [u32_wrap_nat _ (by omega), BitVec.toNat_ofNat]
  congr 1
  rw [Nat.mod_eq_of_lt (by omega)]

/-- A rotation to the right. -/
def rotr (x : BitVec 32) (n : Nat) : BitVec 32 := (x <<< (32 - n)) ||| (x >>> n)
section
variable {P : Program} {w : World} {env : Env} {dst : Option Tmp} {ty t yt : TypeId} {pos : String} {after : Array Edge} {guard : Option (Nat × Bool)} {x y : Operand} {a b : BitVec 32}
theorem OpV.bin32 {op : BinOp} {m : Int} (hs : op ≠ .shl) (hs' : op ≠ .shr) (hx : evO env x = some (.int .u32 (a.toNat : Int))) (hy : evO env y = some (.int .u32 (b.toNat : Int)))
    (h : evInt op .u32 (a.toNat : Int) (b.toNat : Int) = some (.int .u32 m)) : OpV P env w ⟨dst, .binOp op t x y yt, ty, pos, after, guard⟩ (.int .u32 m) := .of_run fun ρ hρ => by
  refine ⟨_, by simp only [execOp, hρ _ _ hx, hρ _ _ hy]; rfl, ?_⟩
  rw [run_bind _ _ (run_eqGuard_plain (P := P) (w := w) op t x y (by intro c; simp) (by simp))]
  exact run_intOp hs hs' h t
theorem OpV.xor32 (hx : evO env x = some (.int .u32 (a.toNat : Int))) (hy : evO env y = some (.int .u32 (b.toNat : Int))) :
    OpV P env w ⟨dst, .binOp .xor t x y yt, ty, pos, after, guard⟩ (.int .u32 ((a ^^^ b).toNat : Int)) := .bin32 (by decide) (by decide) hx hy (by rw [← Go.Rn.u32_xor]; rfl)
theorem OpV.and32 (hx : evO env x = some (.int .u32 (a.toNat : Int))) (hy : evO env y = some (.int .u32 (b.toNat : Int))) :
    OpV P env w ⟨dst, .binOp .and t x y yt, ty, pos, after, guard⟩ (.int .u32 ((a &&& b).toNat : Int)) := .bin32 (by decide) (by decide) hx hy (by rw [← Go.Rn.u32_and]; rfl)
theorem OpV.or32 (hx : evO env x = some (.int .u32 (a.toNat : Int))) (hy : evO env y = some (.int .u32 (b.toNat : Int))) :
    OpV P env w ⟨dst, .binOp .or t x y yt, ty, pos, after, guard⟩ (.int .u32 ((a ||| b).toNat : Int)) := .bin32 (by decide) (by decide) hx hy (by rw [← Go.Rn.u32_or]; rfl)
theorem OpV.add32 (hx : evO env x = some (.int .u32 (a.toNat : Int))) (hy : evO env y = some (.int .u32 (b.toNat : Int))) :
    OpV P env w ⟨dst, .binOp .add t x y yt, ty, pos, after, guard⟩ (.int .u32 ((a + b).toNat : Int)) := .bin32 (by decide) (by decide) hx hy (by rw [← u32_add]; rfl)
theorem OpV.shl32 {k : IntKind} {n : Nat} (hx : evO env x = some (.int .u32 (a.toNat : Int))) (hy : evO env y = some (.int k (.ofNat n))) (hn : Nat.ble n 32 = true) :
    OpV P env w ⟨dst, .binOp .shl t x y yt, ty, pos, after, guard⟩ (.int .u32 ((a <<< n).toNat : Int)) := .of_run fun ρ hρ => by
  refine ⟨_, by simp only [execOp, hρ _ _ hx, hρ _ _ hy]; rfl, ?_⟩
  rw [run_bind _ _ (run_eqGuard_plain (P := P) (w := w) .shl t x y (by intro c; simp) (by simp))]
  rw [← u32_shl a n (Nat.le_of_ble_eq_true hn)]
  simp only [binOp, Op.shift]
  rw [if_neg (by simp)]
  simp [pure]
theorem OpV.shr32 {k : IntKind} {n : Nat} (hx : evO env x = some (.int .u32 (a.toNat : Int))) (hy : evO env y = some (.int k (.ofNat n))) (hn : Nat.ble n 32 = true) :
    OpV P env w ⟨dst, .binOp .shr t x y yt, ty, pos, after, guard⟩ (.int .u32 ((a >>> n).toNat : Int)) := .of_run fun ρ hρ => by
  refine ⟨_, by simp only [execOp, hρ _ _ hx, hρ _ _ hy]; rfl, ?_⟩
  rw [run_bind _ _ (run_eqGuard_plain (P := P) (w := w) .shr t x y (by intro c; simp) (by simp))]
  rw [← u32_shr a n (Nat.le_of_ble_eq_true hn)]
  simp only [binOp, Op.shift]
  rw [if_neg (by simp)]
  simp [pure]
end
end Go.Rn
namespace Go.Sg
open Go.Rn Go.Proofs

theorem rot_count : ∀ n : Fin 32, 0 < n.val → IntKind.u64.wrap ((BitVec.ofInt IntKind.u64.bits (IntKind.u64.wrap (-(n.val : Int))) &&& BitVec.ofInt IntKind.u64.bits 31).toNat : Int) = ((32 - n.val : Nat) : Int) := by decide +kernel

theorem rotl_ok (x : BitVec 32) (n : Nat) (h0 : 0 < n) (h1 : n < 32) (w : World) : Rets Tryd.prog 85 [.int .u32 (x.toNat : Int), .int .i64 (-(n : Int))] w fun v w' => v = .int .u32 ((rotr x n).toNat : Int) ∧ w = w' := by
  have hc := rot_count ⟨n, h1⟩ h0
  simp only at hc
  refine RetsX.of (nt := 17) Tryd.func85 (by kernel_rfl) rfl rfl (by simp) (by simp only [argEnv]; rfl) ?_
  (repeat (first | refine RunE.seq ?_)); refine RunE.region ?_; (repeat (first | refine RunL.pureI Tryd.tOk rfl rfl rfl (by (first | exact wr_i64 (by omega) (by omega) | exact wm_i64 (by omega) | exact wq_i64 (by omega) (by omega) (by omega) | rfl)) ?_)); refine RunL.nil ?_
  repeat (first | refine RunE.seq ?_ | refine RunE.region ?_)
  refine RunL.pure Tryd.tOk rfl rfl rfl ?_
  refine RunL.pure Tryd.tOk rfl rfl rfl ?_
  refine RunL.pureI Tryd.tOk rfl rfl rfl hc ?_
  refine RunL.pure Tryd.tOk rfl rfl rfl ?_
  repeat (first | refine RunE.seq ?_ | refine RunE.region ?_ | refine RunL.nil ?_)
  refine RunL.pure Tryd.tOk rfl rfl rfl ?_
  refine RunL.pure Tryd.tOk rfl rfl rfl ?_
  refine RunL.pureI Tryd.tOk rfl rfl rfl (u32_shl _ _ (by omega)) ?_
  refine RunL.pure Tryd.tOk rfl rfl rfl ?_
  refine RunL.pure Tryd.tOk rfl rfl rfl ?_
  refine RunL.pureI (m' := (n : Int)) Tryd.tOk rfl rfl rfl (by rw [wrap_u64]; omega) ?_
  refine RunL.pureI Tryd.tOk rfl rfl rfl (u32_shr _ _ (by omega)) ?_
  refine RunL.pureI Tryd.tOk rfl rfl rfl (Go.Rn.u32_or _ _) ?_
  repeat (first | refine RunL.pureI Tryd.tOk rfl rfl rfl (by (first | exact wr_i64 (by omega) (by omega) | exact wm_i64 (by omega) | exact wq_i64 (by omega) (by omega) (by omega) | rfl)) ?_ | refine RunL.nil ?_)
  exact RunE.retFn Tryd.func85 (.tmp rfl .nil) ⟨rfl, rfl⟩

theorem ror_ok (x : BitVec 32) (n : Nat) (h1 : n < 32) (w : World) : Rets Tryd.prog 94 [.int .u32 (x.toNat : Int), .int .i64 (n : Int)] w fun v w' => v = .int .u32 ((rotr x n).toNat : Int) ∧ Ext w w' := by
  refine RetsX.of (nt := 13) Tryd.func94 (by kernel_rfl) rfl rfl (by simp) (by simp only [argEnv]; rfl) ?_
  repeat (first | refine RunL.pureI Tryd.tOk rfl rfl rfl (by (first | exact wr_i64 (by omega) (by omega) | exact wm_i64 (by omega) | exact wq_i64 (by omega) (by omega) (by omega) | rfl)) ?_ | refine RunE.seq ?_ | refine RunE.region ?_ | refine RunL.nil ?_)
  refine RunE.draw (fun _ => False) mix ?_
  intro w0 X
  refine Asy.pure Tryd.tOk rfl rfl rfl ?_
  refine Asy.pure Tryd.tOk rfl rfl rfl ?_
  refine Asy.pureI Tryd.tOk rfl rfl rfl (u32_shr _ _ (by omega)) ?_
  refine Asy.pure Tryd.tOk rfl rfl rfl ?_
  refine Asy.pure Tryd.tOk rfl rfl rfl ?_
  refine Asy.pureI (m' := ((32 - n : Nat) : Int)) Tryd.tOk rfl rfl rfl (by rw [wr_i64 (by omega) (by omega)]; omega) ?_
  refine Asy.pureI Tryd.tOk rfl rfl rfl (u32_shl _ _ (by omega)) ?_
  refine Asy.pureI Tryd.tOk rfl rfl rfl (Go.Rn.u32_or _ _) ?_
  refine Asy.pure Tryd.tOk rfl rfl rfl ?_
  refine Asy.tail (by kernel_rfl) ?_
  intro w1 X1
  simp only [satsAll]
  repeat (first | refine RunL.nil ?_)
  exact RunE.retFn Tryd.func94 (.tmp rfl .nil) ⟨by unfold rotr; rw [BitVec.or_comm]; rfl, X.trans X1⟩
end Go.Sg
end
section
/- What SHA-256 is; words of bytes. -/
namespace Go.Sha
open Go.Rn

abbrev W := BitVec 32
def s0 (x : W) : W := (rotr x 7 ^^^ rotr x 18) ^^^ (x >>> 3)
def s1 (x : W) : W := (rotr x 17 ^^^ rotr x 19) ^^^ (x >>> 10)
def S3 (x : W) (a b c : Nat) : W := (rotr x a ^^^ rotr x b) ^^^ rotr x c
def ch (e f g : W) : W := (e &&& f) ^^^ (~~~e &&& g)
def maj (a b c : W) : W := ((a &&& b) ^^^ (a &&& c)) ^^^ (b &&& c)
theorem ch_eq (e f g : W) : g ^^^ (e &&& (f ^^^ g)) = ch e f g := by
  apply BitVec.eq_of_getLsbD_eq
  intro i hi
  simp only [ch, BitVec.getLsbD_xor, BitVec.getLsbD_and, BitVec.getLsbD_not, hi, decide_true, Bool.true_and]
  cases e.getLsbD i <;> cases f.getLsbD i <;> cases g.getLsbD i <;> rfl
theorem maj_eq (a b c : W) : (a &&& b) ||| (c &&& (a ||| b)) = maj a b c := by
  apply BitVec.eq_of_getLsbD_eq
  intro i _
  simp only [maj, BitVec.getLsbD_xor, BitVec.getLsbD_and, BitVec.getLsbD_or]
  cases a.getLsbD i <;> cases b.getLsbD i <;> cases c.getLsbD i <;> rfl

/-- The word of four bytes. -/
def word (a b c d : UInt8) : W := BitVec.ofNat 32 (((a.toNat * 256 + b.toNat) * 256 + c.toNat) * 256 + d.toNat)

theorem or_base (x c : Nat) (hc : c < 256) : ((BitVec.ofNat 32 x <<< 8) ||| BitVec.ofNat 32 c : W) = BitVec.ofNat 32 (x * 256 + c) := by
  have h : x * 256 + c = x <<< 8 ||| c := by rw [← Nat.shiftLeft_add_eq_or_of_lt (by simpa using hc), Nat.shiftLeft_eq]
  rw [h, BitVec.ofNat_or]
  congr 1
  apply BitVec.eq_of_toNat_eq
  simp [Nat.shiftLeft_eq, BitVec.toNat_shiftLeft]
theorem or_step (x c n : Nat) (hc : c < 256) : ((BitVec.ofNat 32 x <<< (8 + n)) ||| (BitVec.ofNat 32 c <<< n) : W) = BitVec.ofNat 32 (x * 256 + c) <<< n := by
  rw [BitVec.shiftLeft_add, ← BitVec.shiftLeft_or_distrib, or_base x c hc]

structure S8 where
  a : W
  b : W
  c : W
  d : W
  e : W
  f : W
  g : W
  h : W

def S8.l (s : S8) : List W := [s.a, s.b, s.c, s.d, s.e, s.f, s.g, s.h]
def rnd (s : S8) (k w : W) : S8 :=
  let p := (((s.h + S3 s.e 6 11 25) + ch s.e s.f s.g) + k) + w
  let q := S3 s.a 2 13 22 + maj s.a s.b s.c
  ⟨p + q, s.a, s.b, s.c, s.d + p, s.e, s.f, s.g⟩
def kTab : List W := [0x428a2f98, 0x71374491, 0xb5c0fbcf, 0xe9b5dba5, 0x3956c25b, 0x59f111f1, 0x923f82a4, 0xab1c5ed5,
  0xd807aa98, 0x12835b01, 0x243185be, 0x550c7dc3, 0x72be5d74, 0x80deb1fe, 0x9bdc06a7, 0xc19bf174,
  0xe49b69c1, 0xefbe4786, 0x0fc19dc6, 0x240ca1cc, 0x2de92c6f, 0x4a7484aa, 0x5cb0a9dc, 0x76f988da,
  0x983e5152, 0xa831c66d, 0xb00327c8, 0xbf597fc7, 0xc6e00bf3, 0xd5a79147, 0x06ca6351, 0x14292967,
  0x27b70a85, 0x2e1b2138, 0x4d2c6dfc, 0x53380d13, 0x650a7354, 0x766a0abb, 0x81c2c92e, 0x92722c85,
  0xa2bfe8a1, 0xa81a664b, 0xc24b8b70, 0xc76c51a3, 0xd192e819, 0xd6990624, 0xf40e3585, 0x106aa070,
  0x19a4c116, 0x1e376c08, 0x2748774c, 0x34b0bcb5, 0x391c0cb3, 0x4ed8aa4a, 0x5b9cca4f, 0x682e6ff3,
  0x748f82ee, 0x78a5636f, 0x84c87814, 0x8cc70208, 0x90befffa, 0xa4506ceb, 0xbef9a3f7, 0xc67178f2]
def init8 : S8 := ⟨0x6a09e667, 0xbb67ae85, 0x3c6ef372, 0xa54ff53a, 0x510e527f, 0x9b05688c, 0x1f83d9ab, 0x5be0cd19⟩

def nextW (l : List W) (k : Nat) : W := ((l.getD k 0 + s0 (l.getD (k + 1) 0)) + l.getD (k + 9) 0) + s1 (l.getD (k + 14) 0)
def sched (l : List W) : Nat → List W
  | 0 => l
  | k + 1 => sched l k ++ [nextW (sched l k) k]
theorem sched_length (l : List W) (k : Nat) : (sched l k).length = l.length + k := by
  induction k with
  | zero => rfl
  | succ k ih => simp [sched, ih]; omega
def words (l : List UInt8) : Nat → List W
  | 0 => []
  | k + 1 => words l k ++ [word (l.getD (4 * k) 0) (l.getD (4 * k + 1) 0) (l.getD (4 * k + 2) 0) (l.getD (4 * k + 3) 0)]
theorem words_length (l : List UInt8) (k : Nat) : (words l k).length = k := by
  induction k with
  | zero => rfl
  | succ k ih => simp [words, ih]
def rnds (ws : List W) (s : S8) : Nat → S8
  | 0 => s
  | t + 1 => rnd (rnds ws s t) (kTab.getD t 0) (ws.getD t 0)
def S8.add (s v : S8) : S8 := ⟨s.a + v.a, s.b + v.b, s.c + v.c, s.d + v.d, s.e + v.e, s.f + v.f, s.g + v.g, s.h + v.h⟩
/-- The state after a block of 64 bytes. -/
def block (s : S8) (l : List UInt8) : S8 := s.add (rnds (sched (words l 16) 48) s 64)

def vals (l : List W) : List Value := l.map fun x => .int .u32 (x.toNat : Int)
theorem vals_length (l : List W) : (vals l).length = l.length := by simp [vals]
end Go.Sha
namespace Go.Sg
open Go.Rn Go.Sha Go.Proofs

def accB (l : List UInt8) (j : Nat) : Nat := (l.take j).foldl (fun n c => n * 256 + c.toNat) 0
theorem accB_succ {l : List UInt8} {j : Nat} {x : UInt8} (h : l[j]? = some x) : accB l (j + 1) = accB l j * 256 + x.toNat := by
  unfold accB
  rw [List.take_add_one, h, List.foldl_append]
  rfl

theorem digestWord_ok (x0 x1 x2 x3 : UInt8) (b o len cap : Nat) (w : World) (h4 : 4 ≤ len) (hc : len ≤ cap) (hr : Row w b o (bytesV [x0, x1, x2, x3])) :
    Rets Tryd.prog 84 [.slice (some ⟨b, o, none⟩) len cap] w fun v w' => v = .int .u32 ((word x0 x1 x2 x3).toNat : Int) ∧ w = w' := by
  refine RetsX.of (nt := 19) Tryd.func84 (by kernel_rfl) rfl rfl (by simp) (by simp only [argEnv]; rfl) ?_
  repeat (first | refine RunL.pureI Tryd.tOk rfl rfl rfl (by (first | exact wr_i64 (by omega) (by omega) | exact wm_i64 (by omega) | exact wq_i64 (by omega) (by omega) (by omega) | rfl)) ?_ | refine RunL.pure Tryd.tOk rfl rfl rfl ?_ | refine RunE.seq ?_ | refine RunE.region ?_ | refine RunL.nil ?_)
  refine RunL.val rfl rfl rfl (OpV.slice0 (hi := 4) Tryd.tOk rfl rfl .none (.some rfl rfl) (by omega)) ?_
  repeat (first | refine RunL.pureI Tryd.tOk rfl rfl rfl (by (first | exact wr_i64 (by omega) (by omega) | exact wm_i64 (by omega) | exact wq_i64 (by omega) (by omega) (by omega) | rfl)) ?_ | refine RunL.nil ?_ | refine RunE.block ?_)
  refine RunE.loop (ι := Nat) (fun j => [(6, .slice (some ⟨b, o, none⟩) 4 cap), (7, .int .i64 4), (8, .int .i64 (j : Int)), (2, .int .u32 ((BitVec.ofNat 32 (accB [x0, x1, x2, x3] j)).toNat : Int))])
    (fun j w' => w = w' ∧ j ≤ 4) (fun j => 4 - j) 0 (by repeat (first | exact Sub.nil _ | refine Sub.cons rfl ?_)) ⟨rfl, by omega⟩ ?_
  rintro j _ ⟨rfl, hj⟩ again
  repeat (first | refine RunL.pure Tryd.tOk rfl rfl rfl ?_ | refine RunE.seq ?_ | refine RunE.region ?_ | refine RunL.nil ?_)
  refine RunE.cond rfl (fun hlt => ?_) (fun hlt => ?_) <;> (first | replace hlt := of_decide_eq_true hlt | replace hlt := of_decide_eq_false hlt | replace hlt := beq_iff_eq.1 hlt | replace hlt := beq_eq_false_iff_ne.1 hlt | replace hlt := bne_iff_ne.1 hlt | replace hlt := bne_eq_false_iff_eq.1 hlt | skip)
  · have hlt' : j < [x0, x1, x2, x3].length := by simp; omega
    have hx : [x0, x1, x2, x3][j]? = some [x0, x1, x2, x3][j] := List.getElem?_eq_getElem hlt'
    generalize [x0, x1, x2, x3][j] = x at hx
    repeat (first | refine RunE.seq ?_ | refine RunE.region ?_ | refine RunE.block ?_ | refine RunE.skip ?_)
    refine RunL.val rfl rfl rfl (OpV.indexS1 Tryd.tOk j rfl rfl rfl rfl (by omega)) ?_
    refine RunL.val rfl rfl rfl (OpV.load1 (v := .int .u8 (x.toNat : Int)) Tryd.tOk rfl rfl rfl (hr j _ (by simp only [bytesV, List.getElem?_map, hx]; rfl))) ?_
    repeat (first | refine RunL.pureI Tryd.tOk rfl rfl rfl (by (first | with_reducible exact Go.Rn.u32_xor _ _ | with_reducible exact Go.Rn.u32_and _ _ | with_reducible exact Go.Rn.u32_or _ _ | with_reducible exact u32_add _ _ | with_reducible exact u32_shl _ _ (by decide) | with_reducible exact u32_shr _ _ (by decide) | with_reducible exact u32_of_u8 _ | exact wr_i64 (by omega) (by omega) | rfl)) ?_ | refine RunE.region ?_ | refine RunL.nil ?_ | refine RunE.inBlock ?_)
    exact RunE.weaken (by
      refine Sub.cons rfl (Sub.cons rfl (Sub.cons rfl (Sub.cons ?_ (Sub.nil _))))
      rw [accB_succ hx, ← or_base _ _ x.toNat_lt]
      rfl) (again (j + 1) _ (by omega) ⟨rfl, by omega⟩)
  · have hj4 : j = 4 := by omega
    subst hj4
    repeat (first | refine RunL.pureI Tryd.tOk rfl rfl rfl (by (first | exact wr_i64 (by omega) (by omega) | exact wm_i64 (by omega) | exact wq_i64 (by omega) (by omega) (by omega) | rfl)) ?_ | refine RunE.seq ?_ | refine RunE.region ?_ | refine RunL.nil ?_ | refine RunE.exit rfl ?_)
    exact RunE.retFn Tryd.func84 (.tmp rfl .nil) ⟨by simp [accB, word, oneOr], rfl⟩

theorem refWord_ok (x0 x1 x2 x3 : UInt8) (b o len cap : Nat) (w : World) (h4 : 4 ≤ len) (hr : Row w b o (bytesV [x0, x1, x2, x3])) :
    Rets Tryd.prog 93 [.slice (some ⟨b, o, none⟩) len cap] w fun v w' => v = .int .u32 ((word x0 x1 x2 x3).toNat : Int) ∧ Ext w w' := by
  refine RetsX.of (nt := 25) Tryd.func93 (by kernel_rfl) rfl rfl (by simp) (by simp only [argEnv]; rfl) ?_
  repeat (first | refine RunL.pureI Tryd.tOk rfl rfl rfl (by (first | exact wr_i64 (by omega) (by omega) | exact wm_i64 (by omega) | exact wq_i64 (by omega) (by omega) (by omega) | rfl)) ?_ | refine RunE.seq ?_ | refine RunE.region ?_ | refine RunL.nil ?_)
  refine RunE.draw (fun _ => False) mix ?_
  intro w0 X
  repeat (first | refine Asy.pure Tryd.tOk rfl rfl rfl ?_)
  refine Asy.v rfl rfl rfl rfl (fun _ _ => OpV.indexS1 Tryd.tOk 0 rfl rfl rfl rfl (by omega)) ?_
  refine Asy.v rfl rfl rfl rfl (fun _ X' => OpV.load1 Tryd.tOk rfl rfl rfl (hr.extE (X.trans X') 0 _ rfl)) ?_
  repeat (first | refine Asy.pureI Tryd.tOk rfl rfl rfl (by (first | with_reducible exact Go.Rn.u32_xor _ _ | with_reducible exact Go.Rn.u32_and _ _ | with_reducible exact Go.Rn.u32_or _ _ | with_reducible exact u32_add _ _ | with_reducible exact u32_shl _ _ (by decide) | with_reducible exact u32_shr _ _ (by decide) | with_reducible exact u32_of_u8 _ | exact wr_i64 (by omega) (by omega) | rfl)) ?_ | refine Asy.pure Tryd.tOk rfl rfl rfl ?_)
  refine Asy.v rfl rfl rfl rfl (fun _ _ => OpV.indexS1 Tryd.tOk 1 rfl rfl rfl rfl (by omega)) ?_
  refine Asy.v rfl rfl rfl rfl (fun _ X' => OpV.load1 Tryd.tOk rfl rfl rfl (hr.extE (X.trans X') 1 _ rfl)) ?_
  repeat (first | refine Asy.pureI Tryd.tOk rfl rfl rfl (by (first | with_reducible exact Go.Rn.u32_xor _ _ | with_reducible exact Go.Rn.u32_and _ _ | with_reducible exact Go.Rn.u32_or _ _ | with_reducible exact u32_add _ _ | with_reducible exact u32_shl _ _ (by decide) | with_reducible exact u32_shr _ _ (by decide) | with_reducible exact u32_of_u8 _ | exact wr_i64 (by omega) (by omega) | rfl)) ?_ | refine Asy.pure Tryd.tOk rfl rfl rfl ?_)
  refine Asy.v rfl rfl rfl rfl (fun _ _ => OpV.indexS1 Tryd.tOk 2 rfl rfl rfl rfl (by omega)) ?_
  refine Asy.v rfl rfl rfl rfl (fun _ X' => OpV.load1 Tryd.tOk rfl rfl rfl (hr.extE (X.trans X') 2 _ rfl)) ?_
  repeat (first | refine Asy.pureI Tryd.tOk rfl rfl rfl (by (first | with_reducible exact Go.Rn.u32_xor _ _ | with_reducible exact Go.Rn.u32_and _ _ | with_reducible exact Go.Rn.u32_or _ _ | with_reducible exact u32_add _ _ | with_reducible exact u32_shl _ _ (by decide) | with_reducible exact u32_shr _ _ (by decide) | with_reducible exact u32_of_u8 _ | exact wr_i64 (by omega) (by omega) | rfl)) ?_ | refine Asy.pure Tryd.tOk rfl rfl rfl ?_)
  refine Asy.v rfl rfl rfl rfl (fun _ _ => OpV.indexS1 Tryd.tOk 3 rfl rfl rfl rfl (by omega)) ?_
  refine Asy.v rfl rfl rfl rfl (fun _ X' => OpV.load1 Tryd.tOk rfl rfl rfl (hr.extE (X.trans X') 3 _ rfl)) ?_
  repeat (first | refine Asy.pureI Tryd.tOk rfl rfl rfl (by (first | with_reducible exact Go.Rn.u32_xor _ _ | with_reducible exact Go.Rn.u32_and _ _ | with_reducible exact Go.Rn.u32_or _ _ | with_reducible exact u32_add _ _ | with_reducible exact u32_shl _ _ (by decide) | with_reducible exact u32_shr _ _ (by decide) | with_reducible exact u32_of_u8 _ | exact wr_i64 (by omega) (by omega) | rfl)) ?_)
  refine Asy.tail (by kernel_rfl) ?_
  intro w1 X1
  simp only [satsAll]
  repeat (first | refine RunL.nil ?_)
  refine RunE.retFn Tryd.func93 (.tmp rfl .nil) ⟨?_, X.trans X1⟩
  unfold word
  rw [or_step _ _ 16 x1.toNat_lt, or_step _ _ 8 x2.toNat_lt, or_base _ _ x3.toNat_lt]
  rfl
end Go.Sg
end
section
/- What SHA-256 is: padding, blocks, the digest. Plain, no program. -/
namespace Go.Sha
open Go.Rn

/-- The bytes of a number, the greatest first. -/
def be : Nat → Nat → List UInt8
  | 0, _ => []
  | i + 1, n => UInt8.ofNat (n / 2 ^ (8 * i)) :: be i n
theorem be_length (i n : Nat) : (be i n).length = i := by
  induction i with
  | zero => rfl
  | succ i ih => simp [be, ih]
theorem be_get : ∀ (i n j : Nat), j < i → (be i n)[j]? = some (UInt8.ofNat (n / 2 ^ (8 * (i - 1 - j))))
  | 0, n, j, h => by omega
  | i + 1, n, 0, _ => by simp [be]
  | i + 1, n, j + 1, h => by
    simp only [be, List.getElem?_cons_succ]
    rw [be_get i n j (by omega)]
    congr 4; omega
def dig (s : S8) : List UInt8 := s.l.flatMap fun x => be 4 x.toNat
theorem dig_length (s : S8) : (dig s).length = 32 := rfl
theorem flat_length : ∀ L : List W, (L.flatMap fun x => be 4 x.toNat).length = 4 * L.length
  | [] => rfl
  | x :: r => by rw [List.flatMap_cons, List.length_append, be_length, flat_length r, List.length_cons]; omega
def run (s : S8) (l : List UInt8) : Nat → S8
  | 0 => s
  | k + 1 => block (run s l k) ((l.drop (64 * k)).take 64)
def padz (n : Nat) : Nat := (119 - n % 64) % 64
def pad (l : List UInt8) : List UInt8 := l ++ 128 :: (List.replicate (padz l.length) 0 ++ be 8 (8 * l.length))
def sha (l : List UInt8) : List UInt8 := dig (run init8 (pad l) ((pad l).length / 64))
theorem sha_length (l : List UInt8) : (sha l).length = 32 := rfl
def tagged (tag l : List UInt8) : List UInt8 := sha (sha tag ++ l)
theorem tagged_length (t l : List UInt8) : (tagged t l).length = 32 := rfl

theorem pad_length (l : List UInt8) : (pad l).length = l.length + 9 + padz l.length := by
  simp [pad, be_length]; omega
theorem pad_length64 (l : List UInt8) : (pad l).length = 64 * ((pad l).length / 64) := by
  rw [pad_length]; unfold padz; omega
theorem run_congr (s : S8) (l l' : List UInt8) : ∀ n, (∀ k, k < n → (l.drop (64 * k)).take 64 = (l'.drop (64 * k)).take 64) → run s l n = run s l' n
  | 0, _ => rfl
  | n + 1, h => by
    unfold run
    rw [run_congr s l l' n (fun k hk => h k (by omega)), h n (by omega)]
/-- The blocks of l itself. -/
theorem run_pad (s : S8) (l : List UInt8) (n : Nat) (h : 64 * n ≤ l.length) : run s (pad l) n = run s l n := by
  refine run_congr s _ _ n fun k hk => ?_
  unfold pad
  rw [List.drop_append_of_le_length (by omega), List.take_append_of_le_length (by rw [List.length_drop]; omega)]
/-- What the last blocks are made of. -/
def tailOf (l : List UInt8) : List UInt8 := (pad l).drop (64 * (l.length / 64))
theorem tailOf_eq (l : List UInt8) : tailOf l = l.drop (64 * (l.length / 64)) ++ 128 :: (List.replicate (padz l.length) 0 ++ be 8 (8 * l.length)) := by
  unfold tailOf pad
  rw [List.drop_append_of_le_length (by omega)]
theorem tailOf_length (l : List UInt8) : (tailOf l).length = if l.length % 64 > 55 then 128 else 64 := by
  unfold tailOf
  rw [List.length_drop, pad_length]; unfold padz; split <;> omega
theorem pad_blocks (l : List UInt8) : (pad l).length / 64 = l.length / 64 + (tailOf l).length / 64 := by
  rw [tailOf_length, pad_length]; unfold padz; split <;> omega
theorem tail_block (l : List UInt8) (j : Nat) : ((tailOf l).drop (64 * j)).take 64 = ((pad l).drop (64 * (l.length / 64 + j))).take 64 := by
  unfold tailOf; rw [List.drop_drop]; congr 2; omega
theorem tail_block_len (l : List UInt8) (k j m : Nat) (hk : k = l.length / 64) (hm : m = (tailOf l).length) (h : 64 * j + 64 ≤ m) : 64 = (((pad l).drop (64 * (k + j))).take 64).length := by
  rw [hk, ← tail_block, List.length_take, List.length_drop]; omega
theorem sha_eq (l : List UInt8) : sha l = dig (run init8 (pad l) (l.length / 64 + (tailOf l).length / 64)) := by rw [sha, pad_blocks]

/-! ### Cells -/
theorem bytesV_append (a b : List UInt8) : bytesV (a ++ b) = bytesV a ++ bytesV b := by simp [bytesV]
theorem bytesV_replicate (n : Nat) : List.replicate n (Value.int .u8 0) = bytesV (List.replicate n 0) := by simp [bytesV]
theorem bytesV_drop (l : List UInt8) (n : Nat) : (bytesV l).drop n = bytesV (l.drop n) := by simp [bytesV]
theorem bytesV_take (l : List UInt8) (n : Nat) : (bytesV l).take n = bytesV (l.take n) := by simp [bytesV]
theorem bytesV_get {l : List UInt8} {i : Nat} (h : i < l.length) : (bytesV l)[i]? = some (.int .u8 ((l.getD i 0).toNat : Int)) := by
  simp [bytesV, List.getElem?_eq_getElem h, List.getD_eq_getElem?_getD]
theorem setAt_self (cs : List Value) : setAt cs 0 cs = cs := by
  have := setAt_mid [] cs [] cs rfl
  simpa using this
theorem setAt_all (cs ds : List Value) (h : ds.length = cs.length) : setAt cs 0 ds = ds := by
  have := setAt_mid [] cs [] ds h
  simpa using this
theorem setAt_bytes (X Y Z V : List UInt8) (n : Nat) (hn : X.length = n) (h : V.length = Y.length) : setAt (bytesV (X ++ Y ++ Z)) n (bytesV V) = bytesV (X ++ V ++ Z) := by
  have := setAt_mid (bytesV X) (bytesV Y) (bytesV Z) (bytesV V) (by simpa [bytesV_length] using h)
  rw [bytesV_length, hn] at this
  simpa [bytesV_append] using this
theorem set_byte (X Z : List UInt8) (y b : UInt8) (n : Nat) (hn : X.length = n) : setAt (bytesV (X ++ y :: Z)) n [.int .u8 (b.toNat : Int)] = bytesV (X ++ b :: Z) := by
  have := setAt_bytes X [y] Z [b] n hn rfl
  simpa [bytesV] using this
end Go.Sha
end
section
/- What comes in, read as data: the shape of its cells. Nothing here knows a program. -/
namespace Go.Rn
open Go.RowKit Go.ChangeShapes Go.WideShapes

/-- What cells of a type hold that can be read. -/
def Shp (P : Program) (w : World) : Nat → TypeId → List Value → Prop
  | 0, _, _ => False
  | f + 1, t, cs => match P.underlying t with
    | some .bool => ∃ b, cs = [.bool b]
    | some (.int k) => ∃ n, cs = [.int k n] ∧ (Lit.int k n).wf = true
    | some .string => ∃ s : ByteArray, cs = [.string s] ∧ s.size ≤ maxLen
    | some (.slice e) => 0 < P.cellsOf e → ∃ v n, ∃ rows : List (List Value), cs = [v] ∧ n ≤ maxLen ∧ rows.length = n ∧ (∀ r ∈ rows, r.length = P.cellsOf e ∧ Shp P w f e r) ∧ IsSl w (P.cellsOf e) v n rows.flatten
    | some (.struct fs) => cs.length = P.cellsOf t ∧ ∀ fl ∈ fs.toList, Shp P w f fl.type ((cs.drop fl.offset).take (P.cellsOf fl.type))
    | some (.array n e) => cs.length = P.cellsOf t ∧ ∀ i, i < n → Shp P w f e ((cs.drop (i * P.cellsOf e)).take (P.cellsOf e))
    | _ => True

theorem mapM_mem {α β : Type} {g : α → Option β} : ∀ {l : List α} {ys : List β}, l.mapM g = some ys → ∀ x ∈ l, ∃ y, g x = some y
  | [], _, _, x, hx => by simp at hx
  | a :: r, ys, h, x, hx => by
    rw [List.mapM_cons] at h
    cases ha : g a with
    | none => simp [ha] at h
    | some y =>
      simp only [ha, Option.bind_eq_bind, Option.bind_some] at h
      cases hr : r.mapM g with
      | none => simp [hr] at h
      | some zs =>
        rcases List.mem_cons.1 hx with rfl | hx
        · exact ⟨y, ha⟩
        · exact mapM_mem hr x hx

theorem flatten_get {sz : Nat} : ∀ (rows : List (List Value)), (∀ r ∈ rows, r.length = sz) → ∀ i j, j < sz → (rows.flatten)[i * sz + j]? = (rows[i]?).bind (·[j]?)
  | [], _, i, j, _ => by simp
  | r :: rest, h, 0, j, hj => by
    have hr := h r (by simp)
    rw [List.flatten_cons, Nat.zero_mul, Nat.zero_add, List.getElem?_append_left (by omega)]; rfl
  | r :: rest, h, i + 1, j, hj => by
    have hr := h r (by simp)
    rw [List.flatten_cons, List.getElem?_append_right (by rw [hr, Nat.add_mul]; omega), hr, show (i + 1) * sz + j - sz = i * sz + j by rw [Nat.add_mul]; omega,
      flatten_get rest (fun x hx => h x (by simp [hx])) i j hj]
    simp
theorem flatten_length {sz : Nat} : ∀ (rows : List (List Value)), (∀ r ∈ rows, r.length = sz) → rows.flatten.length = rows.length * sz
  | [], _ => by simp
  | r :: rest, h => by
    rw [List.flatten_cons, List.length_append, h r (by simp), flatten_length rest (fun x hx => h x (by simp [hx])), List.length_cons, Nat.add_mul]; omega

section
variable {H : Type} {enc : TypeId × Value → H} {P : Program} {w : World} {held : Bool}

theorem shp_of_trod : ∀ (fuel : Nat) (t : TypeId) (cs : List Value) (x : DataW H × List MemPlace), DataW.trod enc P w 0 (fun _ => true) held fuel t cs = some x → Shp P w fuel t cs
  | 0, t, cs, x, h => by simp [DataW.trod] at h
  | fuel + 1, t, cs, x, h => by
    unfold Shp
    split
    · rename_i ht; obtain ⟨b, rfl, -⟩ := DataW.trod_bool ht h; exact ⟨b, rfl⟩
    · rename_i k ht; obtain ⟨n, rfl, -, hw⟩ := DataW.trod_int ht h; exact ⟨n, rfl, hw⟩
    · rename_i ht; obtain ⟨s, rfl, -, hs⟩ := DataW.trod_string ht h; exact ⟨s, rfl, hs⟩
    · rename_i e ht
      intro hpos
      rcases DataW.trod_slice ht h with ⟨rfl, -⟩ | ⟨a, len, cap, elems, rest, n, hfu, rfl, -, -, hlc, hcm, hlen, hel, hsp, -⟩
      · exact ⟨_, 0, [], rfl, by simp [maxLen], rfl, by simp, by simpa using IsSl.nil⟩
      · obtain rfl : fuel = n := by omega
        obtain ⟨hrl, hre⟩ := hsp rfl
        have all : ∀ i, i < cap → ∃ cs', w.cells? 0 (a.add (i * P.cellsOf e)) (P.cellsOf e) = some cs' ∧ ∃ y, DataW.trod enc P w 0 (fun _ => true) held fuel e cs' = some y := by
          intro i hi
          by_cases hil : i < len
          · have h1 := hel i hil
            rw [List.getElem?_eq_getElem (by omega)] at h1
            obtain ⟨cs', h1, h2⟩ := Option.bind_eq_some_iff.1 h1
            exact ⟨cs', h1, _, h2⟩
          · have h1 := hre (i - len) (by omega)
            rw [show len + (i - len) = i by omega, List.getElem?_eq_getElem (by omega)] at h1
            obtain ⟨cs', h1, h2⟩ := Option.bind_eq_some_iff.1 h1
            exact ⟨cs', h1, _, h2⟩
        obtain ⟨F, hF⟩ := Deep.choose_lt (α := List Value) (p := fun i cs' => w.cells? 0 (a.add (i * P.cellsOf e)) (P.cellsOf e) = some cs' ∧ ∃ y, DataW.trod enc P w 0 (fun _ => true) held fuel e cs' = some y) all
        have hlenF : ∀ i, i < cap → (F i).length = P.cellsOf e := fun i hi => (World.cells?_some (hF i hi).1).2.1
        refine ⟨_, len, (List.range len).map F, rfl, by omega, by simp, ?_, ?_⟩
        · intro r hr
          obtain ⟨i, hi, rfl⟩ := List.mem_map.1 hr
          have hi' : i < cap := by have := List.mem_range.1 hi; omega
          obtain ⟨y, hy⟩ := (hF i hi').2
          exact ⟨hlenF i hi', shp_of_trod fuel e _ y hy⟩
        · by_cases h0 : cap = 0
          · subst h0
            obtain rfl : len = 0 := by omega
            simpa using IsSl.nil
          · have hsp : a.spot = none := by
              have h1 := (World.cells?_some (hF 0 (by omega)).1).2.2 0 hpos
              rw [Nat.zero_mul] at h1
              have e0 : (a.add 0).add 0 = a := by simp [Addr.add]
              rw [e0] at h1
              have hl := hlenF 0 (by omega)
              rw [List.getElem?_eq_getElem (by omega)] at h1
              unfold World.cell? at h1
              split at h1
              · split at h1
                · simp at h1
                · rename_i hs; simpa using hs
              · simp at h1
            obtain ⟨ab, ao, asp⟩ := a
            simp only at hsp; subst hsp
            have hrl : ∀ r ∈ (List.range len).map F, r.length = P.cellsOf e := by
              intro r hr
              obtain ⟨i, hi, rfl⟩ := List.mem_map.1 hr
              exact hlenF i (by have := List.mem_range.1 hi; omega)
            refine .row ?_ (by rw [flatten_length _ hrl]; simp) hlc
            intro q v hv
            have hq : q < len * P.cellsOf e := by
              rcases Nat.lt_or_ge q (len * P.cellsOf e) with h | h
              · exact h
              · rw [List.getElem?_eq_none (by rw [flatten_length _ hrl]; simpa using h)] at hv; simp at hv
            have hqi : q / P.cellsOf e < len := Nat.div_lt_of_lt_mul (by rw [Nat.mul_comm]; exact hq)
            have hqj : q % P.cellsOf e < P.cellsOf e := Nat.mod_lt _ hpos
            have hqe : q / P.cellsOf e * P.cellsOf e + q % P.cellsOf e = q := by rw [Nat.mul_comm]; exact Nat.div_add_mod q _
            rw [← hqe, flatten_get _ hrl _ _ hqj] at hv
            simp only [List.getElem?_map, List.getElem?_range hqi, Option.map_some, Option.bind_some] at hv
            have h1 := (World.cells?_some (hF _ (by omega : q / P.cellsOf e < cap)).1).2.2 _ hqj
            rw [hv] at h1
            rw [add_none, add_none] at h1
            rw [← hqe, ← Nat.add_assoc]; exact h1
    · rename_i fs ht
      obtain ⟨xs, n, hfu, -, hl, hxl, hx⟩ := DataW.trod_struct ht h
      obtain rfl : fuel = n := by omega
      refine ⟨hl, fun fl hfl => ?_⟩
      obtain ⟨i, hi, rfl⟩ := List.getElem_of_mem hfl
      have h1 := hx i (fs.toList[i]) (by simp)
      rw [List.getElem?_eq_getElem (by rw [hxl]; simpa using hi)] at h1
      exact shp_of_trod fuel _ _ _ h1
    · rename_i n e ht
      unfold DataW.trod at h
      rw [ht] at h
      split at h <;> simp_all
      obtain ⟨hl, xs, hxs, -⟩ := h
      intro i hi
      obtain ⟨y, hy⟩ := mapM_mem hxs i (by simpa using hi)
      exact shp_of_trod fuel _ _ y hy
    · trivial

theorem shp_of_Trod {t : TypeId} {v : Value} {d : DataW H} {ps : List MemPlace} (h : DataW.Trod enc P w 0 (fun _ => true) held t v d ps) : ∃ fuel, Shp P w fuel t v.cells.toList := by
  obtain ⟨fuel, hf⟩ := h
  exact ⟨fuel, shp_of_trod fuel t _ _ hf⟩
end

/-! ### By kind -/
section
variable {P : Program} {w : World} {fuel : Nat} {t : TypeId} {cs : List Value}
theorem Shp.int {k : IntKind} (h : Shp P w fuel t cs) (ht : P.underlying t = some (.int k)) : ∃ n, cs = [.int k n] ∧ (Lit.int k n).wf = true := by
  cases fuel with
  | zero => exact h.elim
  | succ f => unfold Shp at h; rw [ht] at h; exact h
theorem Shp.bool (h : Shp P w fuel t cs) (ht : P.underlying t = some .bool) : ∃ b, cs = [.bool b] := by
  cases fuel with
  | zero => exact h.elim
  | succ f => unfold Shp at h; rw [ht] at h; exact h
theorem Shp.str (h : Shp P w fuel t cs) (ht : P.underlying t = some .string) : ∃ s : ByteArray, cs = [.string s] ∧ s.size ≤ maxLen := by
  cases fuel with
  | zero => exact h.elim
  | succ f => unfold Shp at h; rw [ht] at h; exact h
theorem Shp.slice {e : TypeId} {sz : Nat} (h : Shp P w fuel t cs) (ht : P.underlying t = some (.slice e)) (hs : P.cellsOf e = sz) (hp : 0 < sz) :
    ∃ f v n, ∃ rows : List (List Value), cs = [v] ∧ n ≤ maxLen ∧ rows.length = n ∧ (∀ r ∈ rows, r.length = sz ∧ Shp P w f e r) ∧ IsSl w sz v n rows.flatten := by
  cases fuel with
  | zero => exact h.elim
  | succ f => unfold Shp at h; rw [ht] at h; subst hs; exact ⟨f, h hp⟩
theorem Shp.struct {fs : Array Field} (h : Shp P w fuel t cs) (ht : P.underlying t = some (.struct fs)) :
    cs.length = P.cellsOf t ∧ ∃ f, ∀ fl ∈ fs.toList, Shp P w f fl.type ((cs.drop fl.offset).take (P.cellsOf fl.type)) := by
  cases fuel with
  | zero => exact h.elim
  | succ f => unfold Shp at h; rw [ht] at h; exact ⟨h.1, f, h.2⟩
theorem Shp.array {n : Nat} {e : TypeId} (h : Shp P w fuel t cs) (ht : P.underlying t = some (.array n e)) :
    cs.length = P.cellsOf t ∧ ∃ f, ∀ i, i < n → Shp P w f e ((cs.drop (i * P.cellsOf e)).take (P.cellsOf e)) := by
  cases fuel with
  | zero => exact h.elim
  | succ f => unfold Shp at h; rw [ht] at h; exact ⟨h.1, f, h.2⟩

theorem u8_cells {n : Int} (h : (Lit.int .u8 n).wf = true) : ∃ b : UInt8, n = (b.toNat : Int) := by
  have e1 : IntKind.u8.min = 0 := rfl
  have e2 : IntKind.u8.max = 255 := rfl
  simp only [Lit.wf, decide_eq_true_eq, Bool.and_eq_true, e1, e2] at h
  refine ⟨UInt8.ofNat n.toNat, ?_⟩
  rw [UInt8.toNat_ofNat']; omega
theorem bytes_of_rows {e : TypeId} {f : Nat} (he : P.underlying e = some (.int .u8)) : ∀ (rows : List (List Value)), (∀ r ∈ rows, r.length = 1 ∧ Shp P w f e r) → ∃ l : List UInt8, rows.flatten = bytesV l ∧ l.length = rows.length
  | [], _ => ⟨[], rfl, rfl⟩
  | r :: rest, h => by
    obtain ⟨l, h1, h2⟩ := bytes_of_rows he rest fun x hx => h x (by simp [hx])
    obtain ⟨n, rfl, hw⟩ := (h r (by simp)).2.int he
    obtain ⟨b, rfl⟩ := u8_cells hw
    exact ⟨b :: l, by simp [h1, bytesV], by simp [h2]⟩
theorem Shp.bytes {e : TypeId} (h : Shp P w fuel t cs) (ht : P.underlying t = some (.slice e)) (he : P.underlying e = some (.int .u8)) (hs : P.cellsOf e = 1) :
    ∃ v, ∃ l : List UInt8, cs = [v] ∧ l.length ≤ maxLen ∧ IsSl w 1 v l.length (bytesV l) := by
  obtain ⟨f, v, n, rows, rfl, hn, hl, hr, hsl⟩ := h.slice ht hs (by decide)
  obtain ⟨l, h1, h2⟩ := bytes_of_rows he rows hr
  rw [h1] at hsl
  exact ⟨v, l, rfl, by omega, by rw [h2, hl]; exact hsl⟩
end
end Go.Rn
end
section
/- What the codec writes. Plain, but for where values lie. -/
namespace Go.Cod
open Go.Rn Go.Sha

/-- The digits of a number. -/
def num (u : Nat) : List UInt8 := if u < 128 then [UInt8.ofNat u] else UInt8.ofNat (u % 128 + 128) :: num (u / 128)
termination_by u
decreasing_by omega
theorem num_small {u : Nat} (h : u < 128) : num u = [UInt8.ofNat u] := by rw [num, if_pos h]
theorem num_big {u : Nat} (h : ¬ u < 128) : num u = UInt8.ofNat (u % 128 + 128) :: num (u / 128) := by rw [num, if_neg h]
theorem num_length : ∀ (k u : Nat), u < 128 ^ (k + 1) → (num u).length ≤ k + 1
  | 0, u, h => by rw [num_small (by simpa using h)]; simp
  | k + 1, u, h => by
    by_cases hu : u < 128
    · rw [num_small hu]; simp
    · rw [num_big hu, List.length_cons]
      have := num_length k (u / 128) (by rw [Nat.pow_succ] at h; omega)
      omega
theorem num_le (u : Nat) (h : u < 18446744073709551616) : (num u).length ≤ 10 := num_length 9 u (by omega)
/-- The unsigned form of an integer. -/
def zig (n : Int) : Nat := if 0 ≤ n then (2 * n).toNat else (-2 * n - 1).toNat
theorem zig_lt (n : Int) (h : -9223372036854775808 ≤ n ∧ n < 9223372036854775808) : zig n < 18446744073709551616 := by unfold zig; split <;> omega

inductive CV where
  | int (n : Int)
  | text (s : List UInt8)
  | list (l : List CV)

mutual
def CV.enc : CV → List UInt8
  | .int n => 1 :: num (zig n)
  | .text s => 2 :: (num s.length ++ s)
  | .list l => 3 :: (num l.length ++ encs l)
def encs : List CV → List UInt8
  | [] => []
  | c :: r => c.enc ++ encs r
end
mutual
def CV.depth : CV → Nat
  | .int _ => 0
  | .text _ => 0
  | .list l => depths l + 1
def depths : List CV → Nat
  | [] => 0
  | c :: r => max c.depth (depths r)
end
mutual
/-- A value's four cells, and what hangs on them. -/
def CV.In (w : World) : CV → List Value → Prop
  | .int n, cs => (-9223372036854775808 ≤ n ∧ n < 9223372036854775808) ∧ ∃ d, cs = [.int .i64 1, .int .i64 n, .string ⟨#[]⟩, .slice d 0 0]
  | .text s, cs => s.length ≤ 1000000000 ∧ ∃ d, cs = [.int .i64 2, .int .i64 0, .string (strOf s), .slice d 0 0]
  | .list l, cs => l.length ≤ 1000000 ∧ ∃ v rows, cs = [.int .i64 3, .int .i64 0, .string ⟨#[]⟩, v] ∧ IsSl w 4 v l.length rows.flatten ∧ Ins w l rows
def Ins (w : World) : List CV → List (List Value) → Prop
  | [], rows => rows = []
  | c :: l, rows => ∃ r rest, rows = r :: rest ∧ c.In w r ∧ Ins w l rest
end
theorem In.length {w : World} {c : CV} {cs : List Value} (h : c.In w cs) : cs.length = 4 := by
  cases c <;> simp only [CV.In] at h
  · obtain ⟨_, _, rfl⟩ := h; rfl
  · obtain ⟨_, _, rfl⟩ := h; rfl
  · obtain ⟨_, _, _, rfl, _⟩ := h; rfl

mutual
theorem In.ext {w w' : World} (e : Ext w w') : ∀ (c : CV) (cs : List Value), c.In w cs → c.In w' cs
  | .int _, _, h => by simpa only [CV.In] using h
  | .text _, _, h => by simpa only [CV.In] using h
  | .list l, cs, h => by
    simp only [CV.In] at h ⊢
    obtain ⟨h0, v, rows, h1, h2, h3⟩ := h
    exact ⟨h0, v, rows, h1, h2.extE e, Ins.ext e l rows h3⟩
theorem Ins.ext {w w' : World} (e : Ext w w') : ∀ (l : List CV) (rows : List (List Value)), Ins w l rows → Ins w' l rows
  | [], _, h => by simpa only [Ins] using h
  | c :: l, rows, h => by
    simp only [Ins] at h ⊢
    obtain ⟨r, rest, h1, h2, h3⟩ := h
    exact ⟨r, rest, h1, In.ext e c r h2, Ins.ext e l rest h3⟩
end
theorem Ins.get {w : World} : ∀ {l : List CV} {rows : List (List Value)}, Ins w l rows → rows.length = l.length ∧ ∀ (i : Nat) (c : CV), l[i]? = some c → ∃ r, rows[i]? = some r ∧ c.In w r
  | [], rows, h => by simp only [Ins] at h; subst h; exact ⟨rfl, fun i c h => by simp at h⟩
  | c :: l, rows, h => by
    simp only [Ins] at h
    obtain ⟨r, rest, rfl, h2, h3⟩ := h
    obtain ⟨h4, h5⟩ := Ins.get h3
    refine ⟨by simp [h4], fun i c' hi => ?_⟩
    cases i with
    | zero => simp at hi; subst hi; exact ⟨r, rfl, h2⟩
    | succ i => simp at hi; obtain ⟨r', h6, h7⟩ := h5 i c' hi; exact ⟨r', by simpa using h6, h7⟩
theorem Ins.lens {w : World} : ∀ {l : List CV} {rows : List (List Value)}, Ins w l rows → ∀ r ∈ rows, r.length = 4
  | [], rows, h => by simp only [Ins] at h; subst h; simp
  | c :: l, rows, h => by
    simp only [Ins] at h
    obtain ⟨r, rest, rfl, h2, h3⟩ := h
    intro x hx
    rcases List.mem_cons.1 hx with rfl | hx
    · exact In.length h2
    · exact Ins.lens h3 x hx
/-- The cells of one element. -/
theorem Ins.row {w : World} {l : List CV} {rows : List (List Value)} (h : Ins w l rows) {i : Nat} {r : List Value} (hr : rows[i]? = some r) {b o : Nat} (hb : Row w b o rows.flatten) : Row w b (o + i * 4) r := by
  have hl := h.lens
  refine hb.window fun j v hv => ?_
  have hj : j < 4 := by
    have := hl r (List.mem_of_getElem? hr)
    rcases Nat.lt_or_ge j 4 with h | h
    · exact h
    · rw [List.getElem?_eq_none (by omega)] at hv; simp at hv
  rw [flatten_get rows hl i j hj, hr]; exact hv
theorem encs_append : ∀ (a b : List CV), encs (a ++ b) = encs a ++ encs b
  | [], b => by simp [encs]
  | c :: a, b => by simp only [List.cons_append, encs, encs_append a b, List.append_assoc]
theorem encs_take {l : List CV} {i : Nat} {c : CV} (h : l[i]? = some c) : encs (l.take (i + 1)) = encs (l.take i) ++ c.enc := by
  rw [List.take_add_one, h, encs_append]; simp [encs]
theorem depths_append : ∀ (a b : List CV), depths (a ++ b) = max (depths a) (depths b)
  | [], b => by simp [depths]
  | c :: a, b => by simp only [List.cons_append, depths, depths_append a b]; omega
theorem depths_take {l : List CV} {i : Nat} {c : CV} (h : l[i]? = some c) : depths (l.take (i + 1)) = max (depths (l.take i)) c.depth := by
  rw [List.take_add_one, h, depths_append]; simp [depths]
theorem depth_le : ∀ {l : List CV} {c : CV}, c ∈ l → c.depth ≤ depths l
  | a :: l, c, h => by
    simp only [depths]
    rcases List.mem_cons.1 h with rfl | h
    · omega
    · have := depth_le h; omega
theorem encs_le {l : List CV} {c : CV} {i : Nat} (h : l[i]? = some c) : (encs (l.take i)).length + c.enc.length ≤ (encs l).length := by
  have h1 := encs_take h
  have h2 : encs l = encs (l.take (i + 1)) ++ encs (l.drop (i + 1)) := by rw [← encs_append, List.take_append_drop]
  rw [h2, h1]; simp
end Go.Cod
end
section
/- The program's codec: numbers, forms. -/
namespace Go.Sg
open Go.Rn Go.Sha Go.Cod Go.Proofs
attribute [local irreducible] Go.Rn.RunL Go.Rn.RunE Go.Rn.Asy Go.Rn.OpV Go.Rn.OpE Go.Rn.ExecE

theorem u8_or128 (u : Nat) : IntKind.u8.wrap ((BitVec.ofInt IntKind.u8.bits ((UInt8.ofNat u).toNat : Int) ||| BitVec.ofInt IntKind.u8.bits 128).toNat : Int) = ((UInt8.ofNat (u % 128 + 128)).toNat : Int) := by
  have h : ∀ n : Fin 256, IntKind.u8.wrap ((BitVec.ofInt IntKind.u8.bits (n.val : Int) ||| BitVec.ofInt IntKind.u8.bits 128).toNat : Int) = ((n.val % 128 + 128 : Nat) : Int) := by decide +kernel
  have := h ⟨(UInt8.ofNat u).toNat, (UInt8.ofNat u).toNat_lt⟩
  simp only at this
  rw [this]
  congr 1
  rw [UInt8.toNat_ofNat', UInt8.toNat_ofNat']; omega

theorem numeral_ok (v : Value) (pre : List UInt8) (u base : Nat) (w : World) (hv : w.ownsRow base 5 1 v pre.length (bytesV pre)) (hu : u < 18446744073709551616) (hp : pre.length ≤ 1000000000000) (hb : base ≤ w.heap.size) :
    Rets Tryd.prog 89 [v, .int .u64 (u : Int)] w fun r w' => w'.ownsRow base 5 1 r (pre ++ num u).length (bytesV (pre ++ num u)) ∧ ExtB (fun k => v.ownBlock = some k) w w' := by
  have hnl := num_le u hu
  refine RetsX.of (nt := 20) Tryd.func89 (by kernel_rfl) rfl rfl (by simp) (by simp only [argEnv]; rfl) ?_
  repeat (first | refine RunL.pure Tryd.tOk rfl rfl rfl ?_ | refine RunE.seq ?_ | refine RunE.region ?_ | refine RunL.nil ?_ | refine RunE.block ?_)
  refine RunE.loop (ι := Value × Nat × List UInt8) (fun x => [(0, x.1), (1, .int .u64 (x.2.1 : Int))])
    (fun x w' => x.2.1 < 18446744073709551616 ∧ x.2.2 ++ num x.2.1 = pre ++ num u ∧ ExtB (fun k => v.ownBlock = some k) w w' ∧ (∀ k, x.1.ownBlock = some k → k < w.heap.size → v.ownBlock = some k) ∧ w'.ownsRow base 5 1 x.1 x.2.2.length (bytesV x.2.2)) (fun x => x.2.1) (v, u, pre) (by repeat (first | exact Sub.nil _ | refine Sub.cons rfl ?_)) ⟨hu, rfl, .refl _ _, fun _ h _ => h, hv⟩ ?_
  rintro ⟨v1, m, acc⟩ w1 ⟨hm, hacc, X1, N1, O1⟩ again
  simp only at hm hacc N1 O1 again ⊢
  have hal : acc.length ≤ pre.length + 10 := by
    have := congrArg List.length hacc
    rw [List.length_append, List.length_append] at this; omega
  have hb1 : base ≤ w1.heap.size := Nat.le_trans hb X1.size
  repeat (first | refine RunL.pureI Tryd.tOk rfl rfl rfl (by (first | exact wr_i64 (by omega) (by omega) | exact wm_i64 (by omega) | exact wq_i64 (by omega) (by omega) (by omega) | rfl)) ?_ | refine RunL.pure Tryd.tOk rfl rfl rfl ?_ | refine RunE.seq ?_ | refine RunE.region ?_ | refine RunL.nil ?_)
  refine RunE.cond rfl (fun hge => ?_) (fun hge => ?_) <;> (first | replace hge := of_decide_eq_true hge | replace hge := of_decide_eq_false hge | replace hge := beq_iff_eq.1 hge | replace hge := beq_eq_false_iff_ne.1 hge | replace hge := bne_iff_ne.1 hge | replace hge := bne_eq_false_iff_eq.1 hge | skip)
  · have hm128 : ¬ m < 128 := by omega
    repeat (first | refine RunL.pureI Tryd.tOk rfl rfl rfl (by (first | exact u8_or128 _ | exact u8_of_nat _ | exact wr_i64 (by omega) (by omega) | exact wm_i64 (by omega) | exact wq_i64 (by omega) (by omega) (by omega) | rfl)) ?_ | refine RunL.pure Tryd.tOk rfl rfl rfl ?_ | refine RunE.seq ?_ | refine RunE.region ?_ | refine RunE.block ?_ | refine RunE.skip ?_)
    refine RunL.ex rfl rfl rfl (OpE.buildSl Tryd.tOk [.int .u8 ((UInt8.ofNat (m % 128 + 128)).toNat : Int)] rfl rfl rfl rfl rfl rfl (by simp [Value.cells])) ?_
    rintro _ w2 ⟨B, rfl, a2⟩
    have O2 := ownsRow_ext O1 a2.ext (fun _ _ h => h)
    have hB := a2.eq
    have z2 := a2.size
    refine RunL.ex rfl rfl rfl (OpE.append' Tryd.tOk rfl rfl rfl rfl rfl rfl O2 (isSl_added (n := 1) (sz := 1) a2 rfl) rfl (by show _ * 1 ≤ _; omega) (by omega) (by omega)) ?_
    rintro v3 w3 ⟨O3, E3, hnew⟩
    have X3 : ExtB (fun k => v.ownBlock = some k) w w3 := (X1.trans (.of_ext a2.ext)).write E3 (by intro i hi hlt; exact N1 i hi hlt)
    have N3 : ∀ k, v3.ownBlock = some k → k < w.heap.size → v.ownBlock = some k := fun k hk hlt => N1 k (hnew k hk (by have := X1.size; omega)) hlt
    repeat (first | refine RunL.pureI Tryd.tOk rfl rfl rfl (by (first | exact u64_shr _ 7 (by decide) | exact wr_i64 (by omega) (by omega) | exact wm_i64 (by omega) | exact wq_i64 (by omega) (by omega) (by omega) | rfl)) ?_ | refine RunL.pure Tryd.tOk rfl rfl rfl ?_ | refine RunE.region ?_ | refine RunL.nil ?_ | refine RunE.inBlock ?_)
    refine RunE.weaken (by repeat (first | exact Sub.nil _ | refine Sub.cons rfl ?_)) (again (v3, m / 128, acc ++ [UInt8.ofNat (m % 128 + 128)]) _ (by simp only; omega) ⟨by simp only; omega, ?_, X3, N3, ?_⟩)
    · simp only
      rw [← hacc, num_big hm128]; simp
    · simp only
      rw [List.length_append, bytesV_append]; exact O3
  · have hm128 : m < 128 := by omega
    clear again
    repeat (first | refine RunL.pureI Tryd.tOk rfl rfl rfl (by (first | exact u8_of_nat _ | exact wr_i64 (by omega) (by omega) | exact wm_i64 (by omega) | exact wq_i64 (by omega) (by omega) (by omega) | rfl)) ?_ | refine RunL.pure Tryd.tOk rfl rfl rfl ?_ | refine RunE.seq ?_ | refine RunE.region ?_ | refine RunE.exit rfl ?_)
    refine RunL.ex rfl rfl rfl (OpE.buildSl Tryd.tOk [.int .u8 ((UInt8.ofNat m).toNat : Int)] rfl rfl rfl rfl rfl rfl (by simp [Value.cells])) ?_
    rintro _ w2 ⟨B, rfl, a2⟩
    have O2 := ownsRow_ext O1 a2.ext (fun _ _ h => h)
    have z2 := a2.size
    have hB := a2.eq
    refine RunL.ex rfl rfl rfl (OpE.append' Tryd.tOk rfl rfl rfl rfl rfl rfl O2 (isSl_added (n := 1) (sz := 1) a2 rfl) rfl (by show _ * 1 ≤ _; omega) (by omega) (by omega)) ?_
    rintro v3 w3 ⟨O3, E3, hnew⟩
    have X3 : ExtB (fun k => v.ownBlock = some k) w w3 := (X1.trans (.of_ext a2.ext)).write E3 (by intro i hi hlt; exact N1 i hi hlt)
    have N3 : ∀ k, v3.ownBlock = some k → k < w.heap.size → v.ownBlock = some k := fun k hk hlt => N1 k (hnew k hk (by have := X1.size; omega)) hlt
    repeat (first | refine RunL.pure Tryd.tOk rfl rfl rfl ?_ | refine RunL.nil ?_)
    refine RunE.retFn Tryd.func89 (.tmp rfl .nil) ⟨?_, X3⟩
    simp only [oneOr]
    rw [← hacc, num_small hm128, List.length_append, bytesV_append]
    exact O3

theorem zig_ok (n : Int) (h : -9223372036854775808 ≤ n ∧ n < 9223372036854775808) :
    IntKind.u64.wrap ((BitVec.ofInt IntKind.u64.bits (IntKind.u64.wrap (IntKind.u64.wrap n * 2 ^ (min 1 IntKind.u64.bits))) ^^^ BitVec.ofInt IntKind.u64.bits (IntKind.u64.wrap (n.fdiv (2 ^ (min 63 IntKind.i64.bits))))).toNat : Int) = (zig n : Int) := by
  have e1 : (2 : Int) ^ (min 1 IntKind.u64.bits) = 2 := by decide
  have e2 : (2 : Int) ^ (min 63 IntKind.i64.bits) = 9223372036854775808 := by decide
  have e3 : IntKind.u64.bits = 64 := rfl
  rw [e1, e2, e3]
  simp only [wrap_u64]
  rw [Int.fdiv_eq_ediv_of_nonneg _ (by decide)]
  unfold zig
  by_cases hn : 0 ≤ n
  · rw [if_pos hn]
    have h1 : n / 9223372036854775808 = 0 := by omega
    have h2 : n % 18446744073709551616 * 2 % 18446744073709551616 = ((2 * n).toNat : Int) := by omega
    rw [h1, h2]
    have h3 : (BitVec.ofInt 64 (0 % 18446744073709551616) : BitVec 64) = 0#64 := by decide
    rw [h3, BitVec.xor_zero, BitVec.ofInt_natCast, BitVec.toNat_ofNat]; omega
  · rw [if_neg hn]
    have h1 : n / 9223372036854775808 = -1 := by omega
    have h2 : n % 18446744073709551616 * 2 % 18446744073709551616 = ((2 * n + 18446744073709551616).toNat : Int) := by omega
    rw [h1, h2]
    have h3 : (BitVec.ofInt 64 (-1 % 18446744073709551616) : BitVec 64) = BitVec.allOnes 64 := by decide
    rw [h3, BitVec.xor_allOnes, BitVec.ofInt_natCast, BitVec.toNat_not, BitVec.toNat_ofNat]; omega

theorem unsigned_ok (n : Int) (h : -9223372036854775808 ≤ n ∧ n < 9223372036854775808) (w : World) : Rets Tryd.prog 90 [.int .i64 n] w fun v w' => v = .int .u64 (zig n : Int) ∧ w = w' := by
  refine RetsX.of (nt := 10) Tryd.func90 (by kernel_rfl) rfl rfl (by simp) (by simp only [argEnv]; rfl) ?_
  repeat (first | refine RunL.pureI Tryd.tOk rfl rfl rfl (by (first | exact zig_ok n h | exact wr_i64 (by omega) (by omega) | exact wm_i64 (by omega) | exact wq_i64 (by omega) (by omega) (by omega) | rfl)) ?_ | refine RunE.seq ?_ | refine RunE.region ?_ | refine RunL.nil ?_)
  exact RunE.retFn Tryd.func90 (.tmp rfl .nil) ⟨rfl, rfl⟩
end Go.Sg
end
section
/- The program's codec: what is well-formed. -/
namespace Go.Sg
open Go.Rn Go.Sha Go.Cod Go.Proofs
attribute [local irreducible] Go.Rn.RunL Go.Rn.RunE Go.Rn.Asy Go.Rn.OpV Go.Rn.OpE Go.Rn.ExecE

theorem cells_plain {w : World} {c : CV} {r : List Value} (h : c.In w r) : (Value.agg r.toArray).cells.toList.all plainV = true := by
  show r.all plainV = true
  cases c <;> simp only [CV.In] at h
  · obtain ⟨_, _, rfl⟩ := h; rfl
  · obtain ⟨_, _, rfl⟩ := h; rfl
  · obtain ⟨_, v, rows, rfl, hsl, _⟩ := h
    rcases hsl.inv with ⟨_, rfl, -⟩ | ⟨_, _, _, rfl, -⟩ <;> rfl
theorem max_nat (a b : Nat) : (if (b : Int) > (a : Int) then (b : Int) else (a : Int)) = ((max a b : Nat) : Int) := by split <;> omega
theorem beq_refl_str (s : ByteArray) : (s.toList == s.toList) = true := beq_self_eq_true _

set_option maxHeartbeats 1000000 in
theorem formed_int (n : Int) (d : Option Addr) (w : World) : Rets Tryd.prog 87 [.agg #[.int .i64 1, .int .i64 n, .string ⟨#[]⟩, .slice d 0 0]] w fun v w' => v = .tuple #[.int .i64 ((CV.int n).depth : Int), .bool true] ∧ Ext w w' := by
  refine RetsX.of (nt := 74) Tryd.func87 (by kernel_rfl) rfl rfl (by simp) (by simp only [argEnv]; rfl) ?_
  repeat (first | refine RunE.seq ?_ | refine RunE.region ?_)
  refine RunL.box rfl rfl rfl fun B1 w1 a1 => ?_
  have Z1 : Blk w1 B1 [.int .i64 1, .int .i64 n, .string ⟨#[]⟩, .slice d 0 0] 57 := a1.at_
  repeat (first | refine RunL.pureB Tryd.tOk _ rfl rfl rfl (by with_reducible exact beq_refl_str _) ?_ | refine RunL.pureI Tryd.tOk rfl rfl rfl (by (first | exact wr_i64 (by omega) (by omega) | exact wm_i64 (by omega) | exact wq_i64 (by omega) (by omega) (by omega) | rfl)) ?_ | refine RunL.pure Tryd.tOk rfl rfl rfl ?_ | refine RunL.val rfl rfl rfl (OpV.load1 Tryd.tOk rfl rfl rfl (Blk.cell Z1 rfl)) ?_ | refine RunE.seq ?_ | refine RunE.region ?_ | refine RunL.nil ?_)
  cases hb : (n == (0 : Int)) with
  | true =>
    repeat (first | refine RunL.pureB Tryd.tOk _ rfl rfl rfl (by with_reducible exact beq_refl_str _) ?_ | refine RunL.pureB Tryd.tOk _ rfl rfl rfl (by exact hb) ?_ | refine RunL.pureI Tryd.tOk rfl rfl rfl (by (first | exact wr_i64 (by omega) (by omega) | exact wm_i64 (by omega) | exact wq_i64 (by omega) (by omega) (by omega) | rfl)) ?_ | refine RunL.pure Tryd.tOk rfl rfl rfl ?_ | refine RunL.val rfl rfl rfl (OpV.load1 Tryd.tOk rfl rfl rfl (Blk.cell Z1 rfl)) ?_)
    refine RunL.alloc Tryd.tOk rfl rfl rfl fun B4 w2 a2 => ?_
    have hB1 := a1.eq
    have hB4 := a2.eq
    have z1 := a1.size
    refine RunL.store Tryd.tOk rfl rfl rfl rfl rfl (cs := List.replicate 4 (.bool false)) a2.at_ rfl rfl fun w3 t3 => ?_
    have X3 : Ext w w3 := (a1.ext.trans a2.ext).write t3.ext (by intro i hi hlt; subst hi; omega)
    have U3 := t3.at_
    have Z3 := (Blk.ext Z1 a2.ext id).ext t3.ext (by omega)
    clear a1 a2 t3
    repeat (first | refine RunL.pure Tryd.tOk rfl rfl rfl ?_ | refine RunL.val rfl rfl rfl (OpV.indexAK Tryd.tOk rfl rfl rfl rfl) ?_ | refine RunL.val rfl rfl rfl (OpV.load1 Tryd.tOk rfl rfl rfl (Blk.cell Z3 rfl)) ?_ | refine RunL.val rfl rfl rfl (OpV.load1 Tryd.tOk rfl rfl rfl (Blk.cell U3 rfl)) ?_ | refine RunE.seq ?_ | refine RunE.region ?_ | refine RunL.nil ?_)
    refine RunE.condF rfl rfl ?_
    repeat (first | refine RunL.pure Tryd.tOk rfl rfl rfl ?_ | refine RunL.val rfl rfl rfl (OpV.load1 Tryd.tOk rfl rfl rfl (Blk.cell Z3 rfl)) ?_ | refine RunE.seq ?_ | refine RunE.region ?_ | refine RunL.nil ?_ | refine RunE.skip ?_)
    refine RunE.condT rfl rfl ?_
    repeat (first | refine RunL.pureI Tryd.tOk rfl rfl rfl (by (first | exact wr_i64 (by omega) (by omega) | exact wm_i64 (by omega) | exact wq_i64 (by omega) (by omega) (by omega) | rfl)) ?_ | refine RunL.pure Tryd.tOk rfl rfl rfl ?_ | refine RunE.seq ?_ | refine RunE.region ?_ | refine RunL.nil ?_)
    exact RunE.retFn Tryd.func87 (.tmp rfl (.tmp rfl .nil)) ⟨by simp [oneOr, CV.depth], X3⟩
  | false =>
    repeat (first | refine RunL.pureB Tryd.tOk _ rfl rfl rfl (by exact hb) ?_ | refine RunL.pure Tryd.tOk rfl rfl rfl ?_ | refine RunL.unwantedD rfl rfl ?_ | refine RunL.val rfl rfl rfl (OpV.load1 Tryd.tOk rfl rfl rfl (Blk.cell Z1 rfl)) ?_)
    refine RunL.alloc Tryd.tOk rfl rfl rfl fun B4 w2 a2 => ?_
    have hB1 := a1.eq
    have hB4 := a2.eq
    have z1 := a1.size
    refine RunL.store Tryd.tOk rfl rfl rfl rfl rfl (cs := List.replicate 4 (.bool false)) a2.at_ rfl rfl fun w3 t3 => ?_
    have X3 : Ext w w3 := (a1.ext.trans a2.ext).write t3.ext (by intro i hi hlt; subst hi; omega)
    have U3 := t3.at_
    have Z3 := (Blk.ext Z1 a2.ext id).ext t3.ext (by omega)
    clear a1 a2 t3
    repeat (first | refine RunL.pure Tryd.tOk rfl rfl rfl ?_ | refine RunL.val rfl rfl rfl (OpV.indexAK Tryd.tOk rfl rfl rfl rfl) ?_ | refine RunL.val rfl rfl rfl (OpV.load1 Tryd.tOk rfl rfl rfl (Blk.cell Z3 rfl)) ?_ | refine RunL.val rfl rfl rfl (OpV.load1 Tryd.tOk rfl rfl rfl (Blk.cell U3 rfl)) ?_ | refine RunE.seq ?_ | refine RunE.region ?_ | refine RunL.nil ?_)
    refine RunE.condF rfl rfl ?_
    repeat (first | refine RunL.pure Tryd.tOk rfl rfl rfl ?_ | refine RunL.val rfl rfl rfl (OpV.load1 Tryd.tOk rfl rfl rfl (Blk.cell Z3 rfl)) ?_ | refine RunE.seq ?_ | refine RunE.region ?_ | refine RunL.nil ?_ | refine RunE.skip ?_)
    refine RunE.condT rfl rfl ?_
    repeat (first | refine RunL.pureI Tryd.tOk rfl rfl rfl (by (first | exact wr_i64 (by omega) (by omega) | exact wm_i64 (by omega) | exact wq_i64 (by omega) (by omega) (by omega) | rfl)) ?_ | refine RunL.pure Tryd.tOk rfl rfl rfl ?_ | refine RunE.seq ?_ | refine RunE.region ?_ | refine RunL.nil ?_)
    exact RunE.retFn Tryd.func87 (.tmp rfl (.tmp rfl .nil)) ⟨by simp [oneOr, CV.depth], X3⟩

set_option maxHeartbeats 1000000 in
theorem formed_text (s : ByteArray) (d : Option Addr) (w : World) : Rets Tryd.prog 87 [.agg #[.int .i64 2, .int .i64 0, .string s, .slice d 0 0]] w fun v w' => v = .tuple #[.int .i64 0, .bool true] ∧ Ext w w' := by
  refine RetsX.of (nt := 74) Tryd.func87 (by kernel_rfl) rfl rfl (by simp) (by simp only [argEnv]; rfl) ?_
  repeat (first | refine RunE.seq ?_ | refine RunE.region ?_)
  refine RunL.box rfl rfl rfl fun B1 w1 a1 => ?_
  have Z1 : Blk w1 B1 [.int .i64 2, .int .i64 0, .string s, .slice d 0 0] 57 := a1.at_
  repeat (first | refine RunL.pureI Tryd.tOk rfl rfl rfl (by (first | exact wr_i64 (by omega) (by omega) | exact wm_i64 (by omega) | exact wq_i64 (by omega) (by omega) (by omega) | rfl)) ?_ | refine RunL.pure Tryd.tOk rfl rfl rfl ?_ | refine RunL.val rfl rfl rfl (OpV.load1 Tryd.tOk rfl rfl rfl (Blk.cell Z1 rfl)) ?_ | refine RunE.seq ?_ | refine RunE.region ?_ | refine RunL.nil ?_)
  cases hb : (s.toList == ByteArray.toList ⟨#[]⟩) with
  | true =>
    repeat (first | refine RunL.pureB Tryd.tOk _ rfl rfl rfl (by exact hb) ?_ | refine RunL.pureI Tryd.tOk rfl rfl rfl (by (first | exact wr_i64 (by omega) (by omega) | exact wm_i64 (by omega) | exact wq_i64 (by omega) (by omega) (by omega) | rfl)) ?_ | refine RunL.pure Tryd.tOk rfl rfl rfl ?_ | refine RunL.val rfl rfl rfl (OpV.load1 Tryd.tOk rfl rfl rfl (Blk.cell Z1 rfl)) ?_)
    refine RunL.alloc Tryd.tOk rfl rfl rfl fun B4 w2 a2 => ?_
    have hB1 := a1.eq
    have hB4 := a2.eq
    have z1 := a1.size
    refine RunL.store Tryd.tOk rfl rfl rfl rfl rfl (cs := List.replicate 4 (.bool false)) a2.at_ rfl rfl fun w3 t3 => ?_
    have X3 : Ext w w3 := (a1.ext.trans a2.ext).write t3.ext (by intro i hi hlt; subst hi; omega)
    have U3 := t3.at_
    have Z3 := (Blk.ext Z1 a2.ext id).ext t3.ext (by omega)
    clear a1 a2 t3
    repeat (first | refine RunL.pure Tryd.tOk rfl rfl rfl ?_ | refine RunL.val rfl rfl rfl (OpV.indexAK Tryd.tOk rfl rfl rfl rfl) ?_ | refine RunL.val rfl rfl rfl (OpV.load1 Tryd.tOk rfl rfl rfl (Blk.cell Z3 rfl)) ?_ | refine RunL.val rfl rfl rfl (OpV.load1 Tryd.tOk rfl rfl rfl (Blk.cell U3 rfl)) ?_ | refine RunE.seq ?_ | refine RunE.region ?_ | refine RunL.nil ?_)
    refine RunE.condF rfl rfl ?_
    repeat (first | refine RunL.pure Tryd.tOk rfl rfl rfl ?_ | refine RunL.val rfl rfl rfl (OpV.load1 Tryd.tOk rfl rfl rfl (Blk.cell Z3 rfl)) ?_ | refine RunE.seq ?_ | refine RunE.region ?_ | refine RunL.nil ?_ | refine RunE.skip ?_)
    refine RunE.condT rfl rfl ?_
    repeat (first | refine RunL.pureI Tryd.tOk rfl rfl rfl (by (first | exact wr_i64 (by omega) (by omega) | exact wm_i64 (by omega) | exact wq_i64 (by omega) (by omega) (by omega) | rfl)) ?_ | refine RunL.pure Tryd.tOk rfl rfl rfl ?_ | refine RunE.seq ?_ | refine RunE.region ?_ | refine RunL.nil ?_)
    exact RunE.retFn Tryd.func87 (.tmp rfl (.tmp rfl .nil)) ⟨by simp [oneOr, CV.depth], X3⟩
  | false =>
    repeat (first | refine RunL.pureB Tryd.tOk _ rfl rfl rfl (by exact hb) ?_ | refine RunL.pureI Tryd.tOk rfl rfl rfl (by (first | exact wr_i64 (by omega) (by omega) | exact wm_i64 (by omega) | exact wq_i64 (by omega) (by omega) (by omega) | rfl)) ?_ | refine RunL.pure Tryd.tOk rfl rfl rfl ?_ | refine RunL.unwantedD rfl rfl ?_ | refine RunL.val rfl rfl rfl (OpV.load1 Tryd.tOk rfl rfl rfl (Blk.cell Z1 rfl)) ?_)
    refine RunL.alloc Tryd.tOk rfl rfl rfl fun B4 w2 a2 => ?_
    have hB1 := a1.eq
    have hB4 := a2.eq
    have z1 := a1.size
    refine RunL.store Tryd.tOk rfl rfl rfl rfl rfl (cs := List.replicate 4 (.bool false)) a2.at_ rfl rfl fun w3 t3 => ?_
    have X3 : Ext w w3 := (a1.ext.trans a2.ext).write t3.ext (by intro i hi hlt; subst hi; omega)
    have U3 := t3.at_
    have Z3 := (Blk.ext Z1 a2.ext id).ext t3.ext (by omega)
    clear a1 a2 t3
    repeat (first | refine RunL.pure Tryd.tOk rfl rfl rfl ?_ | refine RunL.val rfl rfl rfl (OpV.indexAK Tryd.tOk rfl rfl rfl rfl) ?_ | refine RunL.val rfl rfl rfl (OpV.load1 Tryd.tOk rfl rfl rfl (Blk.cell Z3 rfl)) ?_ | refine RunL.val rfl rfl rfl (OpV.load1 Tryd.tOk rfl rfl rfl (Blk.cell U3 rfl)) ?_ | refine RunE.seq ?_ | refine RunE.region ?_ | refine RunL.nil ?_)
    refine RunE.condF rfl rfl ?_
    repeat (first | refine RunL.pure Tryd.tOk rfl rfl rfl ?_ | refine RunL.val rfl rfl rfl (OpV.load1 Tryd.tOk rfl rfl rfl (Blk.cell Z3 rfl)) ?_ | refine RunE.seq ?_ | refine RunE.region ?_ | refine RunL.nil ?_ | refine RunE.skip ?_)
    refine RunE.condT rfl rfl ?_
    repeat (first | refine RunL.pureI Tryd.tOk rfl rfl rfl (by (first | exact wr_i64 (by omega) (by omega) | exact wm_i64 (by omega) | exact wq_i64 (by omega) (by omega) (by omega) | rfl)) ?_ | refine RunL.pure Tryd.tOk rfl rfl rfl ?_ | refine RunE.seq ?_ | refine RunE.region ?_ | refine RunL.nil ?_)
    exact RunE.retFn Tryd.func87 (.tmp rfl (.tmp rfl .nil)) ⟨by simp [oneOr, CV.depth], X3⟩

set_option maxHeartbeats 2000000 in
theorem formed_ok : ∀ (c : CV) (cs : List Value) (w : World), c.In w cs → c.depth ≤ 1000 → Rets Tryd.prog 87 [.agg cs.toArray] w fun v w' => v = .tuple #[.int .i64 (c.depth : Int), .bool true] ∧ Ext w w'
  | .int n, cs, w, h, _ => by
    simp only [CV.In] at h
    obtain ⟨hn, d, rfl⟩ := h
    exact formed_int n d w
  | .text s, cs, w, h, _ => by
    simp only [CV.In] at h
    obtain ⟨hn, d, rfl⟩ := h
    exact formed_text _ d w
  | .list l, cs, w, h, hdep => by
    simp only [CV.depth] at hdep
    simp only [CV.In] at h
    obtain ⟨hl, v, rows, rfl, hsl, hin⟩ := h
    obtain ⟨hrl, hget⟩ := hin.get
    refine RetsX.of (nt := 74) Tryd.func87 (by kernel_rfl) rfl rfl (by simp) (by simp only [argEnv]; rfl) ?_
    repeat (first | refine RunE.seq ?_ | refine RunE.region ?_)
    refine RunL.box rfl rfl rfl fun B1 w1 a1 => ?_
    have Z1 : Blk w1 B1 [.int .i64 3, .int .i64 0, .string ⟨#[]⟩, v] 57 := a1.at_
    repeat (first | refine RunL.pureB Tryd.tOk _ rfl rfl rfl (by with_reducible exact beq_refl_str _) ?_ | refine RunL.pureI Tryd.tOk rfl rfl rfl (by (first | exact wr_i64 (by omega) (by omega) | exact wm_i64 (by omega) | exact wq_i64 (by omega) (by omega) (by omega) | rfl)) ?_ | refine RunL.pure Tryd.tOk rfl rfl rfl ?_ | refine RunL.val rfl rfl rfl (OpV.load1 Tryd.tOk rfl rfl rfl (Blk.cell Z1 rfl)) ?_ | refine RunE.seq ?_ | refine RunE.region ?_ | refine RunL.nil ?_)
    refine RunL.val rfl rfl rfl (OpV.lenSl Tryd.tOk rfl rfl hsl) ?_
    repeat (first | refine RunL.pure Tryd.tOk rfl rfl rfl ?_ | refine RunL.val rfl rfl rfl (OpV.load1 Tryd.tOk rfl rfl rfl (Blk.cell Z1 rfl)) ?_)
    refine RunL.val rfl rfl rfl (OpV.lenSl Tryd.tOk rfl rfl hsl) ?_
    repeat (first | refine RunL.pureB Tryd.tOk _ rfl rfl rfl (by with_reducible exact beq_refl_str _) ?_ | refine RunL.pure Tryd.tOk rfl rfl rfl ?_ | refine RunL.val rfl rfl rfl (OpV.load1 Tryd.tOk rfl rfl rfl (Blk.cell Z1 rfl)) ?_)
    refine RunL.alloc Tryd.tOk rfl rfl rfl fun B4 w2 a2 => ?_
    have hB1 := a1.eq
    have hB4 := a2.eq
    have z1 := a1.size
    refine RunL.store Tryd.tOk rfl rfl rfl rfl rfl (cs := List.replicate 4 (.bool false)) a2.at_ rfl rfl fun w3 t3 => ?_
    have X3 : Ext w w3 := (a1.ext.trans a2.ext).write t3.ext (by intro i hi hlt; subst hi; omega)
    have U3 := t3.at_
    have Z3 := (Blk.ext Z1 a2.ext id).ext t3.ext (by omega)
    clear a1 a2 t3
    repeat (first | refine RunL.pure Tryd.tOk rfl rfl rfl ?_ | refine RunL.val rfl rfl rfl (OpV.indexAK Tryd.tOk rfl rfl rfl rfl) ?_ | refine RunL.val rfl rfl rfl (OpV.load1 Tryd.tOk rfl rfl rfl (Blk.cell Z3 rfl)) ?_ | refine RunL.val rfl rfl rfl (OpV.load1 Tryd.tOk rfl rfl rfl (Blk.cell U3 rfl)) ?_ | refine RunE.seq ?_ | refine RunE.region ?_ | refine RunL.nil ?_)
    refine RunE.condF rfl rfl ?_
    repeat (first | refine RunL.pure Tryd.tOk rfl rfl rfl ?_ | refine RunL.val rfl rfl rfl (OpV.load1 Tryd.tOk rfl rfl rfl (Blk.cell Z3 rfl)) ?_ | refine RunE.seq ?_ | refine RunE.region ?_ | refine RunL.nil ?_ | refine RunE.skip ?_)
    refine RunE.condF rfl rfl ?_
    repeat (first | refine RunL.pure Tryd.tOk rfl rfl rfl ?_ | refine RunL.val rfl rfl rfl (OpV.load1 Tryd.tOk rfl rfl rfl (Blk.cell Z3 rfl)) ?_ | refine RunE.seq ?_ | refine RunE.region ?_ | refine RunE.skip ?_)
    refine RunL.val rfl rfl rfl (OpV.lenSl Tryd.tOk rfl rfl hsl) ?_
    repeat (first | refine RunL.pureI Tryd.tOk rfl rfl rfl (by (first | exact wr_i64 (by omega) (by omega) | exact wm_i64 (by omega) | exact wq_i64 (by omega) (by omega) (by omega) | rfl)) ?_ | refine RunL.nil ?_ | refine RunE.block ?_)
    refine RunE.loop (ι := Nat) (fun i => [(2, .int .i64 (depths (l.take i) : Int)), (55, v), (56, .int .i64 (l.length : Int)), (57, .int .i64 (i : Int))])
      (fun i w' => i ≤ l.length ∧ Ext w w') (fun i => l.length - i) 0 (by repeat (first | exact Sub.nil _ | refine Sub.cons rfl ?_)) ⟨by omega, X3⟩ ?_
    clear X3 Z3 U3 Z1
    rintro i w4 ⟨hi, X4⟩ again
    repeat (first | refine RunL.pure Tryd.tOk rfl rfl rfl ?_ | refine RunE.seq ?_ | refine RunE.region ?_ | refine RunL.nil ?_)
    refine RunE.cond rfl (fun hlt => ?_) (fun hlt => ?_) <;> (first | replace hlt := of_decide_eq_true hlt | replace hlt := of_decide_eq_false hlt | replace hlt := beq_iff_eq.1 hlt | replace hlt := beq_eq_false_iff_ne.1 hlt | replace hlt := bne_iff_ne.1 hlt | replace hlt := bne_eq_false_iff_eq.1 hlt | skip)
    · have hi' : i < l.length := by omega
      obtain ⟨c, hc⟩ : ∃ c, l[i]? = some c := ⟨_, List.getElem?_eq_getElem hi'⟩
      obtain ⟨r, hr, hcr⟩ := hget i c hc
      obtain ⟨b, o, cap, rfl, hrow, -, -⟩ := hsl.held (by omega)
      have hr4 := In.length hcr
      repeat (first | refine RunE.seq ?_ | refine RunE.region ?_ | refine RunE.block ?_ | refine RunE.skip ?_)
      refine RunL.val rfl rfl rfl (OpV.indexS Tryd.tOk i rfl rfl rfl rfl hi') ?_
      refine RunL.val rfl rfl rfl (OpV.loadN (cs := r) Tryd.tOk rfl rfl rfl hr4 ((hin.row hr hrow).extE X4)) ?_
      refine RunL.alloc Tryd.tOk rfl rfl rfl fun B6 w5 a5 => ?_
      refine RunL.store (v := .agg r.toArray) Tryd.tOk rfl rfl rfl rfl (by simpa [Value.cells] using hr4) (cs := [.int .i64 0, .int .i64 0, .string ⟨#[]⟩, .slice none 0 0]) a5.at_ (by simp [Value.cells, hr4]) (cells_plain hcr) fun w6 t6 => ?_
      have hB6 := a5.eq
      have X6 : Ext w w6 := (X4.trans a5.ext).write t6.ext (by intro i hi hlt; subst hi; have := X4.size; omega)
      have Z6 : Blk w6 B6 r 57 := by
        have := t6.at_
        rw [show (Value.agg r.toArray).cells.toList = r from rfl, setAt_all _ _ (by simpa using hr4)] at this
        exact this
      clear a5 t6
      repeat (first | refine RunE.seq ?_ | refine RunE.region ?_ | refine RunL.nil ?_)
      refine RunL.val rfl rfl rfl (OpV.loadN (cs := r) Tryd.tOk rfl rfl rfl hr4 Z6.row) ?_
      refine RunL.call rfl rfl rfl (formed_ok c r w6 (In.ext X6 c r hcr) (by have := depth_le (List.mem_of_getElem? hc); omega)) ?_
      rintro _ w7 ⟨rfl, X7⟩
      repeat (first | refine RunL.pureI Tryd.tOk rfl rfl rfl (by (first | exact wr_i64 (by omega) (by omega) | exact wm_i64 (by omega) | exact wq_i64 (by omega) (by omega) (by omega) | rfl)) ?_ | refine RunL.pure Tryd.tOk rfl rfl rfl ?_ | refine RunE.seq ?_ | refine RunE.region ?_ | refine RunL.nil ?_)
      refine RunE.condF rfl rfl ?_
      repeat (first | refine RunL.pureI Tryd.tOk rfl rfl rfl (by (first | exact max_nat _ _ | exact wr_i64 (by omega) (by omega) | exact wm_i64 (by omega) | exact wq_i64 (by omega) (by omega) (by omega) | rfl)) ?_ | refine RunE.region ?_ | refine RunL.nil ?_ | refine RunE.inBlock ?_ | refine RunE.skip ?_)
      refine RunE.weaken (by
        refine Sub.cons ?_ (Sub.cons rfl (Sub.cons rfl (Sub.cons rfl (Sub.nil _))))
        rw [depths_take hc]; rfl) (again (i + 1) _ (by omega) ⟨by omega, X6.trans X7⟩)
    · have hil : i = l.length := by omega
      subst hil
      rw [List.take_length]
      repeat (first | refine RunL.pureI Tryd.tOk rfl rfl rfl (by (first | exact wr_i64 (by omega) (by omega) | exact wm_i64 (by omega) | exact wq_i64 (by omega) (by omega) (by omega) | rfl)) ?_ | refine RunL.pure Tryd.tOk rfl rfl rfl ?_ | refine RunE.seq ?_ | refine RunE.region ?_ | refine RunL.nil ?_ | refine RunE.exit rfl ?_)
      refine RunE.retFn Tryd.func87 (.tmp rfl (.tmp rfl .nil)) ⟨?_, X4⟩
      simp only [oneOr, CV.depth]
      congr 3
termination_by c => SizeOf.sizeOf c
decreasing_by
  have := List.sizeOf_lt_of_mem (List.mem_of_getElem? hc)
  simp only [CV.list.sizeOf_spec]
  omega
end Go.Sg
end
section
/- The program's codec: writing. -/
namespace Go.Sg
open Go.Rn Go.Sha Go.Cod Go.Proofs
attribute [local irreducible] Go.Rn.RunL Go.Rn.RunE Go.Rn.Asy Go.Rn.OpV Go.Rn.OpE Go.Rn.ExecE

def fnV (f : FuncId) : Value := .func (.func f) [].toArray [].toArray
def fnC (f : FuncId) (ca : List Value) : Value := .func (.func f) [].toArray ca.toArray
structure WriterAt (w : World) (Bw Bp : Nat) : Prop where
  tab : Blk w Bw [.nilFunc, fnV 88, fnV 91, fnC 92 [.pointer (some ⟨Bp, 0, none⟩)]] 124
  ptr : Blk w Bp [.pointer (some ⟨Bw, 0, none⟩)] 106
theorem WriterAt.ext {S : Nat → Prop} {w w' : World} {Bw Bp : Nat} (h : WriterAt w Bw Bp) (e : ExtB S w w') (h1 : ¬ S Bw) (h2 : ¬ S Bp) : WriterAt w' Bw Bp := ⟨h.tab.ext e h1, h.ptr.ext e h2⟩

theorem newWriter_ok (w : World) : Rets Tryd.prog 75 [] w fun v w' => ∃ Bw Bp, v = .pointer (some ⟨Bw, 0, none⟩) ∧ WriterAt w' Bw Bp ∧ Ext w w' := by
  refine RetsX.of (nt := 18) Tryd.func75 (by kernel_rfl) rfl rfl (by simp) (by simp only [argEnv]; rfl) ?_
  repeat (first | refine RunL.pure Tryd.tOk rfl rfl rfl ?_ | refine RunE.seq ?_ | refine RunE.region ?_ | refine RunL.nil ?_)
  refine RunL.box rfl rfl rfl fun Bw w1 a1 => ?_
  refine RunL.alloc Tryd.tOk rfl rfl rfl fun Bp w2 a2 => ?_
  refine RunL.store Tryd.tOk rfl rfl rfl rfl rfl (cs := [.pointer none]) a2.at_ rfl rfl fun w3 t3 => ?_
  have hBw := a1.eq
  have hBp := a2.eq
  have z1 := a1.size
  have X3 : Ext w w3 := (a1.ext.trans a2.ext).write t3.ext (by intro i hi hlt; subst hi; omega)
  have P3 : Blk w3 Bp [.pointer (some ⟨Bw, 0, none⟩)] 106 := t3.at_
  have T3 : Blk w3 Bw [.nilFunc, .nilFunc, .nilFunc, .nilFunc] 124 := Blk.ext (Blk.ext (w := w1) (cs := [.nilFunc, .nilFunc, .nilFunc, .nilFunc]) a1.at_ a2.ext id) t3.ext (by omega)
  clear a1 a2 t3
  repeat (first | refine RunL.pure Tryd.tOk rfl rfl rfl ?_ | refine RunL.val rfl rfl rfl (OpV.indexAK Tryd.tOk rfl rfl rfl rfl) ?_ | refine RunL.val rfl rfl rfl (OpV.load1 Tryd.tOk rfl rfl rfl (Blk.cell P3 rfl)) ?_ | refine RunE.seq ?_ | refine RunE.region ?_ | refine RunL.nil ?_)
  refine RunL.store Tryd.tOk rfl rfl rfl rfl rfl T3 rfl rfl fun w4 t4 => ?_
  have X4 : Ext w w4 := X3.write t4.ext (by intro i hi hlt; subst hi; omega)
  have P4 := P3.ext t4.ext (by omega)
  have T4 := t4.at_
  clear T3 P3 X3 t4
  repeat (first | refine RunL.pure Tryd.tOk rfl rfl rfl ?_ | refine RunL.val rfl rfl rfl (OpV.indexAK Tryd.tOk rfl rfl rfl rfl) ?_ | refine RunL.val rfl rfl rfl (OpV.load1 Tryd.tOk rfl rfl rfl (Blk.cell P4 rfl)) ?_ | refine RunE.seq ?_ | refine RunE.region ?_ | refine RunL.nil ?_)
  refine RunL.store Tryd.tOk rfl rfl rfl rfl rfl T4 rfl rfl fun w5 t5 => ?_
  have X5 : Ext w w5 := X4.write t5.ext (by intro i hi hlt; subst hi; omega)
  have P5 := P4.ext t5.ext (by omega)
  have T5 := t5.at_
  clear T4 P4 X4 t5
  repeat (first | refine RunL.pure Tryd.tOk rfl rfl rfl ?_ | refine RunL.val rfl rfl rfl (OpV.indexAK Tryd.tOk rfl rfl rfl rfl) ?_ | refine RunL.val rfl rfl rfl (OpV.load1 Tryd.tOk rfl rfl rfl (Blk.cell P5 rfl)) ?_ | refine RunE.seq ?_ | refine RunE.region ?_ | refine RunL.nil ?_)
  refine RunL.store Tryd.tOk rfl rfl rfl rfl rfl T5 rfl rfl fun w6 t6 => ?_
  have X6 : Ext w w6 := X5.write t6.ext (by intro i hi hlt; subst hi; omega)
  have P6 := P5.ext t6.ext (by omega)
  have T6 := t6.at_
  clear T5 P5 X5 t6
  repeat (first | refine RunL.pure Tryd.tOk rfl rfl rfl ?_ | refine RunL.val rfl rfl rfl (OpV.load1 Tryd.tOk rfl rfl rfl (Blk.cell P6 rfl)) ?_ | refine RunE.seq ?_ | refine RunE.region ?_ | refine RunL.nil ?_)
  exact RunE.retFn Tryd.func75 (.tmp rfl .nil) ⟨Bw, Bp, rfl, ⟨T6, P6⟩, X6⟩

/-- What a writer of a value promises. -/
def Writes (c : CV) (Bw Bp : Nat) (f : Value) : Prop := ∀ (cs : List Value) (w0 w : World) (v : Value) (pre : List UInt8), c.In w0 cs → WriterAt w0 Bw Bp → Ext w0 w → w.ownsRow w0.heap.size 5 1 v pre.length (bytesV pre) →
  pre.length + c.enc.length ≤ 1000000000 → FnV Tryd.prog f [v, .agg cs.toArray] w (fun r w' => w'.ownsRow w0.heap.size 5 1 r (pre ++ c.enc).length (bytesV (pre ++ c.enc)) ∧ Ext w0 w') fun _ _ => False

theorem write_int (n : Int) (Bw Bp : Nat) : Writes (.int n) Bw Bp (fnV 88) := by
  intro cs w0 w v pre h _ X O hlen
  simp only [CV.In] at h
  obtain ⟨hn, d, rfl⟩ := h
  simp only [CV.enc] at hlen
  refine Rets.v (fi := []) (all := [v, .agg #[.int .i64 1, .int .i64 n, .string ⟨#[]⟩, .slice d 0 0]]) ?_ rfl
  refine RetsX.of (nt := 12) Tryd.func88 (by kernel_rfl) rfl rfl (by simp) (by simp only [argEnv]; rfl) ?_
  repeat (first | refine RunE.seq ?_ | refine RunE.region ?_)
  refine RunL.box rfl rfl rfl fun B3 w1 a1 => ?_
  have Z1 : Blk w1 B3 [.int .i64 1, .int .i64 n, .string ⟨#[]⟩, .slice d 0 0] 57 := a1.at_
  have hB3 := a1.eq
  have z0 := X.size
  have z1 := a1.size
  have X1 := X.trans a1.ext
  have O1 := ownsRow_ext O a1.ext (fun _ _ h => h)
  have hob : ∀ k, v.ownBlock = some k → k < w.heap.size := fun k hk => (O.lt k hk).2
  clear a1
  repeat (first | refine RunL.pure Tryd.tOk rfl rfl rfl ?_ | refine RunE.seq ?_ | refine RunL.nil ?_)
  refine RunE.draw (fun k => v.ownBlock = some k) mix ?_
  intro w2 X2
  have O2 := ownsRow_ext O1 X2 (fun _ _ h => h)
  have Z2 := Z1.ext X2 id
  repeat (first | refine Asy.pure Tryd.tOk rfl rfl rfl ?_)
  refine Asy.pre0 (fun u w' => ∃ B, u = .slice (some ⟨B, 0, none⟩) 1 1 ∧ Blk w' B (bytesV [1]) 5) rfl rfl rfl rfl (fun u w' w'' _ e h => ?_) (fun w' _ => ?_) ?_
  · obtain ⟨B, h1, h2⟩ := h; exact ⟨B, h1, h2.ext e id⟩
  · refine OpE.mono (OpE.buildSl Tryd.tOk [.int .u8 1] rfl rfl rfl rfl rfl rfl (by simp [Value.cells])) ?_ fun _ _ h => h
    rintro _ w'' ⟨B, rfl, a⟩; exact ⟨a.ext, B, rfl, a.at_⟩
  refine Asy.wriP 0 (fun u w' => w'.ownsRow w0.heap.size 5 1 u (pre.length + 1) (bytesV pre ++ bytesV [1]) ∧ ∀ k, u.ownBlock = some k → k < w2.heap.size → v.ownBlock = some k) rfl rfl rfl rfl rfl rfl (fun u w' w'' _ e h => ⟨ownsRow_ext h.1 e (fun _ _ h => h), h.2⟩) (fun w' x e hx => ?_) ?_
  · obtain ⟨B, rfl, hB⟩ := hx
    have hz := X1.size
    have hz2 := X2.size
    have hz3 := e.size
    refine OpE.mono (OpE.append' Tryd.tOk rfl rfl rfl rfl rfl rfl (ownsRow_ext O2 e (fun _ _ h => h)) (.row hB.row rfl (Nat.le_refl 1)) rfl (by show _ * 1 ≤ _; omega) (by omega) (by omega)) ?_ fun _ _ h => h
    rintro u w'' ⟨h1, h2, h3⟩
    exact ⟨h2, h1, fun k hk hlt => h3 k hk (by omega)⟩
  repeat (first | refine Asy.pure Tryd.tOk rfl rfl rfl ?_)
  refine Asy.v rfl rfl rfl rfl (fun w' X' => OpV.load1 Tryd.tOk rfl rfl rfl (Blk.cell (Z2.ext X' (by intro hh; have := hob _ hh; omega)) rfl)) ?_
  refine Asy.val rfl rfl rfl rfl (fun _ _ => OpE.keep (OpE.call rfl (unsigned_ok n hn _))) ?_
  refine Asy.tailW (by kernel_rfl) ?_
  rintro w3 x E3 ⟨O3, N3⟩
  simp only [satsAll]
  have hl1 : (bytesV pre ++ bytesV [1]) = bytesV (pre ++ [1]) := by rw [bytesV_append]
  rw [hl1] at O3
  have hz := X1.size
  have hz2 := X2.size
  have hz3 := E3.size
  have Y3 : Ext w0 w3 := (X1.trans X2).write E3 (by intro i hi hlt; have := ownsRow_ge O hi; omega)
  refine RunL.call rfl rfl rfl (numeral_ok x (pre ++ [1]) (zig n) w0.heap.size w3 (by simpa using O3) (zig_lt n hn) (by simp; omega) (by omega)) ?_
  rintro r w4 ⟨O4, E4⟩
  have Y4 : Ext w0 w4 := Y3.write E4 (by intro i hi hlt; have := ownsRow_ge O3 hi; omega)
  repeat (first | refine RunL.pure Tryd.tOk rfl rfl rfl ?_ | refine RunL.nil ?_)
  refine RunE.retFn Tryd.func88 (.tmp rfl .nil) ⟨?_, Y4⟩
  simp only [CV.enc, oneOr]
  simpa using O4

theorem write_text (t : List UInt8) (Bw Bp : Nat) : Writes (.text t) Bw Bp (fnV 91) := by
  intro cs w0 w v pre h _ X O hlen
  simp only [CV.In] at h
  obtain ⟨hn, d, rfl⟩ := h
  simp only [CV.enc] at hlen
  have hst : (strOf t).data.toList = t := by simp [strOf]
  have hsz : (strOf t).size = t.length := rfl
  refine Rets.v (fi := []) (all := [v, .agg #[.int .i64 2, .int .i64 0, .string (strOf t), .slice d 0 0]]) ?_ rfl
  refine RetsX.of (nt := 16) Tryd.func91 (by kernel_rfl) rfl rfl (by simp) (by simp only [argEnv]; rfl) ?_
  repeat (first | refine RunE.seq ?_ | refine RunE.region ?_)
  refine RunL.box rfl rfl rfl fun B3 w1 a1 => ?_
  have Z1 : Blk w1 B3 [.int .i64 2, .int .i64 0, .string (strOf t), .slice d 0 0] 57 := a1.at_
  have hB3 := a1.eq
  have z0 := X.size
  have z1 := a1.size
  have X1 := X.trans a1.ext
  have O1 := ownsRow_ext O a1.ext (fun _ _ h => h)
  have hob : ∀ k, v.ownBlock = some k → k < w.heap.size := fun k hk => (O.lt k hk).2
  clear a1
  repeat (first | refine RunL.pure Tryd.tOk rfl rfl rfl ?_ | refine RunE.seq ?_ | refine RunL.nil ?_)
  refine RunE.draw (fun k => v.ownBlock = some k ∨ w1.heap.size ≤ k) mix ?_
  intro w2 X2
  have hz2 := X2.size
  have O2 := ownsRow_ext O1 X2 (fun _ _ h => h)
  have Z2 := Z1.ext X2 id
  have hS3 : ¬ (v.ownBlock = some B3 ∨ w1.heap.size ≤ B3) := by
    rintro (h | h)
    · have := hob _ h; omega
    · omega
  repeat (first | refine Asy.pure Tryd.tOk rfl rfl rfl ?_)
  refine Asy.pre0 (fun u w' => ∃ B, u = .slice (some ⟨B, 0, none⟩) 1 1 ∧ Blk w' B (bytesV [2]) 5) rfl rfl rfl rfl (fun u w' w'' _ e h => ?_) (fun w' _ => ?_) ?_
  · obtain ⟨B, h1, h2⟩ := h; exact ⟨B, h1, h2.ext e id⟩
  · refine OpE.mono (OpE.buildSl Tryd.tOk [.int .u8 2] rfl rfl rfl rfl rfl rfl (by simp [Value.cells])) ?_ fun _ _ h => h
    rintro _ w'' ⟨B, rfl, a⟩; exact ⟨a.ext, B, rfl, a.at_⟩
  refine Asy.wriP 0 (fun u w' => w'.ownsRow w0.heap.size 5 1 u (pre ++ [2]).length (bytesV (pre ++ [2])) ∧ ∀ k, u.ownBlock = some k → v.ownBlock = some k ∨ w1.heap.size ≤ k) rfl rfl rfl rfl rfl rfl (fun u w' w'' _ e h => ⟨ownsRow_ext h.1 e (fun _ _ h => h), h.2⟩) (fun w' x e hx => ?_) ?_
  · obtain ⟨B, rfl, hB⟩ := hx
    have hz := X1.size
    have hz3 := e.size
    refine OpE.mono (OpE.append' Tryd.tOk rfl rfl rfl rfl rfl rfl (ownsRow_ext O2 e (fun _ _ h => h)) (.row hB.row rfl (Nat.le_refl 1)) rfl (by show _ * 1 ≤ _; omega) (by omega) (by omega)) ?_ fun _ _ h => h
    rintro u w'' ⟨h1, h2, h3⟩
    refine ⟨h2.mono fun k _ hk => .inl hk, ?_, fun k hk => ?_⟩
    · rw [List.length_append, bytesV_append]; exact h1
    · by_cases hlt : k < w'.heap.size
      · exact .inl (h3 k hk hlt)
      · exact .inr (by omega)
  repeat (first | refine Asy.pure Tryd.tOk rfl rfl rfl ?_)
  refine Asy.v rfl rfl rfl rfl (fun w' X' => OpV.load1 Tryd.tOk rfl rfl rfl (Blk.cell (Z2.ext X' hS3) rfl)) ?_
  repeat (first | refine Asy.pureI Tryd.tOk rfl rfl rfl (by (first | exact u64_nat _ (by omega) | exact wr_i64 (by omega) (by omega) | exact wm_i64 (by omega) | exact wq_i64 (by omega) (by omega) (by omega) | rfl)) ?_)
  refine Asy.wri1 (fun u w' => w'.ownsRow w0.heap.size 5 1 u ((pre ++ [2]) ++ num (strOf t).size).length (bytesV ((pre ++ [2]) ++ num (strOf t).size))) rfl rfl rfl rfl rfl (fun u w' w'' _ e h => ownsRow_ext h e (fun _ _ h => h)) (fun w' x e hx => ?_) ?_
  · obtain ⟨O3, N3⟩ := hx
    have hz := X1.size
    have hz3 := e.size
    refine OpE.mono (OpE.call rfl (numeral_ok x (pre ++ [2]) (strOf t).size w0.heap.size w' O3 (by omega) (by simp; omega) (by omega))) ?_ fun _ _ h => h
    rintro u w'' ⟨h1, h2⟩
    exact ⟨h2.mono fun k _ hk => N3 k hk, h1⟩
  repeat (first | refine Asy.pure Tryd.tOk rfl rfl rfl ?_)
  refine Asy.v rfl rfl rfl rfl (fun w' X' => OpV.load1 Tryd.tOk rfl rfl rfl (Blk.cell (Z2.ext X' hS3) rfl)) ?_
  refine Asy.tailW (by kernel_rfl) ?_
  rintro w3 x E3 O3
  simp only [satsAll]
  have hz := X1.size
  have hz3 := E3.size
  have Y3 : Ext w0 w3 := (X1.trans X2).write E3 (by
    rintro i (hi | hi) hlt
    · have := ownsRow_ge O hi; omega
    · omega)
  have hnl := num_le (strOf t).size (by omega)
  refine RunL.ex rfl rfl rfl (OpE.appendStr Tryd.tOk (by kernel_rfl) rfl rfl rfl rfl rfl O3 (by simp; omega) (by omega)) ?_
  rintro r w4 ⟨O4, E4⟩
  have Y4 : Ext w0 w4 := Y3.write E4 (by intro i hi hlt; have := ownsRow_ge O3 hi; omega)
  repeat (first | refine RunL.pure Tryd.tOk rfl rfl rfl ?_ | refine RunL.nil ?_)
  refine RunE.retFn Tryd.func91 (.tmp rfl .nil) ⟨?_, Y4⟩
  simp only [CV.enc, oneOr]
  rw [← bytesV_append, hst, hsz] at O4
  have e : pre ++ [2] ++ num t.length ++ t = pre ++ 2 :: (num t.length ++ t) := by simp
  have e2 : (pre ++ [2] ++ num t.length).length + t.length = (pre ++ [2] ++ num t.length ++ t).length := by simp only [List.length_append]
  rw [e2, e] at O4
  exact O4

def kind : CV → Nat
  | .int _ => 1
  | .text _ => 2
  | .list _ => 3
def writerFn (Bp : Nat) : CV → Value
  | .int _ => fnV 88
  | .text _ => fnV 91
  | .list _ => fnC 92 [.pointer (some ⟨Bp, 0, none⟩)]
theorem kind_lt (c : CV) : kind c < 4 := by cases c <;> simp [kind]
theorem kind_cell {w : World} {c : CV} {r : List Value} (h : c.In w r) : r[0]? = some (.int .i64 (kind c : Int)) := by
  cases c <;> simp only [CV.In] at h
  · obtain ⟨_, _, rfl⟩ := h; rfl
  · obtain ⟨_, _, rfl⟩ := h; rfl
  · obtain ⟨_, _, _, rfl, _⟩ := h; rfl
theorem kind_fn (c : CV) (Bp : Nat) : [.nilFunc, fnV 88, fnV 91, fnC 92 [.pointer (some ⟨Bp, 0, none⟩)]][kind c]? = some (writerFn Bp c) := by cases c <;> rfl

set_option maxHeartbeats 1000000 in
theorem write_list (l : List CV) (Bw Bp : Nat) (ih : ∀ c ∈ l, Writes c Bw Bp (writerFn Bp c)) : Writes (.list l) Bw Bp (fnC 92 [.pointer (some ⟨Bp, 0, none⟩)]) := by
  intro cs w0 w v pre h W0 X O hlen
  simp only [CV.In] at h
  obtain ⟨hn, sv, rows, rfl, hsl, hin⟩ := h
  obtain ⟨hrl, hget⟩ := hin.get
  simp only [CV.enc, List.length_cons, List.length_append] at hlen
  refine RetsX.v (fi := []) (args := [v, .agg #[.int .i64 3, .int .i64 0, .string ⟨#[]⟩, sv]]) (ca := [.pointer (some ⟨Bp, 0, none⟩)]) ?_
  show RetsX Tryd.prog 92 [v, .agg #[.int .i64 3, .int .i64 0, .string ⟨#[]⟩, sv], .pointer (some ⟨Bp, 0, none⟩)] w _ _
  refine RetsX.of (nt := 35) Tryd.func92 (by kernel_rfl) rfl rfl (by simp) (by simp only [argEnv]; rfl) ?_
  repeat (first | refine RunE.seq ?_ | refine RunE.region ?_)
  refine RunL.box rfl rfl rfl fun B4 w1 a1 => ?_
  have Z1 : Blk w1 B4 [.int .i64 3, .int .i64 0, .string ⟨#[]⟩, sv] 57 := a1.at_
  have hB4 := a1.eq
  have z0 := X.size
  have z1 := a1.size
  have X1 := X.trans a1.ext
  have O1 := ownsRow_ext O a1.ext (fun _ _ h => h)
  have hob : ∀ k, v.ownBlock = some k → k < w.heap.size := fun k hk => (O.lt k hk).2
  clear a1
  repeat (first | refine RunL.pure Tryd.tOk rfl rfl rfl ?_ | refine RunE.seq ?_ | refine RunL.nil ?_)
  refine RunE.draw (fun k => v.ownBlock = some k) mix ?_
  intro w2 X2
  have O2 := ownsRow_ext O1 X2 (fun _ _ h => h)
  have Z2 := Z1.ext X2 id
  have hz2 := X2.size
  repeat (first | refine Asy.pure Tryd.tOk rfl rfl rfl ?_)
  refine Asy.pre0 (fun u w' => ∃ B, u = .slice (some ⟨B, 0, none⟩) 1 1 ∧ Blk w' B (bytesV [3]) 5) rfl rfl rfl rfl (fun u w' w'' _ e h => ?_) (fun w' _ => ?_) ?_
  · obtain ⟨B, h1, h2⟩ := h; exact ⟨B, h1, h2.ext e id⟩
  · refine OpE.mono (OpE.buildSl Tryd.tOk [.int .u8 3] rfl rfl rfl rfl rfl rfl (by simp [Value.cells])) ?_ fun _ _ h => h
    rintro _ w'' ⟨B, rfl, a⟩; exact ⟨a.ext, B, rfl, a.at_⟩
  refine Asy.wriP 0 (fun u w' => w'.ownsRow w0.heap.size 5 1 u (pre ++ [3]).length (bytesV (pre ++ [3])) ∧ ∀ k, u.ownBlock = some k → v.ownBlock = some k ∨ w1.heap.size ≤ k) rfl rfl rfl rfl rfl rfl (fun u w' w'' _ e h => ⟨ownsRow_ext h.1 e (fun _ _ h => h), h.2⟩) (fun w' x e hx => ?_) ?_
  · obtain ⟨B, rfl, hB⟩ := hx
    have hz := X1.size
    have hz3 := e.size
    refine OpE.mono (OpE.append' Tryd.tOk rfl rfl rfl rfl rfl rfl (ownsRow_ext O2 e (fun _ _ h => h)) (.row hB.row rfl (Nat.le_refl 1)) rfl (by show _ * 1 ≤ _; omega) (by omega) (by omega)) ?_ fun _ _ h => h
    rintro u w'' ⟨h1, h2, h3⟩
    refine ⟨h2, ?_, fun k hk => ?_⟩
    · rw [List.length_append, bytesV_append]; exact h1
    · by_cases hlt : k < w'.heap.size
      · exact .inl (h3 k hk hlt)
      · exact .inr (by omega)
  repeat (first | refine Asy.pure Tryd.tOk rfl rfl rfl ?_)
  refine Asy.v rfl rfl rfl rfl (fun w' X' => OpV.load1 Tryd.tOk rfl rfl rfl (Blk.cell (Z2.ext X' (by intro hh; have := hob _ hh; omega)) rfl)) ?_
  refine Asy.v rfl rfl rfl rfl (fun w' X' => OpV.lenSl Tryd.tOk rfl rfl hsl) ?_
  repeat (first | refine Asy.pureI Tryd.tOk rfl rfl rfl (by (first | exact u64_nat _ (by omega) | exact wr_i64 (by omega) (by omega) | exact wm_i64 (by omega) | exact wq_i64 (by omega) (by omega) (by omega) | rfl)) ?_)
  refine Asy.tailW (by kernel_rfl) ?_
  rintro w3 x E3 ⟨O3, N3⟩
  simp only [satsAll]
  have hz := X1.size
  have hz3 := E3.size
  have Y3 : Ext w0 w3 := (X1.trans X2).write E3 (by intro i hi hlt; have := ownsRow_ge O hi; omega)
  have Z3 := Z2.ext E3 (by intro hh; have := hob _ hh; omega)
  refine RunL.call rfl rfl rfl (numeral_ok x (pre ++ [3]) l.length w0.heap.size w3 O3 (by omega) (by simp; omega) (by omega)) ?_
  rintro r w4 ⟨O4, E4⟩
  have Y4 : Ext w0 w4 := Y3.write E4 (by intro i hi hlt; have := ownsRow_ge O3 hi; omega)
  have Z4 := Z3.ext E4 (by
    intro hh
    rcases N3 _ hh with h | h
    · have := hob _ h; omega
    · omega)
  repeat (first | refine RunL.pure Tryd.tOk rfl rfl rfl ?_ | refine RunL.val rfl rfl rfl (OpV.load1 Tryd.tOk rfl rfl rfl (Blk.cell Z4 rfl)) ?_ | refine RunE.seq ?_ | refine RunE.region ?_ | refine RunL.nil ?_)
  refine RunL.val rfl rfl rfl (OpV.lenSl Tryd.tOk rfl rfl hsl) ?_
  repeat (first | refine RunL.pureI Tryd.tOk rfl rfl rfl (by (first | exact wr_i64 (by omega) (by omega) | exact wm_i64 (by omega) | exact wq_i64 (by omega) (by omega) (by omega) | rfl)) ?_ | refine RunL.nil ?_ | refine RunE.block ?_)
  have O4' : w4.ownsRow w0.heap.size 5 1 r (pre ++ 3 :: (num l.length ++ encs (l.take 0))).length (bytesV (pre ++ 3 :: (num l.length ++ encs (l.take 0)))) := by simpa [encs] using O4
  refine RunE.loop (ι := Nat × Value) (fun x => [(0, x.2), (2, .pointer (some ⟨Bp, 0, none⟩)), (17, sv), (18, .int .i64 (l.length : Int)), (19, .int .i64 (x.1 : Int))])
    (fun x w' => x.1 ≤ l.length ∧ Ext w0 w' ∧ w'.ownsRow w0.heap.size 5 1 x.2 (pre ++ 3 :: (num l.length ++ encs (l.take x.1))).length (bytesV (pre ++ 3 :: (num l.length ++ encs (l.take x.1))))) (fun x => l.length - x.1) (0, r) (by repeat (first | exact Sub.nil _ | refine Sub.cons rfl ?_)) ⟨by simp, Y4, O4'⟩ ?_
  clear O4 O4' Y4 Z4 E4 Y3 Z3 O3 E3 N3
  rintro ⟨i, u⟩ w5 ⟨hi, X5, O5⟩ again
  simp only at hi O5 again ⊢
  repeat (first | refine RunL.pure Tryd.tOk rfl rfl rfl ?_ | refine RunE.seq ?_ | refine RunE.region ?_ | refine RunL.nil ?_)
  refine RunE.cond rfl (fun hlt => ?_) (fun hlt => ?_) <;> (first | replace hlt := of_decide_eq_true hlt | replace hlt := of_decide_eq_false hlt | replace hlt := beq_iff_eq.1 hlt | replace hlt := beq_eq_false_iff_ne.1 hlt | replace hlt := bne_iff_ne.1 hlt | replace hlt := bne_eq_false_iff_eq.1 hlt | skip)
  · have hi' : i < l.length := by omega
    obtain ⟨c, hc⟩ : ∃ c, l[i]? = some c := ⟨_, List.getElem?_eq_getElem hi'⟩
    obtain ⟨q, hq, hcq⟩ := hget i c hc
    obtain ⟨b, o, cap, rfl, hrow, -, -⟩ := hsl.held (by omega)
    have hq4 := In.length hcq
    have hle := encs_le hc
    repeat (first | refine RunE.seq ?_ | refine RunE.region ?_ | refine RunE.block ?_ | refine RunE.skip ?_)
    refine RunL.val rfl rfl rfl (OpV.indexS Tryd.tOk i rfl rfl rfl rfl hi') ?_
    refine RunL.val rfl rfl rfl (OpV.loadN (cs := q) Tryd.tOk rfl rfl rfl hq4 ((hin.row hq hrow).extE X5)) ?_
    refine RunL.alloc Tryd.tOk rfl rfl rfl fun B7 w6 a6 => ?_
    refine RunL.store (v := .agg q.toArray) Tryd.tOk rfl rfl rfl rfl (by simpa [Value.cells] using hq4) (cs := [.int .i64 0, .int .i64 0, .string ⟨#[]⟩, .slice none 0 0]) a6.at_ (by simp [Value.cells, hq4]) (cells_plain hcq) fun w7 t7 => ?_
    have hB7 := a6.eq
    have X7 : Ext w0 w7 := (X5.trans a6.ext).write t7.ext (by intro i hi hlt; subst hi; have := X5.size; omega)
    have O7 := ownsRow_ext (ownsRow_ext O5 a6.ext (fun _ _ h => h)) t7.ext (by intro k hk e; have := (O5.lt k hk).2; omega)
    have Z7 : Blk w7 B7 q 57 := by
      have := t7.at_
      rw [show (Value.agg q.toArray).cells.toList = q from rfl, setAt_all _ _ (by simpa using hq4)] at this
      exact this
    clear a6 t7
    repeat (first | refine RunL.nil ?_)
    refine RunE.draw (fun _ => False) mix ?_
    intro w8 X8
    have X9 := X7.trans X8
    have W8 := W0.ext X9 id id
    have Z8 := Z7.ext X8 id
    refine Asy.v rfl rfl rfl rfl (fun _ X' => OpV.load1 Tryd.tOk rfl rfl rfl (Blk.cell (W8.ptr.ext X' id) rfl)) ?_
    repeat (first | refine Asy.pure Tryd.tOk rfl rfl rfl ?_)
    refine Asy.v rfl rfl rfl rfl (fun _ X' => OpV.load1 (v := .int .i64 (kind c : Int)) Tryd.tOk rfl rfl rfl (Blk.cell (Z8.ext X' id) (kind_cell hcq))) ?_
    repeat (first | refine Asy.pure Tryd.tOk rfl rfl rfl ?_)
    refine Asy.v rfl rfl rfl rfl (fun _ _ => OpV.indexA1 Tryd.tOk (kind c) rfl rfl rfl rfl (kind_lt c)) ?_
    repeat (first | refine Asy.pure Tryd.tOk rfl rfl rfl ?_)
    refine Asy.v rfl rfl rfl rfl (fun _ X' => OpV.load1 (v := writerFn Bp c) Tryd.tOk rfl rfl rfl (Blk.cell (W8.tab.ext X' id) (by rw [Nat.zero_add]; exact kind_fn c Bp))) ?_
    repeat (first | refine Asy.pure Tryd.tOk rfl rfl rfl ?_)
    refine Asy.v rfl rfl rfl rfl (fun _ X' => OpV.loadN (cs := q) Tryd.tOk rfl rfl rfl hq4 (Z8.ext X' id).row) ?_
    refine Asy.tail (by kernel_rfl) ?_
    intro w9 X10
    simp only [satsAll]
    refine RunL.callV (fv := writerFn Bp c) rfl rfl rfl rfl (ih c (List.mem_of_getElem? hc) q w0 w9 u _ hcq W0 (X9.trans X10) (ownsRow_ext O7 (X8.trans X10) (fun _ _ h => h)) (by simp; omega)) (fun _ _ _ h => h.elim) ?_
    rintro u2 w10 ⟨O10, X11⟩
    repeat (first | refine RunL.pureI Tryd.tOk rfl rfl rfl (by (first | exact wr_i64 (by omega) (by omega) | exact wm_i64 (by omega) | exact wq_i64 (by omega) (by omega) (by omega) | rfl)) ?_ | refine RunL.pure Tryd.tOk rfl rfl rfl ?_ | refine RunE.region ?_ | refine RunL.nil ?_ | refine RunE.inBlock ?_)
    refine RunE.weaken (by repeat (first | exact Sub.nil _ | refine Sub.cons rfl ?_)) (again (i + 1, u2) _ (by simp only; omega) ⟨by simp only; omega, X11, ?_⟩)
    simp only
    have e : pre ++ 3 :: (num l.length ++ encs (l.take (i + 1))) = (pre ++ 3 :: (num l.length ++ encs (l.take i))) ++ c.enc := by rw [encs_take hc]; simp
    rw [e]; exact O10
  · have hil : i = l.length := by omega
    subst hil
    repeat (first | refine RunL.pure Tryd.tOk rfl rfl rfl ?_ | refine RunE.seq ?_ | refine RunE.region ?_ | refine RunL.nil ?_ | refine RunE.exit rfl ?_)
    refine RunE.retFn Tryd.func92 (.tmp rfl .nil) ⟨?_, X5⟩
    simp only [oneOr, CV.enc]
    rw [List.take_length] at O5
    exact O5

theorem write_ok (Bw Bp : Nat) : ∀ c : CV, Writes c Bw Bp (writerFn Bp c)
  | .int n => write_int n Bw Bp
  | .text t => write_text t Bw Bp
  | .list l => write_list l Bw Bp fun c _ => write_ok Bw Bp c
end Go.Sg
end
section
/- The program's codec: Check, Encode. -/
namespace Go.Sg
open Go.Rn Go.Sha Go.Cod Go.Proofs
attribute [local irreducible] Go.Rn.RunL Go.Rn.RunE Go.Rn.Asy Go.Rn.OpV Go.Rn.OpE Go.Rn.ExecE

theorem check_ok (c : CV) (cs : List Value) (w : World) (h : c.In w cs) (hd : c.depth ≤ 16) : Rets Tryd.prog 74 [.agg cs.toArray] w fun v w' => v = .int .i64 0 ∧ Ext w w' := by
  have h4 := In.length h
  refine RetsX.of (nt := 16) Tryd.func74 (by kernel_rfl) rfl rfl (by simp) (by simp only [argEnv]; rfl) ?_
  repeat (first | refine RunE.seq ?_ | refine RunE.region ?_)
  refine RunL.box rfl rfl rfl fun B1 w1 a1 => ?_
  have Z1 : Blk w1 B1 cs 57 := a1.at_
  repeat (first | refine RunL.pureI Tryd.tOk rfl rfl rfl (by (first | exact wr_i64 (by omega) (by omega) | exact wm_i64 (by omega) | exact wq_i64 (by omega) (by omega) (by omega) | rfl)) ?_ | refine RunE.seq ?_ | refine RunE.region ?_ | refine RunL.nil ?_)
  refine RunL.val rfl rfl rfl (OpV.loadN (cs := cs) Tryd.tOk rfl rfl rfl h4 Z1.row) ?_
  refine RunL.call rfl rfl rfl (formed_ok c cs w1 (In.ext a1.ext c cs h) (by omega)) ?_
  rintro _ w2 ⟨rfl, X2⟩
  repeat (first | refine RunL.pureI Tryd.tOk rfl rfl rfl (by (first | exact wr_i64 (by omega) (by omega) | exact wm_i64 (by omega) | exact wq_i64 (by omega) (by omega) (by omega) | rfl)) ?_ | refine RunL.pure Tryd.tOk rfl rfl rfl ?_ | refine RunE.seq ?_ | refine RunE.region ?_ | refine RunL.nil ?_ | refine RunE.block ?_)
  refine RunE.condF rfl rfl ?_
  repeat (first | refine RunL.pureI Tryd.tOk rfl rfl rfl (by (first | exact wr_i64 (by omega) (by omega) | exact wm_i64 (by omega) | exact wq_i64 (by omega) (by omega) (by omega) | rfl)) ?_ | refine RunL.pure Tryd.tOk rfl rfl rfl ?_ | refine RunE.seq ?_ | refine RunE.region ?_ | refine RunL.nil ?_)
  refine RunE.condF rfl (decide_eq_false (by omega)) ?_
  repeat (first | refine RunL.pureI Tryd.tOk rfl rfl rfl (by (first | exact wr_i64 (by omega) (by omega) | exact wm_i64 (by omega) | exact wq_i64 (by omega) (by omega) (by omega) | rfl)) ?_ | refine RunE.seq ?_ | refine RunE.region ?_ | refine RunL.nil ?_ | refine RunE.inBlock ?_ | refine RunE.skip ?_)
  exact RunE.retFn Tryd.func74 (.tmp rfl .nil) ⟨rfl, a1.ext.trans X2⟩

theorem encode_ok (c : CV) (cs : List Value) (w : World) (h : c.In w cs) (hd : c.depth ≤ 16) (hl : c.enc.length ≤ 1000000000) :
    Rets Tryd.prog 55 [.agg cs.toArray] w fun v w' => ∃ r, v = .tuple #[r, .int .i64 0] ∧ w'.ownsRow w.heap.size 5 1 r c.enc.length (bytesV c.enc) ∧ Ext w w' := by
  have h4 := In.length h
  refine RetsX.of (nt := 19) Tryd.func55 (by kernel_rfl) rfl rfl (by simp) (by simp only [argEnv]; rfl) ?_
  repeat (first | refine RunE.seq ?_ | refine RunE.region ?_)
  refine RunL.box rfl rfl rfl fun B1 w1 a1 => ?_
  have Z1 : Blk w1 B1 cs 57 := a1.at_
  have h1 := In.ext a1.ext c cs h
  repeat (first | refine RunL.pureI Tryd.tOk rfl rfl rfl (by (first | exact wr_i64 (by omega) (by omega) | exact wm_i64 (by omega) | exact wq_i64 (by omega) (by omega) (by omega) | rfl)) ?_ | refine RunL.pure Tryd.tOk rfl rfl rfl ?_ | refine RunE.seq ?_ | refine RunE.region ?_ | refine RunL.nil ?_)
  refine RunL.val rfl rfl rfl (OpV.loadN (cs := cs) Tryd.tOk rfl rfl rfl h4 Z1.row) ?_
  refine RunL.call rfl rfl rfl (check_ok c cs w1 h1 hd) ?_
  rintro _ w2 ⟨rfl, X2⟩
  repeat (first | refine RunL.pureI Tryd.tOk rfl rfl rfl (by (first | exact wr_i64 (by omega) (by omega) | exact wm_i64 (by omega) | exact wq_i64 (by omega) (by omega) (by omega) | rfl)) ?_ | refine RunL.pure Tryd.tOk rfl rfl rfl ?_ | refine RunE.seq ?_ | refine RunE.region ?_ | refine RunL.nil ?_)
  refine RunE.condF rfl rfl ?_
  repeat (first | refine RunE.seq ?_ | refine RunE.skip ?_)
  refine RunE.draw (fun _ => False) mix ?_
  intro w3 X3
  have Y3 := X2.trans X3
  have Z3 := Z1.ext Y3 id
  refine Asy.sat0 (fun u w' => ∃ Bw Bp, u = .pointer (some ⟨Bw, 0, none⟩) ∧ WriterAt w' Bw Bp) rfl rfl rfl rfl (fun u w' w'' _ e h => ?_) (fun w' _ => ?_) ?_
  · obtain ⟨Bw, Bp, h1, h2⟩ := h; exact ⟨Bw, Bp, h1, h2.ext e id id⟩
  · refine OpE.mono (OpE.call rfl (newWriter_ok w')) ?_ fun _ _ h => h
    rintro u w'' ⟨Bw, Bp, h1, h2, h3⟩; exact ⟨h3, Bw, Bp, h1, h2⟩
  repeat (first | refine Asy.pure Tryd.tOk rfl rfl rfl ?_)
  refine Asy.v rfl rfl rfl rfl (fun _ X' => OpV.load1 (v := .int .i64 (kind c : Int)) Tryd.tOk rfl rfl rfl (Blk.cell (Z3.ext X' id) (kind_cell h))) ?_
  refine Asy.sat1 0 (fun u w' => ∃ Bw Bp, u = .pointer (some ⟨Bw, 0, none⟩) ∧ WriterAt w' Bw Bp) rfl rfl rfl rfl rfl rfl (fun u w' w'' _ e h => ?_) (fun w' x _ hx => ?_) ?_
  · obtain ⟨Bw, Bp, h1, h2⟩ := h; exact ⟨Bw, Bp, h1, h2.ext e id id⟩
  · obtain ⟨Bw, Bp, rfl, h2⟩ := hx
    refine OpE.mono (OpV.e (evalOp_v Tryd.tOk rfl)) ?_ fun _ _ h => h
    rintro u w'' ⟨rfl, rfl⟩; exact ⟨.refl _ _, Bw, Bp, rfl, h2⟩
  refine Asy.sat1 0 (fun u w' => ∃ Bw Bp, u = .pointer (some ⟨Bw, kind c, none⟩) ∧ WriterAt w' Bw Bp) rfl rfl rfl rfl rfl rfl (fun u w' w'' _ e h => ?_) (fun w' x _ hx => ?_) ?_
  · obtain ⟨Bw, Bp, h1, h2⟩ := h; exact ⟨Bw, Bp, h1, h2.ext e id id⟩
  · obtain ⟨Bw, Bp, rfl, h2⟩ := hx
    refine OpE.mono (OpV.e (OpV.indexA1 Tryd.tOk (kind c) rfl rfl rfl rfl (kind_lt c))) ?_ fun _ _ h => h
    rintro u w'' ⟨rfl, rfl⟩; exact ⟨.refl _ _, Bw, Bp, by rw [Nat.zero_add], h2⟩
  refine Asy.sat1 0 (fun u w' => ∃ Bw Bp, u = .pointer (some ⟨Bw, kind c, none⟩) ∧ WriterAt w' Bw Bp) rfl rfl rfl rfl rfl rfl (fun u w' w'' _ e h => ?_) (fun w' x _ hx => ?_) ?_
  · obtain ⟨Bw, Bp, h1, h2⟩ := h; exact ⟨Bw, Bp, h1, h2.ext e id id⟩
  · obtain ⟨Bw, Bp, rfl, h2⟩ := hx
    refine OpE.mono (OpV.e (evalOp_v Tryd.tOk rfl)) ?_ fun _ _ h => h
    rintro u w'' ⟨rfl, rfl⟩; exact ⟨.refl _ _, Bw, Bp, rfl, h2⟩
  refine Asy.sat1 0 (fun u w' => ∃ Bw Bp, u = writerFn Bp c ∧ WriterAt w' Bw Bp) rfl rfl rfl rfl rfl rfl (fun u w' w'' _ e h => ?_) (fun w' x _ hx => ?_) ?_
  · obtain ⟨Bw, Bp, h1, h2⟩ := h; exact ⟨Bw, Bp, h1, h2.ext e id id⟩
  · obtain ⟨Bw, Bp, rfl, h2⟩ := hx
    refine OpE.mono (OpV.e (OpV.load1 (v := writerFn Bp c) Tryd.tOk rfl rfl rfl (Blk.cell h2.tab (kind_fn c Bp)))) ?_ fun _ _ h => h
    rintro u w'' ⟨rfl, rfl⟩; exact ⟨.refl _ _, Bw, Bp, rfl, h2⟩
  refine Asy.v rfl rfl rfl rfl (fun _ X' => OpV.loadN (cs := cs) Tryd.tOk rfl rfl rfl h4 (Z3.ext X' id).row) ?_
  refine Asy.tail (by kernel_rfl) ?_
  intro w4 X4
  simp only [satsAll]
  rintro x ⟨Bw, Bp, rfl, W4⟩ _ _ _ _ _ _ _ _
  have Y4 := (a1.ext.trans Y3).trans X4
  refine RunL.callV (fv := writerFn Bp c) rfl rfl rfl rfl (write_ok Bw Bp c cs w4 w4 (.slice none 0 0) [] (In.ext Y4 c cs h) W4 (.refl _ _) (World.ownsRow_nil _ _ _ _) (by simpa using hl)) (fun _ _ _ h => h.elim) ?_
  rintro r w5 ⟨O5, X5⟩
  repeat (first | refine RunL.pureI Tryd.tOk rfl rfl rfl (by (first | exact wr_i64 (by omega) (by omega) | exact wm_i64 (by omega) | exact wq_i64 (by omega) (by omega) (by omega) | rfl)) ?_ | refine RunL.pure Tryd.tOk rfl rfl rfl ?_ | refine RunL.nil ?_)
  refine RunE.retFn Tryd.func55 (.tmp rfl (.tmp rfl .nil)) ⟨r, rfl, ?_, Y4.trans X5⟩
  rw [List.nil_append] at O5
  exact ownsRow_base O5 Y4.size
end Go.Sg
end
