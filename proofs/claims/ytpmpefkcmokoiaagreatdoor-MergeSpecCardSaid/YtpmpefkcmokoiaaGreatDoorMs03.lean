/- Parts of this project that the claims share: Cod1, Bits, Sha1, ShaS, Open, CodS, Cod2, Cod3, Cod4, Cod5, RCod1, RCod2, RCod3. -/
import Derived.Test.YtpmpefkcmokoiaaGreatDoorMs02
import Derived.Lib.AppendStr
import Derived.ChangeArms
import Derived.Deep.Slices
set_option linter.unusedSimpArgs false
set_option linter.unusedVariables false
set_option linter.unusedSectionVars false
section
/- The codec's numbers and values. -/
set_option maxRecDepth 4000
namespace Go.Rn
open Go.RowKit Go.Lib
variable {P : Program} {w : World} {env : Env} {dst : Option Tmp} {ty : TypeId} {pos : String} {after : Array Edge} {guard : Option (Nat × Bool)}
/-- append(v, s...) of a string's bytes. -/
theorem OpE.appendStr {T : Tab} (hT : T.Ok P) {t u e : TypeId} {ag : Bool} {s bb s' bb' s2 : Nat} {z z' : List Value} {a u1 a' u' a2 u2 : Bool} {x y : Operand} {v : Value} {n base : Nat} {xs : List Value} {str : ByteArray} (hz : (P.info? e).bind (·.zero) = some (.int .u8 0))
  (ht : T.get t = some ⟨.slc 1 ag e, s, bb, z, a, u1⟩) (hu : T.get u = some ⟨.str, s', bb', z', a', u'⟩) (he : T.get e = some ⟨.int .u8, s2, 1, [.int .u8 0], a2, u2⟩)
  (hx : evO env x = some v) (hy : evO env y = some (.string str)) (hv : w.ownsRow base e 1 v n xs) (hb : n + str.size ≤ 140737488355328) (hbase : base ≤ w.heap.size) :
  OpE P env w ⟨dst, .call ⟨.builtin .append, #[x, y], #[t, u]⟩, ty, pos, after, guard⟩
   (fun v' w' => w'.ownsRow base e 1 v' (n + str.size) (xs ++ bytesV str.data.toList) ∧ ExtB (fun k => v.ownBlock = some k) w w') fun _ _ => False := by
 obtain ⟨hut, hc⟩ := TD.of_slc (TI.tdof (hT.get _ _ ht)).symm
 have hus := TD.of_str (TI.tdof (hT.get _ _ hu)).symm
 have hue := TD.of_int (TI.tdof (hT.get _ _ he)).symm
 obtain ⟨j, dd, zv, hj, hd, hzv, h1, h2, h3, h4, h5, _⟩ := TI.inv (hT.get _ _ he)
 obtain ⟨ii, d', hii, hs', _, _⟩ := cellsAgg_inv hc
 rw [hii] at hj; cases hj
 have hz : j.zero = some (.int .u8 0) := by rw [hii] at hz; exact hz
 obtain ⟨v', w', hrun, hown, hgr, -⟩ := run_append_own_string (P := P) (w := w) base t u ty e j hut hus hii hz hs' h2.symm v n xs hv str (by simp only [maxLen]; omega) hb hbase
 exact .of_run (w' := w') (v := v') ⟨hown, .of_grown hgr (run_drawn _ hrun)⟩ fun ρ hρ => ⟨_, by simp only [execOp, resolve, List.map_toArray, List.map_cons, List.map_nil, hρ _ _ hx, hρ _ _ hy] <;> rfl, hrun⟩

/-- x.(T), ok: it is one. -/
theorem OpV.assertT {t u : TypeId} {x : Operand} {v : Value} {d : TypeDesc} (hx : evO env x = some (.iface u v)) (hu : P.underlying u = some d) (hd : isIfaceD d = false) :
  OpV P env w ⟨dst, .typeAssert x t u true, ty, pos, after, guard⟩ (.tuple #[v, .bool true]) := .of_run fun ρ hρ => by
 refine ⟨_, by simp only [execOp, hρ _ _ hx]; rfl, ?_⟩
 unfold Instr.typeAssert
 rw [run_bind _ _ (run_underlying hu)]
 cases d <;> first | (simp [isIfaceD] at hd; done) | simp [Pure.pure, Sem.run]
/-- x.(T), ok: it is none. -/
theorem OpV.assertF {t u u' : TypeId} {x : Operand} {v zv : Value} {d : TypeDesc} (hx : evO env x = some (.iface u' v)) (hne : (Nat.beq u' u) = false) (hu : P.underlying u = some d) (hd : isIfaceD d = false)
  (hz : (P.info? u).bind (·.zero) = some zv) :
  OpV P env w ⟨dst, .typeAssert x t u true, ty, pos, after, guard⟩ (.tuple #[zv, .bool false]) := .of_run fun ρ hρ => by
 refine ⟨_, by simp only [execOp, hρ _ _ hx]; rfl, ?_⟩
 obtain ⟨i, hi, hiz⟩ := Option.bind_eq_some_iff.1 hz
 have hne' : ¬ u' = u := fun e => by subst e; simp at hne
 have hzr : (zeroValue u).run P w = .ok zv w := by unfold zeroValue; rw [run_bind _ _ (run_typeInfo hi), hiz]; rfl
 unfold Instr.typeAssert
 rw [run_bind _ _ (run_underlying hu)]
 cases d <;> first | (simp [isIfaceD] at hd; done) | (simp only [hne', if_false, if_true]; rw [run_bind _ _ hzr]; rfl)
end Go.Rn
end
section
/- Numbers of 32 bits as bit vectors. -/
set_option maxRecDepth 4000
namespace Go.Rn

theorem u32_bits : IntKind.u32.bits = 32 := rfl
theorem u32_wrap_nat (n : Nat) (h : n < 4294967296) : IntKind.u32.wrap (n : Int) = (n : Int) := wr_u32 (by omega) (by omega)
theorem bv_of (x : BitVec 32) : BitVec.ofInt IntKind.u32.bits (x.toNat : Int) = x := by
 show BitVec.ofInt 32 ((x.toNat : Nat) : Int) = x
 rw [BitVec.ofInt_natCast, BitVec.ofNat_toNat, BitVec.setWidth_eq]
theorem u32_xor (x y : BitVec 32) : IntKind.u32.wrap ((BitVec.ofInt IntKind.u32.bits (x.toNat : Int) ^^^ BitVec.ofInt IntKind.u32.bits (y.toNat : Int)).toNat : Int) = ((x ^^^ y).toNat : Int) := by
 rw [bv_of, bv_of]; exact u32_wrap_nat _ (BitVec.isLt (x ^^^ y))
theorem u32_and (x y : BitVec 32) : IntKind.u32.wrap ((BitVec.ofInt IntKind.u32.bits (x.toNat : Int) &&& BitVec.ofInt IntKind.u32.bits (y.toNat : Int)).toNat : Int) = ((x &&& y).toNat : Int) := by
 rw [bv_of, bv_of]; exact u32_wrap_nat _ (BitVec.isLt (x &&& y))
theorem u32_or (x y : BitVec 32) : IntKind.u32.wrap ((BitVec.ofInt IntKind.u32.bits (x.toNat : Int) ||| BitVec.ofInt IntKind.u32.bits (y.toNat : Int)).toNat : Int) = ((x ||| y).toNat : Int) := by
 rw [bv_of, bv_of]; exact u32_wrap_nat _ (BitVec.isLt (x ||| y))
theorem u32_add (x y : BitVec 32) : IntKind.u32.wrap ((x.toNat : Int) + (y.toNat : Int)) = ((x + y).toNat : Int) := by
 rw [wrap_u32, BitVec.toNat_add]; omega
theorem u32_shl (x : BitVec 32) (n : Nat) (h : n ≤ 32) : IntKind.u32.wrap ((x.toNat : Int) * 2 ^ (min n IntKind.u32.bits)) = ((x <<< n).toNat : Int) := by
 rw [wrap_u32, BitVec.toNat_shiftLeft, Nat.shiftLeft_eq, u32_bits, Nat.min_eq_left h]
 have : (x.toNat : Int) * 2 ^ n = ((x.toNat * 2 ^ n : Nat) : Int) := by simp
 rw [this]; omega
theorem u32_shr (x : BitVec 32) (n : Nat) (h : n ≤ 32) : ((x.toNat : Int).fdiv (2 ^ (min n IntKind.u32.bits))) = ((x >>> n).toNat : Int) := by
 rw [BitVec.toNat_ushiftRight, Nat.shiftRight_eq_div_pow, u32_bits, Nat.min_eq_left h]
 rw [Int.fdiv_eq_ediv_of_nonneg _ (by exact Int.pow_nonneg (by omega))]
 simp
theorem u32_of_u8 (b : UInt8) : IntKind.u32.wrap ((b.toNat : Nat) : Int) = ((BitVec.ofNat 32 b.toNat).toNat : Int) := by
 have := b.toNat_lt
 rw [u32_wrap_nat _ (by omega), BitVec.toNat_ofNat]
 congr 1
 rw [Nat.mod_eq_of_lt (by omega)]

/-- A rotation to the right. -/
def rotr (x : BitVec 32) (n : Nat) : BitVec 32 := (x <<< (32 - n)) ||| (x >>> n)
section
variable {P : Program} {w : World} {env : Env} {dst : Option Tmp} {ty t yt : TypeId} {pos : String} {after : Array Edge} {guard : Option (Nat × Bool)} {x y : Operand} {a b : BitVec 32}
theorem OpV.bin32 {op : BinOp} {m : Int} (hs : op ≠ .shl) (hs' : op ≠ .shr) (hx : evO env x = some (.int .u32 (a.toNat : Int))) (hy : evO env y = some (.int .u32 (b.toNat : Int)))
  (h : evInt op .u32 (a.toNat : Int) (b.toNat : Int) = some (.int .u32 m)) : OpV P env w ⟨dst, .binOp op t x y yt, ty, pos, after, guard⟩ (.int .u32 m) := .of_run fun ρ hρ => by
 refine ⟨_, by simp only [execOp, hρ _ _ hx, hρ _ _ hy]; rfl, ?_⟩
 rw [run_bind _ _ (run_eqGuard_plain (P := P) (w := w) op t x y (by intro c; simp) (by simp))]
 exact run_intOp hs hs' h t
theorem OpV.xor32 (hx : evO env x = some (.int .u32 (a.toNat : Int))) (hy : evO env y = some (.int .u32 (b.toNat : Int))) :
  OpV P env w ⟨dst, .binOp .xor t x y yt, ty, pos, after, guard⟩ (.int .u32 ((a ^^^ b).toNat : Int)) := .bin32 (by decide) (by decide) hx hy (by rw [← Go.Rn.u32_xor]; rfl)
theorem OpV.and32 (hx : evO env x = some (.int .u32 (a.toNat : Int))) (hy : evO env y = some (.int .u32 (b.toNat : Int))) :
  OpV P env w ⟨dst, .binOp .and t x y yt, ty, pos, after, guard⟩ (.int .u32 ((a &&& b).toNat : Int)) := .bin32 (by decide) (by decide) hx hy (by rw [← Go.Rn.u32_and]; rfl)
theorem OpV.or32 (hx : evO env x = some (.int .u32 (a.toNat : Int))) (hy : evO env y = some (.int .u32 (b.toNat : Int))) :
  OpV P env w ⟨dst, .binOp .or t x y yt, ty, pos, after, guard⟩ (.int .u32 ((a ||| b).toNat : Int)) := .bin32 (by decide) (by decide) hx hy (by rw [← Go.Rn.u32_or]; rfl)
theorem OpV.add32 (hx : evO env x = some (.int .u32 (a.toNat : Int))) (hy : evO env y = some (.int .u32 (b.toNat : Int))) :
  OpV P env w ⟨dst, .binOp .add t x y yt, ty, pos, after, guard⟩ (.int .u32 ((a + b).toNat : Int)) := .bin32 (by decide) (by decide) hx hy (by rw [← u32_add]; rfl)
theorem OpV.shr32 {k : IntKind} {n : Nat} (hx : evO env x = some (.int .u32 (a.toNat : Int))) (hy : evO env y = some (.int k (.ofNat n))) (hn : Nat.ble n 32 = true) :
  OpV P env w ⟨dst, .binOp .shr t x y yt, ty, pos, after, guard⟩ (.int .u32 ((a >>> n).toNat : Int)) := .of_run fun ρ hρ => by
 refine ⟨_, by simp only [execOp, hρ _ _ hx, hρ _ _ hy]; rfl, ?_⟩
 rw [run_bind _ _ (run_eqGuard_plain (P := P) (w := w) .shr t x y (by intro c; simp) (by simp))]
 rw [← u32_shr a n (Nat.le_of_ble_eq_true hn)]
 simp only [binOp, Op.shift]
 rw [if_neg (by simp)]
 simp [pure]
end
end Go.Rn
namespace Go.Sg
open Go.Rn Go.Proofs

theorem rot_count : ∀ n : Fin 32, 0 < n.val → IntKind.u64.wrap ((BitVec.ofInt IntKind.u64.bits (IntKind.u64.wrap (-(n.val : Int))) &&& BitVec.ofInt IntKind.u64.bits 31).toNat : Int) = ((32 - n.val : Nat) : Int) := by decide +kernel

theorem rotl_ok (x : BitVec 32) (n : Nat) (h0 : 0 < n) (h1 : n < 32) (w : World) : Rets Tryz.prog 134 [.int .u32 (x.toNat : Int), .int .i64 (-(n : Int))] w fun v w' => v = .int .u32 ((rotr x n).toNat : Int) ∧ w = w' := by
 have hc := rot_count ⟨n, h1⟩ h0
 simp only at hc
 refine RetsX.of (nt := 17) Tryz.func134 (by kernel_rfl) rfl rfl (by simp) (by simp only [argEnv]; rfl) ?_
 (repeat (first | refine ZzQ ?_)); refine ZzR ?_; (repeat (first | refine RunL.pureI Tryz.tOk rfl rfl rfl (by (rfl)) ?_)); refine ZzN ?_
 repeat (first | refine ZzQ ?_ | refine ZzR ?_)
 refine RunL.pure Tryz.tOk rfl rfl rfl ?_
 refine RunL.pure Tryz.tOk rfl rfl rfl ?_
 refine RunL.pureI Tryz.tOk rfl rfl rfl hc ?_
 refine RunL.pure Tryz.tOk rfl rfl rfl ?_
 repeat (first | refine ZzQ ?_ | refine ZzR ?_ | refine ZzN ?_)
 refine RunL.pure Tryz.tOk rfl rfl rfl ?_
 refine RunL.pure Tryz.tOk rfl rfl rfl ?_
 refine RunL.pureI Tryz.tOk rfl rfl rfl (u32_shl _ _ (by omega)) ?_
 refine RunL.pure Tryz.tOk rfl rfl rfl ?_
 refine RunL.pure Tryz.tOk rfl rfl rfl ?_
 refine RunL.pureI (m' := (n : Int)) Tryz.tOk rfl rfl rfl (by rw [wrap_u64]; omega) ?_
 refine RunL.pureI Tryz.tOk rfl rfl rfl (u32_shr _ _ (by omega)) ?_
 refine RunL.pureI Tryz.tOk rfl rfl rfl (Go.Rn.u32_or _ _) ?_
 repeat (first | refine RunL.pureI Tryz.tOk rfl rfl rfl (by (rfl)) ?_ | refine ZzN ?_)
 exact RunE.retFn Tryz.func134 (.tmp rfl .nil) ⟨rfl, rfl⟩

theorem ror_ok (x : BitVec 32) (n : Nat) (h1 : n < 32) (w : World) : Rets Tryz.prog 157 [.int .u32 (x.toNat : Int), .int .i64 (n : Int)] w fun v w' => v = .int .u32 ((rotr x n).toNat : Int) ∧ Ext w w' := by
 refine RetsX.of (nt := 13) Tryz.func157 (by kernel_rfl) rfl rfl (by simp) (by simp only [argEnv]; rfl) ?_
 repeat (first | refine RunL.pureI Tryz.tOk rfl rfl rfl (by (rfl)) ?_ | refine ZzQ ?_ | refine ZzR ?_ | refine ZzN ?_)
 refine RunE.draw (fun _ => False) mix ?_
 intro w0 X
 refine Asy.pure Tryz.tOk rfl rfl rfl ?_
 refine Asy.pure Tryz.tOk rfl rfl rfl ?_
 refine Asy.pureI Tryz.tOk rfl rfl rfl (u32_shr _ _ (by omega)) ?_
 refine Asy.pure Tryz.tOk rfl rfl rfl ?_
 refine Asy.pure Tryz.tOk rfl rfl rfl ?_
 refine Asy.pureI (m' := ((32 - n : Nat) : Int)) Tryz.tOk rfl rfl rfl (by rw [wr_i64 (by omega) (by omega)]; omega) ?_
 refine Asy.pureI Tryz.tOk rfl rfl rfl (u32_shl _ _ (by omega)) ?_
 refine Asy.pureI Tryz.tOk rfl rfl rfl (Go.Rn.u32_or _ _) ?_
 refine Asy.pure Tryz.tOk rfl rfl rfl ?_
 refine Asy.tail (by kernel_rfl) ?_
 intro w1 X1
 simp only [satsAll]
 repeat (first | refine ZzN ?_)
 exact RunE.retFn Tryz.func157 (.tmp rfl .nil) ⟨by unfold rotr; rw [BitVec.or_comm]; rfl, X.trans X1⟩
end Go.Sg
end
section
/- What SHA-256 is; words of bytes. -/
set_option maxRecDepth 4000
namespace Go.Sha
open Go.Rn

abbrev W := BitVec 32
def s0 (x : W) : W := (rotr x 7 ^^^ rotr x 18) ^^^ (x >>> 3)
def s1 (x : W) : W := (rotr x 17 ^^^ rotr x 19) ^^^ (x >>> 10)
def S3 (x : W) (a b c : Nat) : W := (rotr x a ^^^ rotr x b) ^^^ rotr x c
def ch (e f g : W) : W := (e &&& f) ^^^ (~~~e &&& g)
def maj (a b c : W) : W := ((a &&& b) ^^^ (a &&& c)) ^^^ (b &&& c)
theorem ch_eq (e f g : W) : g ^^^ (e &&& (f ^^^ g)) = ch e f g := by
 apply BitVec.eq_of_getLsbD_eq
 intro i hi
 simp only [ch, BitVec.getLsbD_xor, BitVec.getLsbD_and, BitVec.getLsbD_not, hi, decide_true, Bool.true_and]
 cases e.getLsbD i <;> cases f.getLsbD i <;> cases g.getLsbD i <;> rfl
theorem maj_eq (a b c : W) : (a &&& b) ||| (c &&& (a ||| b)) = maj a b c := by
 apply BitVec.eq_of_getLsbD_eq
 intro i _
 simp only [maj, BitVec.getLsbD_xor, BitVec.getLsbD_and, BitVec.getLsbD_or]
 cases a.getLsbD i <;> cases b.getLsbD i <;> cases c.getLsbD i <;> rfl

/-- The word of four bytes. -/
def word (a b c d : UInt8) : W := BitVec.ofNat 32 (((a.toNat * 256 + b.toNat) * 256 + c.toNat) * 256 + d.toNat)

theorem or_base (x c : Nat) (hc : c < 256) : ((BitVec.ofNat 32 x <<< 8) ||| BitVec.ofNat 32 c : W) = BitVec.ofNat 32 (x * 256 + c) := by
 have h : x * 256 + c = x <<< 8 ||| c := by rw [← Nat.shiftLeft_add_eq_or_of_lt (by simpa using hc), Nat.shiftLeft_eq]
 rw [h, BitVec.ofNat_or]
 congr 1
 apply BitVec.eq_of_toNat_eq
 simp [Nat.shiftLeft_eq, BitVec.toNat_shiftLeft]
theorem or_step (x c n : Nat) (hc : c < 256) : ((BitVec.ofNat 32 x <<< (8 + n)) ||| (BitVec.ofNat 32 c <<< n) : W) = BitVec.ofNat 32 (x * 256 + c) <<< n := by
 rw [BitVec.shiftLeft_add, ← BitVec.shiftLeft_or_distrib, or_base x c hc]

structure S8 where
 a : W
 b : W
 c : W
 d : W
 e : W
 f : W
 g : W
 h : W

def S8.l (s : S8) : List W := [s.a, s.b, s.c, s.d, s.e, s.f, s.g, s.h]
def rnd (s : S8) (k w : W) : S8 :=
 let p := (((s.h + S3 s.e 6 11 25) + ch s.e s.f s.g) + k) + w
 let q := S3 s.a 2 13 22 + maj s.a s.b s.c
 ⟨p + q, s.a, s.b, s.c, s.d + p, s.e, s.f, s.g⟩
def kTab : List W := [0x428a2f98, 0x71374491, 0xb5c0fbcf, 0xe9b5dba5, 0x3956c25b, 0x59f111f1, 0x923f82a4, 0xab1c5ed5,
 0xd807aa98, 0x12835b01, 0x243185be, 0x550c7dc3, 0x72be5d74, 0x80deb1fe, 0x9bdc06a7, 0xc19bf174,
 0xe49b69c1, 0xefbe4786, 0x0fc19dc6, 0x240ca1cc, 0x2de92c6f, 0x4a7484aa, 0x5cb0a9dc, 0x76f988da,
 0x983e5152, 0xa831c66d, 0xb00327c8, 0xbf597fc7, 0xc6e00bf3, 0xd5a79147, 0x06ca6351, 0x14292967,
 0x27b70a85, 0x2e1b2138, 0x4d2c6dfc, 0x53380d13, 0x650a7354, 0x766a0abb, 0x81c2c92e, 0x92722c85,
 0xa2bfe8a1, 0xa81a664b, 0xc24b8b70, 0xc76c51a3, 0xd192e819, 0xd6990624, 0xf40e3585, 0x106aa070,
 0x19a4c116, 0x1e376c08, 0x2748774c, 0x34b0bcb5, 0x391c0cb3, 0x4ed8aa4a, 0x5b9cca4f, 0x682e6ff3,
 0x748f82ee, 0x78a5636f, 0x84c87814, 0x8cc70208, 0x90befffa, 0xa4506ceb, 0xbef9a3f7, 0xc67178f2]
def init8 : S8 := ⟨0x6a09e667, 0xbb67ae85, 0x3c6ef372, 0xa54ff53a, 0x510e527f, 0x9b05688c, 0x1f83d9ab, 0x5be0cd19⟩

def nextW (l : List W) (k : Nat) : W := ((l.getD k 0 + s0 (l.getD (k + 1) 0)) + l.getD (k + 9) 0) + s1 (l.getD (k + 14) 0)
def sched (l : List W) : Nat → List W
 | 0 => l
 | k + 1 => sched l k ++ [nextW (sched l k) k]
theorem sched_length (l : List W) (k : Nat) : (sched l k).length = l.length + k := by
 induction k with
 | zero => rfl
 | succ k ih => simp [sched, ih]; omega
def words (l : List UInt8) : Nat → List W
 | 0 => []
 | k + 1 => words l k ++ [word (l.getD (4 * k) 0) (l.getD (4 * k + 1) 0) (l.getD (4 * k + 2) 0) (l.getD (4 * k + 3) 0)]
theorem words_length (l : List UInt8) (k : Nat) : (words l k).length = k := by
 induction k with
 | zero => rfl
 | succ k ih => simp [words, ih]
def rnds (ws : List W) (s : S8) : Nat → S8
 | 0 => s
 | t + 1 => rnd (rnds ws s t) (kTab.getD t 0) (ws.getD t 0)
def S8.add (s v : S8) : S8 := ⟨s.a + v.a, s.b + v.b, s.c + v.c, s.d + v.d, s.e + v.e, s.f + v.f, s.g + v.g, s.h + v.h⟩
/-- The state after a block of 64 bytes. -/
def block (s : S8) (l : List UInt8) : S8 := s.add (rnds (sched (words l 16) 48) s 64)

def vals (l : List W) : List Value := l.map fun x => .int .u32 (x.toNat : Int)
theorem vals_length (l : List W) : (vals l).length = l.length := by simp [vals]
end Go.Sha
namespace Go.Sg
open Go.Rn Go.Sha Go.Proofs

def accB (l : List UInt8) (j : Nat) : Nat := (l.take j).foldl (fun n c => n * 256 + c.toNat) 0
theorem accB_succ {l : List UInt8} {j : Nat} {x : UInt8} (h : l[j]? = some x) : accB l (j + 1) = accB l j * 256 + x.toNat := by
 unfold accB
 rw [List.take_add_one, h, List.foldl_append]
 rfl

theorem digestWord_ok (x0 x1 x2 x3 : UInt8) (b o len cap : Nat) (w : World) (h4 : 4 ≤ len) (hc : len ≤ cap) (hr : Row w b o (bytesV [x0, x1, x2, x3])) :
  Rets Tryz.prog 133 [.slice (some ⟨b, o, none⟩) len cap] w fun v w' => v = .int .u32 ((word x0 x1 x2 x3).toNat : Int) ∧ w = w' := by
 refine RetsX.of (nt := 19) Tryz.func133 (by kernel_rfl) rfl rfl (by simp) (by simp only [argEnv]; rfl) ?_
 repeat (first | refine RunL.pureI Tryz.tOk rfl rfl rfl (by (rfl)) ?_ | refine RunL.pure Tryz.tOk rfl rfl rfl ?_ | refine ZzQ ?_ | refine ZzR ?_ | refine ZzN ?_)
 refine RunL.val rfl rfl rfl (OpV.slice0 (hi := 4) Tryz.tOk rfl rfl .none (.some rfl rfl) (by omega)) ?_
 repeat (first | refine RunL.pureI Tryz.tOk rfl rfl rfl (by (rfl)) ?_ | refine ZzN ?_ | refine ZzB ?_)
 refine RunE.loop (ι := Nat) (fun j => [(6, .slice (some ⟨b, o, none⟩) 4 cap), (7, .int .i64 4), (8, .int .i64 (j : Int)), (2, .int .u32 ((BitVec.ofNat 32 (accB [x0, x1, x2, x3] j)).toNat : Int))])
  (fun j w' => w = w' ∧ j ≤ 4) (fun j => 4 - j) 0 (by repeat (first | exact Sub.nil _ | refine Sub.cons rfl ?_)) ⟨rfl, by omega⟩ ?_
 rintro j _ ⟨rfl, hj⟩ again
 repeat (first | refine RunL.pure Tryz.tOk rfl rfl rfl ?_ | refine ZzQ ?_ | refine ZzR ?_ | refine ZzN ?_)
 refine RunE.cond rfl (fun hlt => ?_) (fun hlt => ?_) <;> (first | replace hlt := of_decide_eq_true hlt | replace hlt := of_decide_eq_false hlt)
 ·have hlt' : j < [x0, x1, x2, x3].length := by simp; omega
  have hx : [x0, x1, x2, x3][j]? = some [x0, x1, x2, x3][j] := List.getElem?_eq_getElem hlt'
  generalize [x0, x1, x2, x3][j] = x at hx
  repeat (first | refine ZzQ ?_ | refine ZzR ?_ | refine ZzB ?_ | refine ZzK ?_)
  refine RunL.val rfl rfl rfl (OpV.indexS1 Tryz.tOk j rfl rfl rfl rfl (by omega)) ?_
  refine RunL.val rfl rfl rfl (OpV.load1 (v := .int .u8 (x.toNat : Int)) Tryz.tOk rfl rfl rfl (hr j _ (by simp only [bytesV, List.getElem?_map, hx]; rfl))) ?_
  repeat (first | refine RunL.pureI Tryz.tOk rfl rfl rfl (by (first | with_reducible exact Go.Rn.u32_or _ _ | with_reducible exact u32_shl _ _ (by decide) | with_reducible exact u32_of_u8 _ | exact wr_i64 (by omega) (by omega) | rfl)) ?_ | refine ZzR ?_ | refine ZzN ?_ | refine ZzI ?_)
  exact RunE.weaken (by
   refine Sub.cons rfl (Sub.cons rfl (Sub.cons rfl (Sub.cons ?_ (Sub.nil _))))
   rw [accB_succ hx, ← or_base _ _ x.toNat_lt]
   rfl) (again (j + 1) _ (by omega) ⟨rfl, by omega⟩)
 ·have hj4 : j = 4 := by omega
  subst hj4
  repeat (first | refine RunL.pureI Tryz.tOk rfl rfl rfl (by (rfl)) ?_ | refine ZzQ ?_ | refine ZzR ?_ | refine ZzN ?_ | refine RunE.exit rfl ?_)
  exact RunE.retFn Tryz.func133 (.tmp rfl .nil) ⟨by simp [accB, word, oneOr], rfl⟩

theorem refWord_ok (x0 x1 x2 x3 : UInt8) (b o len cap : Nat) (w : World) (h4 : 4 ≤ len) (hr : Row w b o (bytesV [x0, x1, x2, x3])) :
  Rets Tryz.prog 156 [.slice (some ⟨b, o, none⟩) len cap] w fun v w' => v = .int .u32 ((word x0 x1 x2 x3).toNat : Int) ∧ Ext w w' := by
 refine RetsX.of (nt := 25) Tryz.func156 (by kernel_rfl) rfl rfl (by simp) (by simp only [argEnv]; rfl) ?_
 repeat (first | refine RunL.pureI Tryz.tOk rfl rfl rfl (by (rfl)) ?_ | refine ZzQ ?_ | refine ZzR ?_ | refine ZzN ?_)
 refine RunE.draw (fun _ => False) mix ?_
 intro w0 X
 repeat (first | refine Asy.pure Tryz.tOk rfl rfl rfl ?_)
 refine Asy.v rfl rfl rfl rfl (fun _ _ => OpV.indexS1 Tryz.tOk 0 rfl rfl rfl rfl (by omega)) ?_
 refine Asy.v rfl rfl rfl rfl (fun _ X' => OpV.load1 Tryz.tOk rfl rfl rfl (hr.extE (X.trans X') 0 _ rfl)) ?_
 repeat (first | refine Asy.pureI Tryz.tOk rfl rfl rfl (by (first | with_reducible exact u32_shl _ _ (by decide) | with_reducible exact u32_of_u8 _ | rfl)) ?_ | refine Asy.pure Tryz.tOk rfl rfl rfl ?_)
 refine Asy.v rfl rfl rfl rfl (fun _ _ => OpV.indexS1 Tryz.tOk 1 rfl rfl rfl rfl (by omega)) ?_
 refine Asy.v rfl rfl rfl rfl (fun _ X' => OpV.load1 Tryz.tOk rfl rfl rfl (hr.extE (X.trans X') 1 _ rfl)) ?_
 repeat (first | refine Asy.pureI Tryz.tOk rfl rfl rfl (by (first | with_reducible exact Go.Rn.u32_or _ _ | with_reducible exact u32_shl _ _ (by decide) | with_reducible exact u32_of_u8 _ | rfl)) ?_ | refine Asy.pure Tryz.tOk rfl rfl rfl ?_)
 refine Asy.v rfl rfl rfl rfl (fun _ _ => OpV.indexS1 Tryz.tOk 2 rfl rfl rfl rfl (by omega)) ?_
 refine Asy.v rfl rfl rfl rfl (fun _ X' => OpV.load1 Tryz.tOk rfl rfl rfl (hr.extE (X.trans X') 2 _ rfl)) ?_
 repeat (first | refine Asy.pureI Tryz.tOk rfl rfl rfl (by (first | with_reducible exact Go.Rn.u32_or _ _ | with_reducible exact u32_shl _ _ (by decide) | with_reducible exact u32_of_u8 _ | rfl)) ?_ | refine Asy.pure Tryz.tOk rfl rfl rfl ?_)
 refine Asy.v rfl rfl rfl rfl (fun _ _ => OpV.indexS1 Tryz.tOk 3 rfl rfl rfl rfl (by omega)) ?_
 refine Asy.v rfl rfl rfl rfl (fun _ X' => OpV.load1 Tryz.tOk rfl rfl rfl (hr.extE (X.trans X') 3 _ rfl)) ?_
 repeat (first | refine Asy.pureI Tryz.tOk rfl rfl rfl (by (first | with_reducible exact Go.Rn.u32_or _ _ | with_reducible exact u32_of_u8 _ | rfl)) ?_)
 refine Asy.tail (by kernel_rfl) ?_
 intro w1 X1
 simp only [satsAll]
 repeat (first | refine ZzN ?_)
 refine RunE.retFn Tryz.func156 (.tmp rfl .nil) ⟨?_, X.trans X1⟩
 unfold word
 rw [or_step _ _ 16 x1.toNat_lt, or_step _ _ 8 x2.toNat_lt, or_base _ _ x3.toNat_lt]
 rfl
end Go.Sg
end
section
/- What SHA-256 is: padding, blocks, the digest. Plain, no program. -/
set_option maxRecDepth 4000
namespace Go.Sha
open Go.Rn

/-- The bytes of a number, the greatest first. -/
def be : Nat → Nat → List UInt8
 | 0, _ => []
 | i + 1, n => UInt8.ofNat (n / 2 ^ (8 * i)) :: be i n
theorem be_length (i n : Nat) : (be i n).length = i := by
 induction i with
 | zero => rfl
 | succ i ih => simp [be, ih]
theorem be_get : ∀ (i n j : Nat), j < i → (be i n)[j]? = some (UInt8.ofNat (n / 2 ^ (8 * (i - 1 - j))))
 | 0, n, j, h => by omega
 | i + 1, n, 0, _ => by simp [be]
 | i + 1, n, j + 1, h => by
  simp only [be, List.getElem?_cons_succ]
  rw [be_get i n j (by omega)]
  congr 4; omega
def dig (s : S8) : List UInt8 := s.l.flatMap fun x => be 4 x.toNat
theorem dig_length (s : S8) : (dig s).length = 32 := rfl
theorem flat_length : ∀ L : List W, (L.flatMap fun x => be 4 x.toNat).length = 4 * L.length
 | [] => rfl
 | x :: r => by rw [List.flatMap_cons, List.length_append, be_length, flat_length r, List.length_cons]; omega
def run (s : S8) (l : List UInt8) : Nat → S8
 | 0 => s
 | k + 1 => block (run s l k) ((l.drop (64 * k)).take 64)
def padz (n : Nat) : Nat := (119 - n % 64) % 64
def pad (l : List UInt8) : List UInt8 := l ++ 128 :: (List.replicate (padz l.length) 0 ++ be 8 (8 * l.length))
def sha (l : List UInt8) : List UInt8 := dig (run init8 (pad l) ((pad l).length / 64))
theorem sha_length (l : List UInt8) : (sha l).length = 32 := rfl
def tagged (tag l : List UInt8) : List UInt8 := sha (sha tag ++ l)
theorem tagged_length (t l : List UInt8) : (tagged t l).length = 32 := rfl

theorem pad_length (l : List UInt8) : (pad l).length = l.length + 9 + padz l.length := by
 simp [pad, be_length]; omega
theorem pad_length64 (l : List UInt8) : (pad l).length = 64 * ((pad l).length / 64) := by
 rw [pad_length]; unfold padz; omega
theorem run_congr (s : S8) (l l' : List UInt8) : ∀ n, (∀ k, k < n → (l.drop (64 * k)).take 64 = (l'.drop (64 * k)).take 64) → run s l n = run s l' n
 | 0, _ => rfl
 | n + 1, h => by
  unfold run
  rw [run_congr s l l' n (fun k hk => h k (by omega)), h n (by omega)]
/-- The blocks of l itself. -/
theorem run_pad (s : S8) (l : List UInt8) (n : Nat) (h : 64 * n ≤ l.length) : run s (pad l) n = run s l n := by
 refine run_congr s _ _ n fun k hk => ?_
 unfold pad
 rw [List.drop_append_of_le_length (by omega), List.take_append_of_le_length (by rw [List.length_drop]; omega)]
/-- What the last blocks are made of. -/
def tailOf (l : List UInt8) : List UInt8 := (pad l).drop (64 * (l.length / 64))
theorem tailOf_eq (l : List UInt8) : tailOf l = l.drop (64 * (l.length / 64)) ++ 128 :: (List.replicate (padz l.length) 0 ++ be 8 (8 * l.length)) := by
 unfold tailOf pad
 rw [List.drop_append_of_le_length (by omega)]
theorem tailOf_length (l : List UInt8) : (tailOf l).length = if l.length % 64 > 55 then 128 else 64 := by
 unfold tailOf
 rw [List.length_drop, pad_length]; unfold padz; split <;> omega
theorem pad_blocks (l : List UInt8) : (pad l).length / 64 = l.length / 64 + (tailOf l).length / 64 := by
 rw [tailOf_length, pad_length]; unfold padz; split <;> omega
theorem tail_block (l : List UInt8) (j : Nat) : ((tailOf l).drop (64 * j)).take 64 = ((pad l).drop (64 * (l.length / 64 + j))).take 64 := by
 unfold tailOf; rw [List.drop_drop]; congr 2; omega
theorem tail_block_len (l : List UInt8) (k j m : Nat) (hk : k = l.length / 64) (hm : m = (tailOf l).length) (h : 64 * j + 64 ≤ m) : 64 = (((pad l).drop (64 * (k + j))).take 64).length := by
 rw [hk, ← tail_block, List.length_take, List.length_drop]; omega
theorem sha_eq (l : List UInt8) : sha l = dig (run init8 (pad l) (l.length / 64 + (tailOf l).length / 64)) := by rw [sha, pad_blocks]

/-! ### Cells -/
theorem bytesV_append (a b : List UInt8) : bytesV (a ++ b) = bytesV a ++ bytesV b := by simp [bytesV]
theorem bytesV_replicate (n : Nat) : List.replicate n (Value.int .u8 0) = bytesV (List.replicate n 0) := by simp [bytesV]
theorem bytesV_drop (l : List UInt8) (n : Nat) : (bytesV l).drop n = bytesV (l.drop n) := by simp [bytesV]
theorem bytesV_take (l : List UInt8) (n : Nat) : (bytesV l).take n = bytesV (l.take n) := by simp [bytesV]
theorem bytesV_get {l : List UInt8} {i : Nat} (h : i < l.length) : (bytesV l)[i]? = some (.int .u8 ((l.getD i 0).toNat : Int)) := by
 simp [bytesV, List.getElem?_eq_getElem h, List.getD_eq_getElem?_getD]
theorem setAt_self (cs : List Value) : setAt cs 0 cs = cs := by
 have := setAt_mid [] cs [] cs rfl
 simpa using this
theorem setAt_all (cs ds : List Value) (h : ds.length = cs.length) : setAt cs 0 ds = ds := by
 have := setAt_mid [] cs [] ds h
 simpa using this
theorem setAt_bytes (X Y Z V : List UInt8) (n : Nat) (hn : X.length = n) (h : V.length = Y.length) : setAt (bytesV (X ++ Y ++ Z)) n (bytesV V) = bytesV (X ++ V ++ Z) := by
 have := setAt_mid (bytesV X) (bytesV Y) (bytesV Z) (bytesV V) (by simpa [bytesV_length] using h)
 rw [bytesV_length, hn] at this
 simpa [bytesV_append] using this
theorem set_byte (X Z : List UInt8) (y b : UInt8) (n : Nat) (hn : X.length = n) : setAt (bytesV (X ++ y :: Z)) n [.int .u8 (b.toNat : Int)] = bytesV (X ++ b :: Z) := by
 have := setAt_bytes X [y] Z [b] n hn rfl
 simpa [bytesV] using this
end Go.Sha
end
section
/- What comes in, read as data: the shape of its cells. Nothing here knows a program. -/
set_option maxRecDepth 4000
namespace Go.Rn
open Go.RowKit Go.ChangeShapes Go.WideShapes

/-- What cells of a type hold that can be read. -/
def Shp (P : Program) (w : World) : Nat → TypeId → List Value → Prop
 | 0, _, _ => False
 | f + 1, t, cs => match P.underlying t with
  | some .bool => ∃ b, cs = [.bool b]
  | some (.int k) => ∃ n, cs = [.int k n] ∧ (Lit.int k n).wf = true
  | some .string => ∃ s : ByteArray, cs = [.string s] ∧ s.size ≤ maxLen
  | some (.slice e) => 0 < P.cellsOf e → ∃ v n, ∃ rows : List (List Value), cs = [v] ∧ n ≤ maxLen ∧ rows.length = n ∧ (∀ r ∈ rows, r.length = P.cellsOf e ∧ Shp P w f e r) ∧ IsSl w (P.cellsOf e) v n rows.flatten
  | some (.struct fs) => cs.length = P.cellsOf t ∧ ∀ fl ∈ fs.toList, Shp P w f fl.type ((cs.drop fl.offset).take (P.cellsOf fl.type))
  | some (.array n e) => cs.length = P.cellsOf t ∧ ∀ i, i < n → Shp P w f e ((cs.drop (i * P.cellsOf e)).take (P.cellsOf e))
  | _ => True

theorem mapM_mem {α β : Type} {g : α → Option β} : ∀ {l : List α} {ys : List β}, l.mapM g = some ys → ∀ x ∈ l, ∃ y, g x = some y
 | [], _, _, x, hx => by simp at hx
 | a :: r, ys, h, x, hx => by
  rw [List.mapM_cons] at h
  cases ha : g a with
  | none => simp [ha] at h
  | some y =>
   simp only [ha, Option.bind_eq_bind, Option.bind_some] at h
   cases hr : r.mapM g with
   | none => simp [hr] at h
   | some zs =>
    rcases List.mem_cons.1 hx with rfl | hx
    ·exact ⟨y, ha⟩
    ·exact mapM_mem hr x hx

theorem flatten_get {sz : Nat} : ∀ (rows : List (List Value)), (∀ r ∈ rows, r.length = sz) → ∀ i j, j < sz → (rows.flatten)[i * sz + j]? = (rows[i]?).bind (·[j]?)
 | [], _, i, j, _ => by simp
 | r :: rest, h, 0, j, hj => by
  have hr := h r (by simp)
  rw [List.flatten_cons, Nat.zero_mul, Nat.zero_add, List.getElem?_append_left (by omega)]; rfl
 | r :: rest, h, i + 1, j, hj => by
  have hr := h r (by simp)
  rw [List.flatten_cons, List.getElem?_append_right (by rw [hr, Nat.add_mul]; omega), hr, show (i + 1) * sz + j - sz = i * sz + j by rw [Nat.add_mul]; omega,
   flatten_get rest (fun x hx => h x (by simp [hx])) i j hj]
  simp
theorem flatten_length {sz : Nat} : ∀ (rows : List (List Value)), (∀ r ∈ rows, r.length = sz) → rows.flatten.length = rows.length * sz
 | [], _ => by simp
 | r :: rest, h => by
  rw [List.flatten_cons, List.length_append, h r (by simp), flatten_length rest (fun x hx => h x (by simp [hx])), List.length_cons, Nat.add_mul]; omega

section
variable {H : Type} {enc : TypeId × Value → H} {P : Program} {w : World} {held : Bool}

theorem shp_of_trod : ∀ (fuel : Nat) (t : TypeId) (cs : List Value) (x : DataW H × List MemPlace), DataW.trod enc P w 0 (fun _ => true) held fuel t cs = some x → Shp P w fuel t cs
 | 0, t, cs, x, h => by simp [DataW.trod] at h
 | fuel + 1, t, cs, x, h => by
  unfold Shp
  split
  ·rename_i ht; obtain ⟨b, rfl, -⟩ := DataW.trod_bool ht h; exact ⟨b, rfl⟩
  ·rename_i k ht; obtain ⟨n, rfl, -, hw⟩ := DataW.trod_int ht h; exact ⟨n, rfl, hw⟩
  ·rename_i ht; obtain ⟨s, rfl, -, hs⟩ := DataW.trod_string ht h; exact ⟨s, rfl, hs⟩
  ·rename_i e ht
   intro hpos
   rcases DataW.trod_slice ht h with ⟨rfl, -⟩ | ⟨a, len, cap, elems, rest, n, hfu, rfl, -, -, hlc, hcm, hlen, hel, hsp, -⟩
   ·exact ⟨_, 0, [], rfl, by simp [maxLen], rfl, by simp, by simpa using IsSl.nil⟩
   ·obtain rfl : fuel = n := by omega
    obtain ⟨hrl, hre⟩ := hsp rfl
    have all : ∀ i, i < cap → ∃ cs', w.cells? 0 (a.add (i * P.cellsOf e)) (P.cellsOf e) = some cs' ∧ ∃ y, DataW.trod enc P w 0 (fun _ => true) held fuel e cs' = some y := by
     intro i hi
     by_cases hil : i < len
     ·have h1 := hel i hil
      rw [List.getElem?_eq_getElem (by omega)] at h1
      obtain ⟨cs', h1, h2⟩ := Option.bind_eq_some_iff.1 h1
      exact ⟨cs', h1, _, h2⟩
     ·have h1 := hre (i - len) (by omega)
      rw [show len + (i - len) = i by omega, List.getElem?_eq_getElem (by omega)] at h1
      obtain ⟨cs', h1, h2⟩ := Option.bind_eq_some_iff.1 h1
      exact ⟨cs', h1, _, h2⟩
    obtain ⟨F, hF⟩ := Deep.choose_lt (α := List Value) (p := fun i cs' => w.cells? 0 (a.add (i * P.cellsOf e)) (P.cellsOf e) = some cs' ∧ ∃ y, DataW.trod enc P w 0 (fun _ => true) held fuel e cs' = some y) all
    have hlenF : ∀ i, i < cap → (F i).length = P.cellsOf e := fun i hi => (World.cells?_some (hF i hi).1).2.1
    refine ⟨_, len, (List.range len).map F, rfl, by omega, by simp, ?_, ?_⟩
    ·intro r hr
     obtain ⟨i, hi, rfl⟩ := List.mem_map.1 hr
     have hi' : i < cap := by have := List.mem_range.1 hi; omega
     obtain ⟨y, hy⟩ := (hF i hi').2
     exact ⟨hlenF i hi', shp_of_trod fuel e _ y hy⟩
    ·by_cases h0 : cap = 0
     ·subst h0
      obtain rfl : len = 0 := by omega
      simpa using IsSl.nil
     ·have hsp : a.spot = none := by
       have h1 := (World.cells?_some (hF 0 (by omega)).1).2.2 0 hpos
       rw [Nat.zero_mul] at h1
       have e0 : (a.add 0).add 0 = a := by simp [Addr.add]
       rw [e0] at h1
       have hl := hlenF 0 (by omega)
       rw [List.getElem?_eq_getElem (by omega)] at h1
       unfold World.cell? at h1
       split at h1
       ·split at h1
        ·simp at h1
        ·rename_i hs; simpa using hs
       ·simp at h1
      obtain ⟨ab, ao, asp⟩ := a
      simp only at hsp; subst hsp
      have hrl : ∀ r ∈ (List.range len).map F, r.length = P.cellsOf e := by
       intro r hr
       obtain ⟨i, hi, rfl⟩ := List.mem_map.1 hr
       exact hlenF i (by have := List.mem_range.1 hi; omega)
      refine .row ?_ (by rw [flatten_length _ hrl]; simp) hlc
      intro q v hv
      have hq : q < len * P.cellsOf e := by
       rcases Nat.lt_or_ge q (len * P.cellsOf e) with h | h
       ·exact h
       ·rw [List.getElem?_eq_none (by rw [flatten_length _ hrl]; simpa using h)] at hv; simp at hv
      have hqi : q / P.cellsOf e < len := Nat.div_lt_of_lt_mul (by rw [Nat.mul_comm]; exact hq)
      have hqj : q % P.cellsOf e < P.cellsOf e := Nat.mod_lt _ hpos
      have hqe : q / P.cellsOf e * P.cellsOf e + q % P.cellsOf e = q := by rw [Nat.mul_comm]; exact Nat.div_add_mod q _
      rw [← hqe, flatten_get _ hrl _ _ hqj] at hv
      simp only [List.getElem?_map, List.getElem?_range hqi, Option.map_some, Option.bind_some] at hv
      have h1 := (World.cells?_some (hF _ (by omega : q / P.cellsOf e < cap)).1).2.2 _ hqj
      rw [hv] at h1
      rw [add_none, add_none] at h1
      rw [← hqe, ← Nat.add_assoc]; exact h1
  ·rename_i fs ht
   obtain ⟨xs, n, hfu, -, hl, hxl, hx⟩ := DataW.trod_struct ht h
   obtain rfl : fuel = n := by omega
   refine ⟨hl, fun fl hfl => ?_⟩
   obtain ⟨i, hi, rfl⟩ := List.getElem_of_mem hfl
   have h1 := hx i (fs.toList[i]) (by simp)
   rw [List.getElem?_eq_getElem (by rw [hxl]; simpa using hi)] at h1
   exact shp_of_trod fuel _ _ _ h1
  ·rename_i n e ht
   unfold DataW.trod at h
   rw [ht] at h
   split at h <;> simp_all
   obtain ⟨hl, xs, hxs, -⟩ := h
   intro i hi
   obtain ⟨y, hy⟩ := mapM_mem hxs i (by simpa using hi)
   exact shp_of_trod fuel _ _ y hy
  ·trivial

theorem shp_of_Trod {t : TypeId} {v : Value} {d : DataW H} {ps : List MemPlace} (h : DataW.Trod enc P w 0 (fun _ => true) held t v d ps) : ∃ fuel, Shp P w fuel t v.cells.toList := by
 obtain ⟨fuel, hf⟩ := h
 exact ⟨fuel, shp_of_trod fuel t _ _ hf⟩
end

/-! ### By kind -/
section
variable {P : Program} {w : World} {fuel : Nat} {t : TypeId} {cs : List Value}
theorem Shp.int {k : IntKind} (h : Shp P w fuel t cs) (ht : P.underlying t = some (.int k)) : ∃ n, cs = [.int k n] ∧ (Lit.int k n).wf = true := by
 cases fuel with
 | zero => exact h.elim
 | succ f => unfold Shp at h; rw [ht] at h; exact h
theorem Shp.slice {e : TypeId} {sz : Nat} (h : Shp P w fuel t cs) (ht : P.underlying t = some (.slice e)) (hs : P.cellsOf e = sz) (hp : 0 < sz) :
  ∃ f v n, ∃ rows : List (List Value), cs = [v] ∧ n ≤ maxLen ∧ rows.length = n ∧ (∀ r ∈ rows, r.length = sz ∧ Shp P w f e r) ∧ IsSl w sz v n rows.flatten := by
 cases fuel with
 | zero => exact h.elim
 | succ f => unfold Shp at h; rw [ht] at h; subst hs; exact ⟨f, h hp⟩
theorem Shp.struct {fs : Array Field} (h : Shp P w fuel t cs) (ht : P.underlying t = some (.struct fs)) :
  cs.length = P.cellsOf t ∧ ∃ f, ∀ fl ∈ fs.toList, Shp P w f fl.type ((cs.drop fl.offset).take (P.cellsOf fl.type)) := by
 cases fuel with
 | zero => exact h.elim
 | succ f => unfold Shp at h; rw [ht] at h; exact ⟨h.1, f, h.2⟩
theorem Shp.array {n : Nat} {e : TypeId} (h : Shp P w fuel t cs) (ht : P.underlying t = some (.array n e)) :
  cs.length = P.cellsOf t ∧ ∃ f, ∀ i, i < n → Shp P w f e ((cs.drop (i * P.cellsOf e)).take (P.cellsOf e)) := by
 cases fuel with
 | zero => exact h.elim
 | succ f => unfold Shp at h; rw [ht] at h; exact ⟨h.1, f, h.2⟩

theorem u8_cells {n : Int} (h : (Lit.int .u8 n).wf = true) : ∃ b : UInt8, n = (b.toNat : Int) := by
 have e1 : IntKind.u8.min = 0 := rfl
 have e2 : IntKind.u8.max = 255 := rfl
 simp only [Lit.wf, decide_eq_true_eq, Bool.and_eq_true, e1, e2] at h
 refine ⟨UInt8.ofNat n.toNat, ?_⟩
 rw [UInt8.toNat_ofNat']; omega
theorem bytes_of_rows {e : TypeId} {f : Nat} (he : P.underlying e = some (.int .u8)) : ∀ (rows : List (List Value)), (∀ r ∈ rows, r.length = 1 ∧ Shp P w f e r) → ∃ l : List UInt8, rows.flatten = bytesV l ∧ l.length = rows.length
 | [], _ => ⟨[], rfl, rfl⟩
 | r :: rest, h => by
  obtain ⟨l, h1, h2⟩ := bytes_of_rows he rest fun x hx => h x (by simp [hx])
  obtain ⟨n, rfl, hw⟩ := (h r (by simp)).2.int he
  obtain ⟨b, rfl⟩ := u8_cells hw
  exact ⟨b :: l, by simp [h1, bytesV], by simp [h2]⟩
theorem Shp.bytes {e : TypeId} (h : Shp P w fuel t cs) (ht : P.underlying t = some (.slice e)) (he : P.underlying e = some (.int .u8)) (hs : P.cellsOf e = 1) :
  ∃ v, ∃ l : List UInt8, cs = [v] ∧ l.length ≤ maxLen ∧ IsSl w 1 v l.length (bytesV l) := by
 obtain ⟨f, v, n, rows, rfl, hn, hl, hr, hsl⟩ := h.slice ht hs (by decide)
 obtain ⟨l, h1, h2⟩ := bytes_of_rows he rows hr
 rw [h1] at hsl
 exact ⟨v, l, rfl, by omega, by rw [h2, hl]; exact hsl⟩
end
end Go.Rn
end
section
/- What the codec writes. Plain, but for where values lie. -/
set_option maxRecDepth 4000
namespace Go.Cod
open Go.Rn Go.Sha

/-- The digits of a number. -/
def num (u : Nat) : List UInt8 := if u < 128 then [UInt8.ofNat u] else UInt8.ofNat (u % 128 + 128) :: num (u / 128)
termination_by u
decreasing_by omega
theorem num_small {u : Nat} (h : u < 128) : num u = [UInt8.ofNat u] := by rw [num, if_pos h]
theorem num_big {u : Nat} (h : ¬ u < 128) : num u = UInt8.ofNat (u % 128 + 128) :: num (u / 128) := by rw [num, if_neg h]
theorem num_length : ∀ (k u : Nat), u < 128 ^ (k + 1) → (num u).length ≤ k + 1
 | 0, u, h => by rw [num_small (by simpa using h)]; simp
 | k + 1, u, h => by
  by_cases hu : u < 128
  ·rw [num_small hu]; simp
  ·rw [num_big hu, List.length_cons]
   have := num_length k (u / 128) (by rw [Nat.pow_succ] at h; omega)
   omega
theorem num_le (u : Nat) (h : u < 18446744073709551616) : (num u).length ≤ 10 := num_length 9 u (by omega)
/-- The unsigned form of an integer. -/
def zig (n : Int) : Nat := if 0 ≤ n then (2 * n).toNat else (-2 * n - 1).toNat
theorem zig_lt (n : Int) (h : -9223372036854775808 ≤ n ∧ n < 9223372036854775808) : zig n < 18446744073709551616 := by unfold zig; split <;> omega

inductive CV where
 | int (n : Int)
 | text (s : List UInt8)
 | list (l : List CV)

mutual
def CV.enc : CV → List UInt8
 | .int n => 1 :: num (zig n)
 | .text s => 2 :: (num s.length ++ s)
 | .list l => 3 :: (num l.length ++ encs l)
def encs : List CV → List UInt8
 | [] => []
 | c :: r => c.enc ++ encs r
end
mutual
def CV.depth : CV → Nat
 | .int _ => 0
 | .text _ => 0
 | .list l => depths l + 1
def depths : List CV → Nat
 | [] => 0
 | c :: r => max c.depth (depths r)
end
mutual
/-- A value's four cells, and what hangs on them. -/
def CV.In (w : World) : CV → List Value → Prop
 | .int n, cs => (-9223372036854775808 ≤ n ∧ n < 9223372036854775808) ∧ ∃ d, cs = [.int .i64 1, .int .i64 n, .string ⟨#[]⟩, .slice d 0 0]
 | .text s, cs => s.length ≤ 1000000000 ∧ ∃ d, cs = [.int .i64 2, .int .i64 0, .string (strOf s), .slice d 0 0]
 | .list l, cs => l.length ≤ 1000000 ∧ ∃ v rows, cs = [.int .i64 3, .int .i64 0, .string ⟨#[]⟩, v] ∧ IsSl w 4 v l.length rows.flatten ∧ Ins w l rows
def Ins (w : World) : List CV → List (List Value) → Prop
 | [], rows => rows = []
 | c :: l, rows => ∃ r rest, rows = r :: rest ∧ c.In w r ∧ Ins w l rest
end
theorem In.length {w : World} {c : CV} {cs : List Value} (h : c.In w cs) : cs.length = 4 := by
 cases c <;> simp only [CV.In] at h
 ·obtain ⟨_, _, rfl⟩ := h; rfl
 ·obtain ⟨_, _, rfl⟩ := h; rfl
 ·obtain ⟨_, _, _, rfl, _⟩ := h; rfl

mutual
theorem In.ext {w w' : World} (e : Ext w w') : ∀ (c : CV) (cs : List Value), c.In w cs → c.In w' cs
 | .int _, _, h => by simpa only [CV.In] using h
 | .text _, _, h => by simpa only [CV.In] using h
 | .list l, cs, h => by
  simp only [CV.In] at h ⊢
  obtain ⟨h0, v, rows, h1, h2, h3⟩ := h
  exact ⟨h0, v, rows, h1, h2.extE e, Ins.ext e l rows h3⟩
theorem Ins.ext {w w' : World} (e : Ext w w') : ∀ (l : List CV) (rows : List (List Value)), Ins w l rows → Ins w' l rows
 | [], _, h => by simpa only [Ins] using h
 | c :: l, rows, h => by
  simp only [Ins] at h ⊢
  obtain ⟨r, rest, h1, h2, h3⟩ := h
  exact ⟨r, rest, h1, In.ext e c r h2, Ins.ext e l rest h3⟩
end
theorem Ins.get {w : World} : ∀ {l : List CV} {rows : List (List Value)}, Ins w l rows → rows.length = l.length ∧ ∀ (i : Nat) (c : CV), l[i]? = some c → ∃ r, rows[i]? = some r ∧ c.In w r
 | [], rows, h => by simp only [Ins] at h; subst h; exact ⟨rfl, fun i c h => by simp at h⟩
 | c :: l, rows, h => by
  simp only [Ins] at h
  obtain ⟨r, rest, rfl, h2, h3⟩ := h
  obtain ⟨h4, h5⟩ := Ins.get h3
  refine ⟨by simp [h4], fun i c' hi => ?_⟩
  cases i with
  | zero => simp at hi; subst hi; exact ⟨r, rfl, h2⟩
  | succ i => simp at hi; obtain ⟨r', h6, h7⟩ := h5 i c' hi; exact ⟨r', by simpa using h6, h7⟩
theorem Ins.lens {w : World} : ∀ {l : List CV} {rows : List (List Value)}, Ins w l rows → ∀ r ∈ rows, r.length = 4
 | [], rows, h => by simp only [Ins] at h; subst h; simp
 | c :: l, rows, h => by
  simp only [Ins] at h
  obtain ⟨r, rest, rfl, h2, h3⟩ := h
  intro x hx
  rcases List.mem_cons.1 hx with rfl | hx
  ·exact In.length h2
  ·exact Ins.lens h3 x hx
/-- The cells of one element. -/
theorem Ins.row {w : World} {l : List CV} {rows : List (List Value)} (h : Ins w l rows) {i : Nat} {r : List Value} (hr : rows[i]? = some r) {b o : Nat} (hb : Row w b o rows.flatten) : Row w b (o + i * 4) r := by
 have hl := h.lens
 refine hb.window fun j v hv => ?_
 have hj : j < 4 := by
  have := hl r (List.mem_of_getElem? hr)
  rcases Nat.lt_or_ge j 4 with h | h
  ·exact h
  ·rw [List.getElem?_eq_none (by omega)] at hv; simp at hv
 rw [flatten_get rows hl i j hj, hr]; exact hv
theorem encs_append : ∀ (a b : List CV), encs (a ++ b) = encs a ++ encs b
 | [], b => by simp [encs]
 | c :: a, b => by simp only [List.cons_append, encs, encs_append a b, List.append_assoc]
theorem encs_take {l : List CV} {i : Nat} {c : CV} (h : l[i]? = some c) : encs (l.take (i + 1)) = encs (l.take i) ++ c.enc := by
 rw [List.take_add_one, h, encs_append]; simp [encs]
theorem depths_append : ∀ (a b : List CV), depths (a ++ b) = max (depths a) (depths b)
 | [], b => by simp [depths]
 | c :: a, b => by simp only [List.cons_append, depths, depths_append a b]; omega
theorem depths_take {l : List CV} {i : Nat} {c : CV} (h : l[i]? = some c) : depths (l.take (i + 1)) = max (depths (l.take i)) c.depth := by
 rw [List.take_add_one, h, depths_append]; simp [depths]
theorem depth_le : ∀ {l : List CV} {c : CV}, c ∈ l → c.depth ≤ depths l
 | a :: l, c, h => by
  simp only [depths]
  rcases List.mem_cons.1 h with rfl | h
  ·omega
  ·have := depth_le h; omega
theorem encs_le {l : List CV} {c : CV} {i : Nat} (h : l[i]? = some c) : (encs (l.take i)).length + c.enc.length ≤ (encs l).length := by
 have h1 := encs_take h
 have h2 : encs l = encs (l.take (i + 1)) ++ encs (l.drop (i + 1)) := by rw [← encs_append, List.take_append_drop]
 rw [h2, h1]; simp
end Go.Cod
end
section
/- The program's codec: numbers, forms. -/
set_option maxRecDepth 4000
namespace Go.Sg
open Go.Rn Go.Sha Go.Cod Go.Proofs
attribute [local irreducible] Go.Rn.RunL Go.Rn.RunE Go.Rn.Asy Go.Rn.OpV Go.Rn.OpE Go.Rn.ExecE

theorem u8_or128 (u : Nat) : IntKind.u8.wrap ((BitVec.ofInt IntKind.u8.bits ((UInt8.ofNat u).toNat : Int) ||| BitVec.ofInt IntKind.u8.bits 128).toNat : Int) = ((UInt8.ofNat (u % 128 + 128)).toNat : Int) := by
 have h : ∀ n : Fin 256, IntKind.u8.wrap ((BitVec.ofInt IntKind.u8.bits (n.val : Int) ||| BitVec.ofInt IntKind.u8.bits 128).toNat : Int) = ((n.val % 128 + 128 : Nat) : Int) := by decide +kernel
 have := h ⟨(UInt8.ofNat u).toNat, (UInt8.ofNat u).toNat_lt⟩
 simp only at this
 rw [this]
 congr 1
 rw [UInt8.toNat_ofNat', UInt8.toNat_ofNat']; omega

theorem numeral_ok (v : Value) (pre : List UInt8) (u base : Nat) (w : World) (hv : w.ownsRow base 5 1 v pre.length (bytesV pre)) (hu : u < 18446744073709551616) (hp : pre.length ≤ 1000000000000) (hb : base ≤ w.heap.size) :
  Rets Tryz.prog 138 [v, .int .u64 (u : Int)] w fun r w' => w'.ownsRow base 5 1 r (pre ++ num u).length (bytesV (pre ++ num u)) ∧ ExtB (fun k => v.ownBlock = some k) w w' := by
 have hnl := num_le u hu
 refine RetsX.of (nt := 20) Tryz.func138 (by kernel_rfl) rfl rfl (by simp) (by simp only [argEnv]; rfl) ?_
 repeat (first | refine RunL.pure Tryz.tOk rfl rfl rfl ?_ | refine ZzQ ?_ | refine ZzR ?_ | refine ZzN ?_ | refine ZzB ?_)
 refine RunE.loop (ι := Value × Nat × List UInt8) (fun x => [(0, x.1), (1, .int .u64 (x.2.1 : Int))])
  (fun x w' => x.2.1 < 18446744073709551616 ∧ x.2.2 ++ num x.2.1 = pre ++ num u ∧ ExtB (fun k => v.ownBlock = some k) w w' ∧ (∀ k, x.1.ownBlock = some k → k < w.heap.size → v.ownBlock = some k) ∧ w'.ownsRow base 5 1 x.1 x.2.2.length (bytesV x.2.2)) (fun x => x.2.1) (v, u, pre) (by repeat (first | exact Sub.nil _ | refine Sub.cons rfl ?_)) ⟨hu, rfl, .refl _ _, fun _ h _ => h, hv⟩ ?_
 rintro ⟨v1, m, acc⟩ w1 ⟨hm, hacc, X1, N1, O1⟩ again
 simp only at hm hacc N1 O1 again ⊢
 have hal : acc.length ≤ pre.length + 10 := by
  have := congrArg List.length hacc
  rw [List.length_append, List.length_append] at this; omega
 have hb1 : base ≤ w1.heap.size := Nat.le_trans hb X1.size
 repeat (first | refine RunL.pureI Tryz.tOk rfl rfl rfl (by (rfl)) ?_ | refine RunL.pure Tryz.tOk rfl rfl rfl ?_ | refine ZzQ ?_ | refine ZzR ?_ | refine ZzN ?_)
 refine RunE.cond rfl (fun hge => ?_) (fun hge => ?_) <;> (first | replace hge := of_decide_eq_true hge | replace hge := of_decide_eq_false hge)
 ·have hm128 : ¬ m < 128 := by omega
  repeat (first | refine RunL.pureI Tryz.tOk rfl rfl rfl (by (first | exact u8_or128 _ | exact u8_of_nat _ | rfl)) ?_ | refine RunL.pure Tryz.tOk rfl rfl rfl ?_ | refine ZzQ ?_ | refine ZzR ?_ | refine ZzB ?_ | refine ZzK ?_)
  refine RunL.ex rfl rfl rfl (OpE.buildSl Tryz.tOk [.int .u8 ((UInt8.ofNat (m % 128 + 128)).toNat : Int)] rfl rfl rfl rfl rfl rfl (by simp [Value.cells])) ?_
  rintro _ w2 ⟨B, rfl, a2⟩
  have O2 := ownsRow_ext O1 a2.ext (fun _ _ h => h)
  have hB := a2.eq
  have z2 := a2.size
  refine RunL.ex rfl rfl rfl (OpE.append' Tryz.tOk rfl rfl rfl rfl rfl rfl O2 (isSl_added (n := 1) (sz := 1) a2 rfl) rfl (by show _ * 1 ≤ _; omega) (by omega) (by omega)) ?_
  rintro v3 w3 ⟨O3, E3, hnew⟩
  have X3 : ExtB (fun k => v.ownBlock = some k) w w3 := (X1.trans (.of_ext a2.ext)).write E3 (by intro i hi hlt; exact N1 i hi hlt)
  have N3 : ∀ k, v3.ownBlock = some k → k < w.heap.size → v.ownBlock = some k := fun k hk hlt => N1 k (hnew k hk (by have := X1.size; omega)) hlt
  repeat (first | refine RunL.pureI Tryz.tOk rfl rfl rfl (by (first | exact u64_shr _ 7 (by decide) | rfl)) ?_ | refine RunL.pure Tryz.tOk rfl rfl rfl ?_ | refine ZzR ?_ | refine ZzN ?_ | refine ZzI ?_)
  refine RunE.weaken (by repeat (first | exact Sub.nil _ | refine Sub.cons rfl ?_)) (again (v3, m / 128, acc ++ [UInt8.ofNat (m % 128 + 128)]) _ (by simp only; omega) ⟨by simp only; omega, ?_, X3, N3, ?_⟩)
  ·simp only
   rw [← hacc, num_big hm128]; simp
  ·simp only
   rw [List.length_append, bytesV_append]; exact O3
 ·have hm128 : m < 128 := by omega
  clear again
  repeat (first | refine RunL.pureI Tryz.tOk rfl rfl rfl (by (first | exact u8_of_nat _ | rfl)) ?_ | refine RunL.pure Tryz.tOk rfl rfl rfl ?_ | refine ZzQ ?_ | refine ZzR ?_ | refine RunE.exit rfl ?_)
  refine RunL.ex rfl rfl rfl (OpE.buildSl Tryz.tOk [.int .u8 ((UInt8.ofNat m).toNat : Int)] rfl rfl rfl rfl rfl rfl (by simp [Value.cells])) ?_
  rintro _ w2 ⟨B, rfl, a2⟩
  have O2 := ownsRow_ext O1 a2.ext (fun _ _ h => h)
  have z2 := a2.size
  have hB := a2.eq
  refine RunL.ex rfl rfl rfl (OpE.append' Tryz.tOk rfl rfl rfl rfl rfl rfl O2 (isSl_added (n := 1) (sz := 1) a2 rfl) rfl (by show _ * 1 ≤ _; omega) (by omega) (by omega)) ?_
  rintro v3 w3 ⟨O3, E3, hnew⟩
  have X3 : ExtB (fun k => v.ownBlock = some k) w w3 := (X1.trans (.of_ext a2.ext)).write E3 (by intro i hi hlt; exact N1 i hi hlt)
  have N3 : ∀ k, v3.ownBlock = some k → k < w.heap.size → v.ownBlock = some k := fun k hk hlt => N1 k (hnew k hk (by have := X1.size; omega)) hlt
  repeat (first | refine RunL.pure Tryz.tOk rfl rfl rfl ?_ | refine ZzN ?_)
  refine RunE.retFn Tryz.func138 (.tmp rfl .nil) ⟨?_, X3⟩
  simp only [oneOr]
  rw [← hacc, num_small hm128, List.length_append, bytesV_append]
  exact O3

theorem zig_ok (n : Int) (h : -9223372036854775808 ≤ n ∧ n < 9223372036854775808) :
  IntKind.u64.wrap ((BitVec.ofInt IntKind.u64.bits (IntKind.u64.wrap (IntKind.u64.wrap n * 2 ^ (min 1 IntKind.u64.bits))) ^^^ BitVec.ofInt IntKind.u64.bits (IntKind.u64.wrap (n.fdiv (2 ^ (min 63 IntKind.i64.bits))))).toNat : Int) = (zig n : Int) := by
 have e1 : (2 : Int) ^ (min 1 IntKind.u64.bits) = 2 := by decide
 have e2 : (2 : Int) ^ (min 63 IntKind.i64.bits) = 9223372036854775808 := by decide
 have e3 : IntKind.u64.bits = 64 := rfl
 rw [e1, e2, e3]
 simp only [wrap_u64]
 rw [Int.fdiv_eq_ediv_of_nonneg _ (by decide)]
 unfold zig
 by_cases hn : 0 ≤ n
 ·rw [if_pos hn]
  have h1 : n / 9223372036854775808 = 0 := by omega
  have h2 : n % 18446744073709551616 * 2 % 18446744073709551616 = ((2 * n).toNat : Int) := by omega
  rw [h1, h2]
  have h3 : (BitVec.ofInt 64 (0 % 18446744073709551616) : BitVec 64) = 0#64 := by decide
  rw [h3, BitVec.xor_zero, BitVec.ofInt_natCast, BitVec.toNat_ofNat]; omega
 ·rw [if_neg hn]
  have h1 : n / 9223372036854775808 = -1 := by omega
  have h2 : n % 18446744073709551616 * 2 % 18446744073709551616 = ((2 * n + 18446744073709551616).toNat : Int) := by omega
  rw [h1, h2]
  have h3 : (BitVec.ofInt 64 (-1 % 18446744073709551616) : BitVec 64) = BitVec.allOnes 64 := by decide
  rw [h3, BitVec.xor_allOnes, BitVec.ofInt_natCast, BitVec.toNat_not, BitVec.toNat_ofNat]; omega

theorem unsigned_ok (n : Int) (h : -9223372036854775808 ≤ n ∧ n < 9223372036854775808) (w : World) : Rets Tryz.prog 139 [.int .i64 n] w fun v w' => v = .int .u64 (zig n : Int) ∧ w = w' := by
 refine RetsX.of (nt := 10) Tryz.func139 (by kernel_rfl) rfl rfl (by simp) (by simp only [argEnv]; rfl) ?_
 repeat (first | refine RunL.pureI Tryz.tOk rfl rfl rfl (by (first | exact zig_ok n h | rfl)) ?_ | refine ZzQ ?_ | refine ZzR ?_ | refine ZzN ?_)
 exact RunE.retFn Tryz.func139 (.tmp rfl .nil) ⟨rfl, rfl⟩
end Go.Sg
end
section
/- The program's codec: what is well-formed. -/
set_option maxRecDepth 4000
namespace Go.Sg
open Go.Rn Go.Sha Go.Cod Go.Proofs
attribute [local irreducible] Go.Rn.RunL Go.Rn.RunE Go.Rn.Asy Go.Rn.OpV Go.Rn.OpE Go.Rn.ExecE

theorem cells_plain {w : World} {c : CV} {r : List Value} (h : c.In w r) : (Value.agg r.toArray).cells.toList.all plainV = true := by
 show r.all plainV = true
 cases c <;> simp only [CV.In] at h
 ·obtain ⟨_, _, rfl⟩ := h; rfl
 ·obtain ⟨_, _, rfl⟩ := h; rfl
 ·obtain ⟨_, v, rows, rfl, hsl, _⟩ := h
  rcases hsl.inv with ⟨_, rfl, -⟩ | ⟨_, _, _, rfl, -⟩ <;> rfl
theorem max_nat (a b : Nat) : (if (b : Int) > (a : Int) then (b : Int) else (a : Int)) = ((max a b : Nat) : Int) := by split <;> omega
theorem beq_refl_str (s : ByteArray) : (s.toList == s.toList) = true := beq_self_eq_true _

set_option maxRecDepth 4000 in
set_option maxHeartbeats 1000000 in
theorem formed_int (n : Int) (d : Option Addr) (w : World) : Rets Tryz.prog 136 [.agg #[.int .i64 1, .int .i64 n, .string ⟨#[]⟩, .slice d 0 0]] w fun v w' => v = .tuple #[.int .i64 ((CV.int n).depth : Int), .bool true] ∧ Ext w w' := by
 refine RetsX.of (nt := 74) Tryz.func136 (by kernel_rfl) rfl rfl (by simp) (by simp only [argEnv]; rfl) ?_
 repeat (first | refine ZzQ ?_ | refine ZzR ?_)
 refine RunL.box rfl rfl rfl fun B1 w1 a1 => ?_
 have Z1 : Blk w1 B1 [.int .i64 1, .int .i64 n, .string ⟨#[]⟩, .slice d 0 0] 116 := a1.at_
 repeat (first | refine RunL.pureB Tryz.tOk _ rfl rfl rfl (by with_reducible exact beq_refl_str _) ?_ | refine RunL.pureI Tryz.tOk rfl rfl rfl (by (rfl)) ?_ | refine RunL.pure Tryz.tOk rfl rfl rfl ?_ | refine RunL.val rfl rfl rfl (OpV.load1 Tryz.tOk rfl rfl rfl (Blk.cell Z1 rfl)) ?_ | refine ZzQ ?_ | refine ZzR ?_ | refine ZzN ?_)
 cases hb : (n == (0 : Int)) with
 | true =>
  repeat (first | refine RunL.pureB Tryz.tOk _ rfl rfl rfl (by with_reducible exact beq_refl_str _) ?_ | refine RunL.pureB Tryz.tOk _ rfl rfl rfl (by exact hb) ?_ | refine RunL.pureI Tryz.tOk rfl rfl rfl (by (rfl)) ?_ | refine RunL.pure Tryz.tOk rfl rfl rfl ?_ | refine RunL.val rfl rfl rfl (OpV.load1 Tryz.tOk rfl rfl rfl (Blk.cell Z1 rfl)) ?_)
  refine RunL.alloc Tryz.tOk rfl rfl rfl fun B4 w2 a2 => ?_
  have hB1 := a1.eq
  have hB4 := a2.eq
  have z1 := a1.size
  refine RunL.store Tryz.tOk rfl rfl rfl rfl rfl (cs := List.replicate 4 (.bool false)) a2.at_ rfl rfl fun w3 t3 => ?_
  have X3 : Ext w w3 := (a1.ext.trans a2.ext).write t3.ext (by intro i hi hlt; subst hi; omega)
  have U3 := t3.at_
  have Z3 := (Blk.ext Z1 a2.ext id).ext t3.ext (by omega)
  clear a1 a2 t3
  repeat (first | refine RunL.pure Tryz.tOk rfl rfl rfl ?_ | refine RunL.val rfl rfl rfl (OpV.indexAK Tryz.tOk rfl rfl rfl rfl) ?_ | refine RunL.val rfl rfl rfl (OpV.load1 Tryz.tOk rfl rfl rfl (Blk.cell Z3 rfl)) ?_ | refine RunL.val rfl rfl rfl (OpV.load1 Tryz.tOk rfl rfl rfl (Blk.cell U3 rfl)) ?_ | refine ZzQ ?_ | refine ZzR ?_ | refine ZzN ?_)
  refine ZzF rfl rfl ?_
  repeat (first | refine RunL.pure Tryz.tOk rfl rfl rfl ?_ | refine RunL.val rfl rfl rfl (OpV.load1 Tryz.tOk rfl rfl rfl (Blk.cell Z3 rfl)) ?_ | refine ZzQ ?_ | refine ZzR ?_ | refine ZzN ?_ | refine ZzK ?_)
  refine ZzT rfl rfl ?_
  repeat (first | refine RunL.pureI Tryz.tOk rfl rfl rfl (by (rfl)) ?_ | refine RunL.pure Tryz.tOk rfl rfl rfl ?_ | refine ZzQ ?_ | refine ZzR ?_ | refine ZzN ?_)
  exact RunE.retFn Tryz.func136 (.tmp rfl (.tmp rfl .nil)) ⟨by simp [oneOr, CV.depth], X3⟩
 | false =>
  repeat (first | refine RunL.pureB Tryz.tOk _ rfl rfl rfl (by exact hb) ?_ | refine RunL.pure Tryz.tOk rfl rfl rfl ?_ | refine RunL.unwantedD rfl rfl ?_ | refine RunL.val rfl rfl rfl (OpV.load1 Tryz.tOk rfl rfl rfl (Blk.cell Z1 rfl)) ?_)
  refine RunL.alloc Tryz.tOk rfl rfl rfl fun B4 w2 a2 => ?_
  have hB1 := a1.eq
  have hB4 := a2.eq
  have z1 := a1.size
  refine RunL.store Tryz.tOk rfl rfl rfl rfl rfl (cs := List.replicate 4 (.bool false)) a2.at_ rfl rfl fun w3 t3 => ?_
  have X3 : Ext w w3 := (a1.ext.trans a2.ext).write t3.ext (by intro i hi hlt; subst hi; omega)
  have U3 := t3.at_
  have Z3 := (Blk.ext Z1 a2.ext id).ext t3.ext (by omega)
  clear a1 a2 t3
  repeat (first | refine RunL.pure Tryz.tOk rfl rfl rfl ?_ | refine RunL.val rfl rfl rfl (OpV.indexAK Tryz.tOk rfl rfl rfl rfl) ?_ | refine RunL.val rfl rfl rfl (OpV.load1 Tryz.tOk rfl rfl rfl (Blk.cell Z3 rfl)) ?_ | refine RunL.val rfl rfl rfl (OpV.load1 Tryz.tOk rfl rfl rfl (Blk.cell U3 rfl)) ?_ | refine ZzQ ?_ | refine ZzR ?_ | refine ZzN ?_)
  refine ZzF rfl rfl ?_
  repeat (first | refine RunL.pure Tryz.tOk rfl rfl rfl ?_ | refine RunL.val rfl rfl rfl (OpV.load1 Tryz.tOk rfl rfl rfl (Blk.cell Z3 rfl)) ?_ | refine ZzQ ?_ | refine ZzR ?_ | refine ZzN ?_ | refine ZzK ?_)
  refine ZzT rfl rfl ?_
  repeat (first | refine RunL.pureI Tryz.tOk rfl rfl rfl (by (rfl)) ?_ | refine RunL.pure Tryz.tOk rfl rfl rfl ?_ | refine ZzQ ?_ | refine ZzR ?_ | refine ZzN ?_)
  exact RunE.retFn Tryz.func136 (.tmp rfl (.tmp rfl .nil)) ⟨by simp [oneOr, CV.depth], X3⟩

set_option maxRecDepth 4000 in
set_option maxHeartbeats 1000000 in
theorem formed_text (s : ByteArray) (d : Option Addr) (w : World) : Rets Tryz.prog 136 [.agg #[.int .i64 2, .int .i64 0, .string s, .slice d 0 0]] w fun v w' => v = .tuple #[.int .i64 0, .bool true] ∧ Ext w w' := by
 refine RetsX.of (nt := 74) Tryz.func136 (by kernel_rfl) rfl rfl (by simp) (by simp only [argEnv]; rfl) ?_
 repeat (first | refine ZzQ ?_ | refine ZzR ?_)
 refine RunL.box rfl rfl rfl fun B1 w1 a1 => ?_
 have Z1 : Blk w1 B1 [.int .i64 2, .int .i64 0, .string s, .slice d 0 0] 116 := a1.at_
 repeat (first | refine RunL.pureI Tryz.tOk rfl rfl rfl (by (rfl)) ?_ | refine RunL.pure Tryz.tOk rfl rfl rfl ?_ | refine RunL.val rfl rfl rfl (OpV.load1 Tryz.tOk rfl rfl rfl (Blk.cell Z1 rfl)) ?_ | refine ZzQ ?_ | refine ZzR ?_ | refine ZzN ?_)
 cases hb : (s.toList == ByteArray.toList ⟨#[]⟩) with
 | true =>
  repeat (first | refine RunL.pureB Tryz.tOk _ rfl rfl rfl (by exact hb) ?_ | refine RunL.pureI Tryz.tOk rfl rfl rfl (by (rfl)) ?_ | refine RunL.pure Tryz.tOk rfl rfl rfl ?_ | refine RunL.val rfl rfl rfl (OpV.load1 Tryz.tOk rfl rfl rfl (Blk.cell Z1 rfl)) ?_)
  refine RunL.alloc Tryz.tOk rfl rfl rfl fun B4 w2 a2 => ?_
  have hB1 := a1.eq
  have hB4 := a2.eq
  have z1 := a1.size
  refine RunL.store Tryz.tOk rfl rfl rfl rfl rfl (cs := List.replicate 4 (.bool false)) a2.at_ rfl rfl fun w3 t3 => ?_
  have X3 : Ext w w3 := (a1.ext.trans a2.ext).write t3.ext (by intro i hi hlt; subst hi; omega)
  have U3 := t3.at_
  have Z3 := (Blk.ext Z1 a2.ext id).ext t3.ext (by omega)
  clear a1 a2 t3
  repeat (first | refine RunL.pure Tryz.tOk rfl rfl rfl ?_ | refine RunL.val rfl rfl rfl (OpV.indexAK Tryz.tOk rfl rfl rfl rfl) ?_ | refine RunL.val rfl rfl rfl (OpV.load1 Tryz.tOk rfl rfl rfl (Blk.cell Z3 rfl)) ?_ | refine RunL.val rfl rfl rfl (OpV.load1 Tryz.tOk rfl rfl rfl (Blk.cell U3 rfl)) ?_ | refine ZzQ ?_ | refine ZzR ?_ | refine ZzN ?_)
  refine ZzF rfl rfl ?_
  repeat (first | refine RunL.pure Tryz.tOk rfl rfl rfl ?_ | refine RunL.val rfl rfl rfl (OpV.load1 Tryz.tOk rfl rfl rfl (Blk.cell Z3 rfl)) ?_ | refine ZzQ ?_ | refine ZzR ?_ | refine ZzN ?_ | refine ZzK ?_)
  refine ZzT rfl rfl ?_
  repeat (first | refine RunL.pureI Tryz.tOk rfl rfl rfl (by (rfl)) ?_ | refine RunL.pure Tryz.tOk rfl rfl rfl ?_ | refine ZzQ ?_ | refine ZzR ?_ | refine ZzN ?_)
  exact RunE.retFn Tryz.func136 (.tmp rfl (.tmp rfl .nil)) ⟨by simp [oneOr, CV.depth], X3⟩
 | false =>
  repeat (first | refine RunL.pureB Tryz.tOk _ rfl rfl rfl (by exact hb) ?_ | refine RunL.pureI Tryz.tOk rfl rfl rfl (by (rfl)) ?_ | refine RunL.pure Tryz.tOk rfl rfl rfl ?_ | refine RunL.unwantedD rfl rfl ?_ | refine RunL.val rfl rfl rfl (OpV.load1 Tryz.tOk rfl rfl rfl (Blk.cell Z1 rfl)) ?_)
  refine RunL.alloc Tryz.tOk rfl rfl rfl fun B4 w2 a2 => ?_
  have hB1 := a1.eq
  have hB4 := a2.eq
  have z1 := a1.size
  refine RunL.store Tryz.tOk rfl rfl rfl rfl rfl (cs := List.replicate 4 (.bool false)) a2.at_ rfl rfl fun w3 t3 => ?_
  have X3 : Ext w w3 := (a1.ext.trans a2.ext).write t3.ext (by intro i hi hlt; subst hi; omega)
  have U3 := t3.at_
  have Z3 := (Blk.ext Z1 a2.ext id).ext t3.ext (by omega)
  clear a1 a2 t3
  repeat (first | refine RunL.pure Tryz.tOk rfl rfl rfl ?_ | refine RunL.val rfl rfl rfl (OpV.indexAK Tryz.tOk rfl rfl rfl rfl) ?_ | refine RunL.val rfl rfl rfl (OpV.load1 Tryz.tOk rfl rfl rfl (Blk.cell Z3 rfl)) ?_ | refine RunL.val rfl rfl rfl (OpV.load1 Tryz.tOk rfl rfl rfl (Blk.cell U3 rfl)) ?_ | refine ZzQ ?_ | refine ZzR ?_ | refine ZzN ?_)
  refine ZzF rfl rfl ?_
  repeat (first | refine RunL.pure Tryz.tOk rfl rfl rfl ?_ | refine RunL.val rfl rfl rfl (OpV.load1 Tryz.tOk rfl rfl rfl (Blk.cell Z3 rfl)) ?_ | refine ZzQ ?_ | refine ZzR ?_ | refine ZzN ?_ | refine ZzK ?_)
  refine ZzT rfl rfl ?_
  repeat (first | refine RunL.pureI Tryz.tOk rfl rfl rfl (by (rfl)) ?_ | refine RunL.pure Tryz.tOk rfl rfl rfl ?_ | refine ZzQ ?_ | refine ZzR ?_ | refine ZzN ?_)
  exact RunE.retFn Tryz.func136 (.tmp rfl (.tmp rfl .nil)) ⟨by simp [oneOr, CV.depth], X3⟩

set_option maxRecDepth 4000 in
set_option maxHeartbeats 2000000 in
theorem formed_ok : ∀ (c : CV) (cs : List Value) (w : World), c.In w cs → c.depth ≤ 1000 → Rets Tryz.prog 136 [.agg cs.toArray] w fun v w' => v = .tuple #[.int .i64 (c.depth : Int), .bool true] ∧ Ext w w'
 | .int n, cs, w, h, _ => by
  simp only [CV.In] at h
  obtain ⟨hn, d, rfl⟩ := h
  exact formed_int n d w
 | .text s, cs, w, h, _ => by
  simp only [CV.In] at h
  obtain ⟨hn, d, rfl⟩ := h
  exact formed_text _ d w
 | .list l, cs, w, h, hdep => by
  simp only [CV.depth] at hdep
  simp only [CV.In] at h
  obtain ⟨hl, v, rows, rfl, hsl, hin⟩ := h
  obtain ⟨hrl, hget⟩ := hin.get
  refine RetsX.of (nt := 74) Tryz.func136 (by kernel_rfl) rfl rfl (by simp) (by simp only [argEnv]; rfl) ?_
  repeat (first | refine ZzQ ?_ | refine ZzR ?_)
  refine RunL.box rfl rfl rfl fun B1 w1 a1 => ?_
  have Z1 : Blk w1 B1 [.int .i64 3, .int .i64 0, .string ⟨#[]⟩, v] 116 := a1.at_
  repeat (first | refine RunL.pureB Tryz.tOk _ rfl rfl rfl (by with_reducible exact beq_refl_str _) ?_ | refine RunL.pureI Tryz.tOk rfl rfl rfl (by (rfl)) ?_ | refine RunL.pure Tryz.tOk rfl rfl rfl ?_ | refine RunL.val rfl rfl rfl (OpV.load1 Tryz.tOk rfl rfl rfl (Blk.cell Z1 rfl)) ?_ | refine ZzQ ?_ | refine ZzR ?_ | refine ZzN ?_)
  refine RunL.val rfl rfl rfl (OpV.lenSl Tryz.tOk rfl rfl hsl) ?_
  repeat (first | refine RunL.pure Tryz.tOk rfl rfl rfl ?_ | refine RunL.val rfl rfl rfl (OpV.load1 Tryz.tOk rfl rfl rfl (Blk.cell Z1 rfl)) ?_)
  refine RunL.val rfl rfl rfl (OpV.lenSl Tryz.tOk rfl rfl hsl) ?_
  repeat (first | refine RunL.pureB Tryz.tOk _ rfl rfl rfl (by with_reducible exact beq_refl_str _) ?_ | refine RunL.pure Tryz.tOk rfl rfl rfl ?_ | refine RunL.val rfl rfl rfl (OpV.load1 Tryz.tOk rfl rfl rfl (Blk.cell Z1 rfl)) ?_)
  refine RunL.alloc Tryz.tOk rfl rfl rfl fun B4 w2 a2 => ?_
  have hB1 := a1.eq
  have hB4 := a2.eq
  have z1 := a1.size
  refine RunL.store Tryz.tOk rfl rfl rfl rfl rfl (cs := List.replicate 4 (.bool false)) a2.at_ rfl rfl fun w3 t3 => ?_
  have X3 : Ext w w3 := (a1.ext.trans a2.ext).write t3.ext (by intro i hi hlt; subst hi; omega)
  have U3 := t3.at_
  have Z3 := (Blk.ext Z1 a2.ext id).ext t3.ext (by omega)
  clear a1 a2 t3
  repeat (first | refine RunL.pure Tryz.tOk rfl rfl rfl ?_ | refine RunL.val rfl rfl rfl (OpV.indexAK Tryz.tOk rfl rfl rfl rfl) ?_ | refine RunL.val rfl rfl rfl (OpV.load1 Tryz.tOk rfl rfl rfl (Blk.cell Z3 rfl)) ?_ | refine RunL.val rfl rfl rfl (OpV.load1 Tryz.tOk rfl rfl rfl (Blk.cell U3 rfl)) ?_ | refine ZzQ ?_ | refine ZzR ?_ | refine ZzN ?_)
  refine ZzF rfl rfl ?_
  repeat (first | refine RunL.pure Tryz.tOk rfl rfl rfl ?_ | refine RunL.val rfl rfl rfl (OpV.load1 Tryz.tOk rfl rfl rfl (Blk.cell Z3 rfl)) ?_ | refine ZzQ ?_ | refine ZzR ?_ | refine ZzN ?_ | refine ZzK ?_)
  refine ZzF rfl rfl ?_
  repeat (first | refine RunL.pure Tryz.tOk rfl rfl rfl ?_ | refine RunL.val rfl rfl rfl (OpV.load1 Tryz.tOk rfl rfl rfl (Blk.cell Z3 rfl)) ?_ | refine ZzQ ?_ | refine ZzR ?_ | refine ZzK ?_)
  refine RunL.val rfl rfl rfl (OpV.lenSl Tryz.tOk rfl rfl hsl) ?_
  repeat (first | refine RunL.pureI Tryz.tOk rfl rfl rfl (by (rfl)) ?_ | refine ZzN ?_ | refine ZzB ?_)
  refine RunE.loop (ι := Nat) (fun i => [(2, .int .i64 (depths (l.take i) : Int)), (55, v), (56, .int .i64 (l.length : Int)), (57, .int .i64 (i : Int))])
   (fun i w' => i ≤ l.length ∧ Ext w w') (fun i => l.length - i) 0 (by repeat (first | exact Sub.nil _ | refine Sub.cons rfl ?_)) ⟨by omega, X3⟩ ?_
  clear X3 Z3 U3 Z1
  rintro i w4 ⟨hi, X4⟩ again
  repeat (first | refine RunL.pure Tryz.tOk rfl rfl rfl ?_ | refine ZzQ ?_ | refine ZzR ?_ | refine ZzN ?_)
  refine RunE.cond rfl (fun hlt => ?_) (fun hlt => ?_) <;> (first | replace hlt := of_decide_eq_true hlt | replace hlt := of_decide_eq_false hlt)
  ·have hi' : i < l.length := by omega
   obtain ⟨c, hc⟩ : ∃ c, l[i]? = some c := ⟨_, List.getElem?_eq_getElem hi'⟩
   obtain ⟨r, hr, hcr⟩ := hget i c hc
   obtain ⟨b, o, cap, rfl, hrow, -, -⟩ := hsl.held (by omega)
   have hr4 := In.length hcr
   repeat (first | refine ZzQ ?_ | refine ZzR ?_ | refine ZzB ?_ | refine ZzK ?_)
   refine RunL.val rfl rfl rfl (OpV.indexS Tryz.tOk i rfl rfl rfl rfl hi') ?_
   refine RunL.val rfl rfl rfl (OpV.loadN (cs := r) Tryz.tOk rfl rfl rfl hr4 ((hin.row hr hrow).extE X4)) ?_
   refine RunL.alloc Tryz.tOk rfl rfl rfl fun B6 w5 a5 => ?_
   refine RunL.store (v := .agg r.toArray) Tryz.tOk rfl rfl rfl rfl (by simpa [Value.cells] using hr4) (cs := [.int .i64 0, .int .i64 0, .string ⟨#[]⟩, .slice none 0 0]) a5.at_ (by simp [Value.cells, hr4]) (cells_plain hcr) fun w6 t6 => ?_
   have hB6 := a5.eq
   have X6 : Ext w w6 := (X4.trans a5.ext).write t6.ext (by intro i hi hlt; subst hi; have := X4.size; omega)
   have Z6 : Blk w6 B6 r 116 := by
    have := t6.at_
    rw [show (Value.agg r.toArray).cells.toList = r from rfl, setAt_all _ _ (by simpa using hr4)] at this
    exact this
   clear a5 t6
   repeat (first | refine ZzQ ?_ | refine ZzR ?_ | refine ZzN ?_)
   refine RunL.val rfl rfl rfl (OpV.loadN (cs := r) Tryz.tOk rfl rfl rfl hr4 Z6.row) ?_
   refine RunL.call rfl rfl rfl (formed_ok c r w6 (In.ext X6 c r hcr) (by have := depth_le (List.mem_of_getElem? hc); omega)) ?_
   rintro _ w7 ⟨rfl, X7⟩
   repeat (first | refine RunL.pureI Tryz.tOk rfl rfl rfl (by (rfl)) ?_ | refine RunL.pure Tryz.tOk rfl rfl rfl ?_ | refine ZzQ ?_ | refine ZzR ?_ | refine ZzN ?_)
   refine ZzF rfl rfl ?_
   repeat (first | refine RunL.pureI Tryz.tOk rfl rfl rfl (by (first | exact max_nat _ _ | exact wr_i64 (by omega) (by omega) | rfl)) ?_ | refine ZzR ?_ | refine ZzN ?_ | refine ZzI ?_ | refine ZzK ?_)
   refine RunE.weaken (by
    refine Sub.cons ?_ (Sub.cons rfl (Sub.cons rfl (Sub.cons rfl (Sub.nil _))))
    rw [depths_take hc]; rfl) (again (i + 1) _ (by omega) ⟨by omega, X6.trans X7⟩)
  ·have hil : i = l.length := by omega
   subst hil
   rw [List.take_length]
   repeat (first | refine RunL.pureI Tryz.tOk rfl rfl rfl (by (first | exact wr_i64 (by omega) (by omega) | rfl)) ?_ | refine RunL.pure Tryz.tOk rfl rfl rfl ?_ | refine ZzQ ?_ | refine ZzR ?_ | refine ZzN ?_ | refine RunE.exit rfl ?_)
   refine RunE.retFn Tryz.func136 (.tmp rfl (.tmp rfl .nil)) ⟨?_, X4⟩
   simp only [oneOr, CV.depth]
   congr 3
termination_by c => SizeOf.sizeOf c
decreasing_by
 have := List.sizeOf_lt_of_mem (List.mem_of_getElem? hc)
 simp only [CV.list.sizeOf_spec]
 omega
end Go.Sg
end
section
/- The program's codec: writing. -/
set_option maxRecDepth 4000
namespace Go.Sg
open Go.Rn Go.Sha Go.Cod Go.Proofs
attribute [local irreducible] Go.Rn.RunL Go.Rn.RunE Go.Rn.Asy Go.Rn.OpV Go.Rn.OpE Go.Rn.ExecE

def fnV (f : FuncId) : Value := .func (.func f) [].toArray [].toArray
def fnC (f : FuncId) (ca : List Value) : Value := .func (.func f) [].toArray ca.toArray
structure WriterAt (w : World) (Bw Bp : Nat) : Prop where
 tab : Blk w Bw [.nilFunc, fnV 137, fnV 140, fnC 141 [.pointer (some ⟨Bp, 0, none⟩)]] 176
 ptr : Blk w Bp [.pointer (some ⟨Bw, 0, none⟩)] 152
theorem WriterAt.ext {S : Nat → Prop} {w w' : World} {Bw Bp : Nat} (h : WriterAt w Bw Bp) (e : ExtB S w w') (h1 : ¬ S Bw) (h2 : ¬ S Bp) : WriterAt w' Bw Bp := ⟨h.tab.ext e h1, h.ptr.ext e h2⟩

theorem newWriter_ok (w : World) : Rets Tryz.prog 112 [] w fun v w' => ∃ Bw Bp, v = .pointer (some ⟨Bw, 0, none⟩) ∧ WriterAt w' Bw Bp ∧ Ext w w' := by
 refine RetsX.of (nt := 18) Tryz.func112 (by kernel_rfl) rfl rfl (by simp) (by simp only [argEnv]; rfl) ?_
 repeat (first | refine RunL.pure Tryz.tOk rfl rfl rfl ?_ | refine ZzQ ?_ | refine ZzR ?_ | refine ZzN ?_)
 refine RunL.box rfl rfl rfl fun Bw w1 a1 => ?_
 refine RunL.alloc Tryz.tOk rfl rfl rfl fun Bp w2 a2 => ?_
 refine RunL.store Tryz.tOk rfl rfl rfl rfl rfl (cs := [.pointer none]) a2.at_ rfl rfl fun w3 t3 => ?_
 have hBw := a1.eq
 have hBp := a2.eq
 have z1 := a1.size
 have X3 : Ext w w3 := (a1.ext.trans a2.ext).write t3.ext (by intro i hi hlt; subst hi; omega)
 have P3 : Blk w3 Bp [.pointer (some ⟨Bw, 0, none⟩)] 152 := t3.at_
 have T3 : Blk w3 Bw [.nilFunc, .nilFunc, .nilFunc, .nilFunc] 176 := Blk.ext (Blk.ext (w := w1) (cs := [.nilFunc, .nilFunc, .nilFunc, .nilFunc]) a1.at_ a2.ext id) t3.ext (by omega)
 clear a1 a2 t3
 repeat (first | refine RunL.pure Tryz.tOk rfl rfl rfl ?_ | refine RunL.val rfl rfl rfl (OpV.indexAK Tryz.tOk rfl rfl rfl rfl) ?_ | refine RunL.val rfl rfl rfl (OpV.load1 Tryz.tOk rfl rfl rfl (Blk.cell P3 rfl)) ?_ | refine ZzQ ?_ | refine ZzR ?_ | refine ZzN ?_)
 refine RunL.store Tryz.tOk rfl rfl rfl rfl rfl T3 rfl rfl fun w4 t4 => ?_
 have X4 : Ext w w4 := X3.write t4.ext (by intro i hi hlt; subst hi; omega)
 have P4 := P3.ext t4.ext (by omega)
 have T4 := t4.at_
 clear T3 P3 X3 t4
 repeat (first | refine RunL.pure Tryz.tOk rfl rfl rfl ?_ | refine RunL.val rfl rfl rfl (OpV.indexAK Tryz.tOk rfl rfl rfl rfl) ?_ | refine RunL.val rfl rfl rfl (OpV.load1 Tryz.tOk rfl rfl rfl (Blk.cell P4 rfl)) ?_ | refine ZzQ ?_ | refine ZzR ?_ | refine ZzN ?_)
 refine RunL.store Tryz.tOk rfl rfl rfl rfl rfl T4 rfl rfl fun w5 t5 => ?_
 have X5 : Ext w w5 := X4.write t5.ext (by intro i hi hlt; subst hi; omega)
 have P5 := P4.ext t5.ext (by omega)
 have T5 := t5.at_
 clear T4 P4 X4 t5
 repeat (first | refine RunL.pure Tryz.tOk rfl rfl rfl ?_ | refine RunL.val rfl rfl rfl (OpV.indexAK Tryz.tOk rfl rfl rfl rfl) ?_ | refine RunL.val rfl rfl rfl (OpV.load1 Tryz.tOk rfl rfl rfl (Blk.cell P5 rfl)) ?_ | refine ZzQ ?_ | refine ZzR ?_ | refine ZzN ?_)
 refine RunL.store Tryz.tOk rfl rfl rfl rfl rfl T5 rfl rfl fun w6 t6 => ?_
 have X6 : Ext w w6 := X5.write t6.ext (by intro i hi hlt; subst hi; omega)
 have P6 := P5.ext t6.ext (by omega)
 have T6 := t6.at_
 clear T5 P5 X5 t6
 repeat (first | refine RunL.pure Tryz.tOk rfl rfl rfl ?_ | refine RunL.val rfl rfl rfl (OpV.load1 Tryz.tOk rfl rfl rfl (Blk.cell P6 rfl)) ?_ | refine ZzQ ?_ | refine ZzR ?_ | refine ZzN ?_)
 exact RunE.retFn Tryz.func112 (.tmp rfl .nil) ⟨Bw, Bp, rfl, ⟨T6, P6⟩, X6⟩

/-- What a writer of a value promises. -/
def Writes (c : CV) (Bw Bp : Nat) (f : Value) : Prop := ∀ (cs : List Value) (w0 w : World) (v : Value) (pre : List UInt8), c.In w0 cs → WriterAt w0 Bw Bp → Ext w0 w → w.ownsRow w0.heap.size 5 1 v pre.length (bytesV pre) →
 pre.length + c.enc.length ≤ 1000000000 → FnV Tryz.prog f [v, .agg cs.toArray] w (fun r w' => w'.ownsRow w0.heap.size 5 1 r (pre ++ c.enc).length (bytesV (pre ++ c.enc)) ∧ Ext w0 w') fun _ _ => False

theorem write_int (n : Int) (Bw Bp : Nat) : Writes (.int n) Bw Bp (fnV 137) := by
 intro cs w0 w v pre h _ X O hlen
 simp only [CV.In] at h
 obtain ⟨hn, d, rfl⟩ := h
 simp only [CV.enc] at hlen
 refine Rets.v (fi := []) (all := [v, .agg #[.int .i64 1, .int .i64 n, .string ⟨#[]⟩, .slice d 0 0]]) ?_ rfl
 refine RetsX.of (nt := 12) Tryz.func137 (by kernel_rfl) rfl rfl (by simp) (by simp only [argEnv]; rfl) ?_
 repeat (first | refine ZzQ ?_ | refine ZzR ?_)
 refine RunL.box rfl rfl rfl fun B3 w1 a1 => ?_
 have Z1 : Blk w1 B3 [.int .i64 1, .int .i64 n, .string ⟨#[]⟩, .slice d 0 0] 116 := a1.at_
 have hB3 := a1.eq
 have z0 := X.size
 have z1 := a1.size
 have X1 := X.trans a1.ext
 have O1 := ownsRow_ext O a1.ext (fun _ _ h => h)
 have hob : ∀ k, v.ownBlock = some k → k < w.heap.size := fun k hk => (O.lt k hk).2
 clear a1
 repeat (first | refine RunL.pure Tryz.tOk rfl rfl rfl ?_ | refine ZzQ ?_ | refine ZzN ?_)
 refine RunE.draw (fun k => v.ownBlock = some k) mix ?_
 intro w2 X2
 have O2 := ownsRow_ext O1 X2 (fun _ _ h => h)
 have Z2 := Z1.ext X2 id
 repeat (first | refine Asy.pure Tryz.tOk rfl rfl rfl ?_)
 refine Asy.pre0 (fun u w' => ∃ B, u = .slice (some ⟨B, 0, none⟩) 1 1 ∧ Blk w' B (bytesV [1]) 5) rfl rfl rfl rfl (fun u w' w'' _ e h => ?_) (fun w' _ => ?_) ?_
 ·obtain ⟨B, h1, h2⟩ := h; exact ⟨B, h1, h2.ext e id⟩
 ·refine OpE.mono (OpE.buildSl Tryz.tOk [.int .u8 1] rfl rfl rfl rfl rfl rfl (by simp [Value.cells])) ?_ fun _ _ h => h
  rintro _ w'' ⟨B, rfl, a⟩; exact ⟨a.ext, B, rfl, a.at_⟩
 refine Asy.wriP 0 (fun u w' => w'.ownsRow w0.heap.size 5 1 u (pre.length + 1) (bytesV pre ++ bytesV [1]) ∧ ∀ k, u.ownBlock = some k → k < w2.heap.size → v.ownBlock = some k) rfl rfl rfl rfl rfl rfl (fun u w' w'' _ e h => ⟨ownsRow_ext h.1 e (fun _ _ h => h), h.2⟩) (fun w' x e hx => ?_) ?_
 ·obtain ⟨B, rfl, hB⟩ := hx
  have hz := X1.size
  have hz2 := X2.size
  have hz3 := e.size
  refine OpE.mono (OpE.append' Tryz.tOk rfl rfl rfl rfl rfl rfl (ownsRow_ext O2 e (fun _ _ h => h)) (.row hB.row rfl (Nat.le_refl 1)) rfl (by show _ * 1 ≤ _; omega) (by omega) (by omega)) ?_ fun _ _ h => h
  rintro u w'' ⟨h1, h2, h3⟩
  exact ⟨h2, h1, fun k hk hlt => h3 k hk (by omega)⟩
 repeat (first | refine Asy.pure Tryz.tOk rfl rfl rfl ?_)
 refine Asy.v rfl rfl rfl rfl (fun w' X' => OpV.load1 Tryz.tOk rfl rfl rfl (Blk.cell (Z2.ext X' (by intro hh; have := hob _ hh; omega)) rfl)) ?_
 refine Asy.val rfl rfl rfl rfl (fun _ _ => OpE.keep (OpE.call rfl (unsigned_ok n hn _))) ?_
 refine Asy.tailW (by kernel_rfl) ?_
 rintro w3 x E3 ⟨O3, N3⟩
 simp only [satsAll]
 have hl1 : (bytesV pre ++ bytesV [1]) = bytesV (pre ++ [1]) := by rw [bytesV_append]
 rw [hl1] at O3
 have hz := X1.size
 have hz2 := X2.size
 have hz3 := E3.size
 have Y3 : Ext w0 w3 := (X1.trans X2).write E3 (by intro i hi hlt; have := ownsRow_ge O hi; omega)
 refine RunL.call rfl rfl rfl (numeral_ok x (pre ++ [1]) (zig n) w0.heap.size w3 (by simpa using O3) (zig_lt n hn) (by simp; omega) (by omega)) ?_
 rintro r w4 ⟨O4, E4⟩
 have Y4 : Ext w0 w4 := Y3.write E4 (by intro i hi hlt; have := ownsRow_ge O3 hi; omega)
 repeat (first | refine RunL.pure Tryz.tOk rfl rfl rfl ?_ | refine ZzN ?_)
 refine RunE.retFn Tryz.func137 (.tmp rfl .nil) ⟨?_, Y4⟩
 simp only [CV.enc, oneOr]
 simpa using O4

theorem write_text (t : List UInt8) (Bw Bp : Nat) : Writes (.text t) Bw Bp (fnV 140) := by
 intro cs w0 w v pre h _ X O hlen
 simp only [CV.In] at h
 obtain ⟨hn, d, rfl⟩ := h
 simp only [CV.enc] at hlen
 have hst : (strOf t).data.toList = t := by simp [strOf]
 have hsz : (strOf t).size = t.length := rfl
 refine Rets.v (fi := []) (all := [v, .agg #[.int .i64 2, .int .i64 0, .string (strOf t), .slice d 0 0]]) ?_ rfl
 refine RetsX.of (nt := 16) Tryz.func140 (by kernel_rfl) rfl rfl (by simp) (by simp only [argEnv]; rfl) ?_
 repeat (first | refine ZzQ ?_ | refine ZzR ?_)
 refine RunL.box rfl rfl rfl fun B3 w1 a1 => ?_
 have Z1 : Blk w1 B3 [.int .i64 2, .int .i64 0, .string (strOf t), .slice d 0 0] 116 := a1.at_
 have hB3 := a1.eq
 have z0 := X.size
 have z1 := a1.size
 have X1 := X.trans a1.ext
 have O1 := ownsRow_ext O a1.ext (fun _ _ h => h)
 have hob : ∀ k, v.ownBlock = some k → k < w.heap.size := fun k hk => (O.lt k hk).2
 clear a1
 repeat (first | refine RunL.pure Tryz.tOk rfl rfl rfl ?_ | refine ZzQ ?_ | refine ZzN ?_)
 refine RunE.draw (fun k => v.ownBlock = some k ∨ w1.heap.size ≤ k) mix ?_
 intro w2 X2
 have hz2 := X2.size
 have O2 := ownsRow_ext O1 X2 (fun _ _ h => h)
 have Z2 := Z1.ext X2 id
 have hS3 : ¬ (v.ownBlock = some B3 ∨ w1.heap.size ≤ B3) := by
  rintro (h | h)
  ·have := hob _ h; omega
  ·omega
 repeat (first | refine Asy.pure Tryz.tOk rfl rfl rfl ?_)
 refine Asy.pre0 (fun u w' => ∃ B, u = .slice (some ⟨B, 0, none⟩) 1 1 ∧ Blk w' B (bytesV [2]) 5) rfl rfl rfl rfl (fun u w' w'' _ e h => ?_) (fun w' _ => ?_) ?_
 ·obtain ⟨B, h1, h2⟩ := h; exact ⟨B, h1, h2.ext e id⟩
 ·refine OpE.mono (OpE.buildSl Tryz.tOk [.int .u8 2] rfl rfl rfl rfl rfl rfl (by simp [Value.cells])) ?_ fun _ _ h => h
  rintro _ w'' ⟨B, rfl, a⟩; exact ⟨a.ext, B, rfl, a.at_⟩
 refine Asy.wriP 0 (fun u w' => w'.ownsRow w0.heap.size 5 1 u (pre ++ [2]).length (bytesV (pre ++ [2])) ∧ ∀ k, u.ownBlock = some k → v.ownBlock = some k ∨ w1.heap.size ≤ k) rfl rfl rfl rfl rfl rfl (fun u w' w'' _ e h => ⟨ownsRow_ext h.1 e (fun _ _ h => h), h.2⟩) (fun w' x e hx => ?_) ?_
 ·obtain ⟨B, rfl, hB⟩ := hx
  have hz := X1.size
  have hz3 := e.size
  refine OpE.mono (OpE.append' Tryz.tOk rfl rfl rfl rfl rfl rfl (ownsRow_ext O2 e (fun _ _ h => h)) (.row hB.row rfl (Nat.le_refl 1)) rfl (by show _ * 1 ≤ _; omega) (by omega) (by omega)) ?_ fun _ _ h => h
  rintro u w'' ⟨h1, h2, h3⟩
  refine ⟨h2.mono fun k _ hk => .inl hk, ?_, fun k hk => ?_⟩
  ·rw [List.length_append, bytesV_append]; exact h1
  ·by_cases hlt : k < w'.heap.size
   ·exact .inl (h3 k hk hlt)
   ·exact .inr (by omega)
 repeat (first | refine Asy.pure Tryz.tOk rfl rfl rfl ?_)
 refine Asy.v rfl rfl rfl rfl (fun w' X' => OpV.load1 Tryz.tOk rfl rfl rfl (Blk.cell (Z2.ext X' hS3) rfl)) ?_
 repeat (first | refine Asy.pureI Tryz.tOk rfl rfl rfl (by (first | exact u64_nat _ (by omega) | rfl)) ?_)
 refine Asy.wri1 (fun u w' => w'.ownsRow w0.heap.size 5 1 u ((pre ++ [2]) ++ num (strOf t).size).length (bytesV ((pre ++ [2]) ++ num (strOf t).size))) rfl rfl rfl rfl rfl (fun u w' w'' _ e h => ownsRow_ext h e (fun _ _ h => h)) (fun w' x e hx => ?_) ?_
 ·obtain ⟨O3, N3⟩ := hx
  have hz := X1.size
  have hz3 := e.size
  refine OpE.mono (OpE.call rfl (numeral_ok x (pre ++ [2]) (strOf t).size w0.heap.size w' O3 (by omega) (by simp; omega) (by omega))) ?_ fun _ _ h => h
  rintro u w'' ⟨h1, h2⟩
  exact ⟨h2.mono fun k _ hk => N3 k hk, h1⟩
 repeat (first | refine Asy.pure Tryz.tOk rfl rfl rfl ?_)
 refine Asy.v rfl rfl rfl rfl (fun w' X' => OpV.load1 Tryz.tOk rfl rfl rfl (Blk.cell (Z2.ext X' hS3) rfl)) ?_
 refine Asy.tailW (by kernel_rfl) ?_
 rintro w3 x E3 O3
 simp only [satsAll]
 have hz := X1.size
 have hz3 := E3.size
 have Y3 : Ext w0 w3 := (X1.trans X2).write E3 (by
  rintro i (hi | hi) hlt
  ·have := ownsRow_ge O hi; omega
  ·omega)
 have hnl := num_le (strOf t).size (by omega)
 refine RunL.ex rfl rfl rfl (OpE.appendStr Tryz.tOk (by kernel_rfl) rfl rfl rfl rfl rfl O3 (by simp; omega) (by omega)) ?_
 rintro r w4 ⟨O4, E4⟩
 have Y4 : Ext w0 w4 := Y3.write E4 (by intro i hi hlt; have := ownsRow_ge O3 hi; omega)
 repeat (first | refine RunL.pure Tryz.tOk rfl rfl rfl ?_ | refine ZzN ?_)
 refine RunE.retFn Tryz.func140 (.tmp rfl .nil) ⟨?_, Y4⟩
 simp only [CV.enc, oneOr]
 rw [← bytesV_append, hst, hsz] at O4
 have e : pre ++ [2] ++ num t.length ++ t = pre ++ 2 :: (num t.length ++ t) := by simp
 have e2 : (pre ++ [2] ++ num t.length).length + t.length = (pre ++ [2] ++ num t.length ++ t).length := by simp only [List.length_append]
 rw [e2, e] at O4
 exact O4

def kind : CV → Nat
 | .int _ => 1
 | .text _ => 2
 | .list _ => 3
def writerFn (Bp : Nat) : CV → Value
 | .int _ => fnV 137
 | .text _ => fnV 140
 | .list _ => fnC 141 [.pointer (some ⟨Bp, 0, none⟩)]
theorem kind_lt (c : CV) : kind c < 4 := by cases c <;> simp [kind]
theorem kind_cell {w : World} {c : CV} {r : List Value} (h : c.In w r) : r[0]? = some (.int .i64 (kind c : Int)) := by
 cases c <;> simp only [CV.In] at h
 ·obtain ⟨_, _, rfl⟩ := h; rfl
 ·obtain ⟨_, _, rfl⟩ := h; rfl
 ·obtain ⟨_, _, _, rfl, _⟩ := h; rfl
theorem kind_fn (c : CV) (Bp : Nat) : [.nilFunc, fnV 137, fnV 140, fnC 141 [.pointer (some ⟨Bp, 0, none⟩)]][kind c]? = some (writerFn Bp c) := by cases c <;> rfl

set_option maxHeartbeats 1000000 in
theorem write_list (l : List CV) (Bw Bp : Nat) (ih : ∀ c ∈ l, Writes c Bw Bp (writerFn Bp c)) : Writes (.list l) Bw Bp (fnC 141 [.pointer (some ⟨Bp, 0, none⟩)]) := by
 intro cs w0 w v pre h W0 X O hlen
 simp only [CV.In] at h
 obtain ⟨hn, sv, rows, rfl, hsl, hin⟩ := h
 obtain ⟨hrl, hget⟩ := hin.get
 simp only [CV.enc, List.length_cons, List.length_append] at hlen
 refine RetsX.v (fi := []) (args := [v, .agg #[.int .i64 3, .int .i64 0, .string ⟨#[]⟩, sv]]) (ca := [.pointer (some ⟨Bp, 0, none⟩)]) ?_
 show RetsX Tryz.prog 141 [v, .agg #[.int .i64 3, .int .i64 0, .string ⟨#[]⟩, sv], .pointer (some ⟨Bp, 0, none⟩)] w _ _
 refine RetsX.of (nt := 35) Tryz.func141 (by kernel_rfl) rfl rfl (by simp) (by simp only [argEnv]; rfl) ?_
 repeat (first | refine ZzQ ?_ | refine ZzR ?_)
 refine RunL.box rfl rfl rfl fun B4 w1 a1 => ?_
 have Z1 : Blk w1 B4 [.int .i64 3, .int .i64 0, .string ⟨#[]⟩, sv] 116 := a1.at_
 have hB4 := a1.eq
 have z0 := X.size
 have z1 := a1.size
 have X1 := X.trans a1.ext
 have O1 := ownsRow_ext O a1.ext (fun _ _ h => h)
 have hob : ∀ k, v.ownBlock = some k → k < w.heap.size := fun k hk => (O.lt k hk).2
 clear a1
 repeat (first | refine RunL.pure Tryz.tOk rfl rfl rfl ?_ | refine ZzQ ?_ | refine ZzN ?_)
 refine RunE.draw (fun k => v.ownBlock = some k) mix ?_
 intro w2 X2
 have O2 := ownsRow_ext O1 X2 (fun _ _ h => h)
 have Z2 := Z1.ext X2 id
 have hz2 := X2.size
 repeat (first | refine Asy.pure Tryz.tOk rfl rfl rfl ?_)
 refine Asy.pre0 (fun u w' => ∃ B, u = .slice (some ⟨B, 0, none⟩) 1 1 ∧ Blk w' B (bytesV [3]) 5) rfl rfl rfl rfl (fun u w' w'' _ e h => ?_) (fun w' _ => ?_) ?_
 ·obtain ⟨B, h1, h2⟩ := h; exact ⟨B, h1, h2.ext e id⟩
 ·refine OpE.mono (OpE.buildSl Tryz.tOk [.int .u8 3] rfl rfl rfl rfl rfl rfl (by simp [Value.cells])) ?_ fun _ _ h => h
  rintro _ w'' ⟨B, rfl, a⟩; exact ⟨a.ext, B, rfl, a.at_⟩
 refine Asy.wriP 0 (fun u w' => w'.ownsRow w0.heap.size 5 1 u (pre ++ [3]).length (bytesV (pre ++ [3])) ∧ ∀ k, u.ownBlock = some k → v.ownBlock = some k ∨ w1.heap.size ≤ k) rfl rfl rfl rfl rfl rfl (fun u w' w'' _ e h => ⟨ownsRow_ext h.1 e (fun _ _ h => h), h.2⟩) (fun w' x e hx => ?_) ?_
 ·obtain ⟨B, rfl, hB⟩ := hx
  have hz := X1.size
  have hz3 := e.size
  refine OpE.mono (OpE.append' Tryz.tOk rfl rfl rfl rfl rfl rfl (ownsRow_ext O2 e (fun _ _ h => h)) (.row hB.row rfl (Nat.le_refl 1)) rfl (by show _ * 1 ≤ _; omega) (by omega) (by omega)) ?_ fun _ _ h => h
  rintro u w'' ⟨h1, h2, h3⟩
  refine ⟨h2, ?_, fun k hk => ?_⟩
  ·rw [List.length_append, bytesV_append]; exact h1
  ·by_cases hlt : k < w'.heap.size
   ·exact .inl (h3 k hk hlt)
   ·exact .inr (by omega)
 repeat (first | refine Asy.pure Tryz.tOk rfl rfl rfl ?_)
 refine Asy.v rfl rfl rfl rfl (fun w' X' => OpV.load1 Tryz.tOk rfl rfl rfl (Blk.cell (Z2.ext X' (by intro hh; have := hob _ hh; omega)) rfl)) ?_
 refine Asy.v rfl rfl rfl rfl (fun w' X' => OpV.lenSl Tryz.tOk rfl rfl hsl) ?_
 repeat (first | refine Asy.pureI Tryz.tOk rfl rfl rfl (by (first | exact u64_nat _ (by omega) | rfl)) ?_)
 refine Asy.tailW (by kernel_rfl) ?_
 rintro w3 x E3 ⟨O3, N3⟩
 simp only [satsAll]
 have hz := X1.size
 have hz3 := E3.size
 have Y3 : Ext w0 w3 := (X1.trans X2).write E3 (by intro i hi hlt; have := ownsRow_ge O hi; omega)
 have Z3 := Z2.ext E3 (by intro hh; have := hob _ hh; omega)
 refine RunL.call rfl rfl rfl (numeral_ok x (pre ++ [3]) l.length w0.heap.size w3 O3 (by omega) (by simp; omega) (by omega)) ?_
 rintro r w4 ⟨O4, E4⟩
 have Y4 : Ext w0 w4 := Y3.write E4 (by intro i hi hlt; have := ownsRow_ge O3 hi; omega)
 have Z4 := Z3.ext E4 (by
  intro hh
  rcases N3 _ hh with h | h
  ·have := hob _ h; omega
  ·omega)
 repeat (first | refine RunL.pure Tryz.tOk rfl rfl rfl ?_ | refine RunL.val rfl rfl rfl (OpV.load1 Tryz.tOk rfl rfl rfl (Blk.cell Z4 rfl)) ?_ | refine ZzQ ?_ | refine ZzR ?_ | refine ZzN ?_)
 refine RunL.val rfl rfl rfl (OpV.lenSl Tryz.tOk rfl rfl hsl) ?_
 repeat (first | refine RunL.pureI Tryz.tOk rfl rfl rfl (by (rfl)) ?_ | refine ZzN ?_ | refine ZzB ?_)
 have O4' : w4.ownsRow w0.heap.size 5 1 r (pre ++ 3 :: (num l.length ++ encs (l.take 0))).length (bytesV (pre ++ 3 :: (num l.length ++ encs (l.take 0)))) := by simpa [encs] using O4
 refine RunE.loop (ι := Nat × Value) (fun x => [(0, x.2), (2, .pointer (some ⟨Bp, 0, none⟩)), (17, sv), (18, .int .i64 (l.length : Int)), (19, .int .i64 (x.1 : Int))])
  (fun x w' => x.1 ≤ l.length ∧ Ext w0 w' ∧ w'.ownsRow w0.heap.size 5 1 x.2 (pre ++ 3 :: (num l.length ++ encs (l.take x.1))).length (bytesV (pre ++ 3 :: (num l.length ++ encs (l.take x.1))))) (fun x => l.length - x.1) (0, r) (by repeat (first | exact Sub.nil _ | refine Sub.cons rfl ?_)) ⟨by simp, Y4, O4'⟩ ?_
 clear O4 O4' Y4 Z4 E4 Y3 Z3 O3 E3 N3
 rintro ⟨i, u⟩ w5 ⟨hi, X5, O5⟩ again
 simp only at hi O5 again ⊢
 repeat (first | refine RunL.pure Tryz.tOk rfl rfl rfl ?_ | refine ZzQ ?_ | refine ZzR ?_ | refine ZzN ?_)
 refine RunE.cond rfl (fun hlt => ?_) (fun hlt => ?_) <;> (first | replace hlt := of_decide_eq_true hlt | replace hlt := of_decide_eq_false hlt)
 ·have hi' : i < l.length := by omega
  obtain ⟨c, hc⟩ : ∃ c, l[i]? = some c := ⟨_, List.getElem?_eq_getElem hi'⟩
  obtain ⟨q, hq, hcq⟩ := hget i c hc
  obtain ⟨b, o, cap, rfl, hrow, -, -⟩ := hsl.held (by omega)
  have hq4 := In.length hcq
  have hle := encs_le hc
  repeat (first | refine ZzQ ?_ | refine ZzR ?_ | refine ZzB ?_ | refine ZzK ?_)
  refine RunL.val rfl rfl rfl (OpV.indexS Tryz.tOk i rfl rfl rfl rfl hi') ?_
  refine RunL.val rfl rfl rfl (OpV.loadN (cs := q) Tryz.tOk rfl rfl rfl hq4 ((hin.row hq hrow).extE X5)) ?_
  refine RunL.alloc Tryz.tOk rfl rfl rfl fun B7 w6 a6 => ?_
  refine RunL.store (v := .agg q.toArray) Tryz.tOk rfl rfl rfl rfl (by simpa [Value.cells] using hq4) (cs := [.int .i64 0, .int .i64 0, .string ⟨#[]⟩, .slice none 0 0]) a6.at_ (by simp [Value.cells, hq4]) (cells_plain hcq) fun w7 t7 => ?_
  have hB7 := a6.eq
  have X7 : Ext w0 w7 := (X5.trans a6.ext).write t7.ext (by intro i hi hlt; subst hi; have := X5.size; omega)
  have O7 := ownsRow_ext (ownsRow_ext O5 a6.ext (fun _ _ h => h)) t7.ext (by intro k hk e; have := (O5.lt k hk).2; omega)
  have Z7 : Blk w7 B7 q 116 := by
   have := t7.at_
   rw [show (Value.agg q.toArray).cells.toList = q from rfl, setAt_all _ _ (by simpa using hq4)] at this
   exact this
  clear a6 t7
  repeat (first | refine ZzN ?_)
  refine RunE.draw (fun _ => False) mix ?_
  intro w8 X8
  have X9 := X7.trans X8
  have W8 := W0.ext X9 id id
  have Z8 := Z7.ext X8 id
  refine Asy.v rfl rfl rfl rfl (fun _ X' => OpV.load1 Tryz.tOk rfl rfl rfl (Blk.cell (W8.ptr.ext X' id) rfl)) ?_
  repeat (first | refine Asy.pure Tryz.tOk rfl rfl rfl ?_)
  refine Asy.v rfl rfl rfl rfl (fun _ X' => OpV.load1 (v := .int .i64 (kind c : Int)) Tryz.tOk rfl rfl rfl (Blk.cell (Z8.ext X' id) (kind_cell hcq))) ?_
  repeat (first | refine Asy.pure Tryz.tOk rfl rfl rfl ?_)
  refine Asy.v rfl rfl rfl rfl (fun _ _ => OpV.indexA1 Tryz.tOk (kind c) rfl rfl rfl rfl (kind_lt c)) ?_
  repeat (first | refine Asy.pure Tryz.tOk rfl rfl rfl ?_)
  refine Asy.v rfl rfl rfl rfl (fun _ X' => OpV.load1 (v := writerFn Bp c) Tryz.tOk rfl rfl rfl (Blk.cell (W8.tab.ext X' id) (by rw [Nat.zero_add]; exact kind_fn c Bp))) ?_
  repeat (first | refine Asy.pure Tryz.tOk rfl rfl rfl ?_)
  refine Asy.v rfl rfl rfl rfl (fun _ X' => OpV.loadN (cs := q) Tryz.tOk rfl rfl rfl hq4 (Z8.ext X' id).row) ?_
  refine Asy.tail (by kernel_rfl) ?_
  intro w9 X10
  simp only [satsAll]
  refine RunL.callV (fv := writerFn Bp c) rfl rfl rfl rfl (ih c (List.mem_of_getElem? hc) q w0 w9 u _ hcq W0 (X9.trans X10) (ownsRow_ext O7 (X8.trans X10) (fun _ _ h => h)) (by simp; omega)) (fun _ _ _ h => h.elim) ?_
  rintro u2 w10 ⟨O10, X11⟩
  repeat (first | refine RunL.pureI Tryz.tOk rfl rfl rfl (by (first | exact wr_i64 (by omega) (by omega) | rfl)) ?_ | refine RunL.pure Tryz.tOk rfl rfl rfl ?_ | refine ZzR ?_ | refine ZzN ?_ | refine ZzI ?_)
  refine RunE.weaken (by repeat (first | exact Sub.nil _ | refine Sub.cons rfl ?_)) (again (i + 1, u2) _ (by simp only; omega) ⟨by simp only; omega, X11, ?_⟩)
  simp only
  have e : pre ++ 3 :: (num l.length ++ encs (l.take (i + 1))) = (pre ++ 3 :: (num l.length ++ encs (l.take i))) ++ c.enc := by rw [encs_take hc]; simp
  rw [e]; exact O10
 ·have hil : i = l.length := by omega
  subst hil
  repeat (first | refine RunL.pure Tryz.tOk rfl rfl rfl ?_ | refine ZzQ ?_ | refine ZzR ?_ | refine ZzN ?_ | refine RunE.exit rfl ?_)
  refine RunE.retFn Tryz.func141 (.tmp rfl .nil) ⟨?_, X5⟩
  simp only [oneOr, CV.enc]
  rw [List.take_length] at O5
  exact O5

theorem write_ok (Bw Bp : Nat) : ∀ c : CV, Writes c Bw Bp (writerFn Bp c)
 | .int n => write_int n Bw Bp
 | .text t => write_text t Bw Bp
 | .list l => write_list l Bw Bp fun c _ => write_ok Bw Bp c
end Go.Sg
end
section
/- The program's codec: Check, Encode. -/
set_option maxRecDepth 4000
namespace Go.Sg
open Go.Rn Go.Sha Go.Cod Go.Proofs
attribute [local irreducible] Go.Rn.RunL Go.Rn.RunE Go.Rn.Asy Go.Rn.OpV Go.Rn.OpE Go.Rn.ExecE

theorem check_ok (c : CV) (cs : List Value) (w : World) (h : c.In w cs) (hd : c.depth ≤ 16) : Rets Tryz.prog 111 [.agg cs.toArray] w fun v w' => v = .int .i64 0 ∧ Ext w w' := by
 have h4 := In.length h
 refine RetsX.of (nt := 16) Tryz.func111 (by kernel_rfl) rfl rfl (by simp) (by simp only [argEnv]; rfl) ?_
 repeat (first | refine ZzQ ?_ | refine ZzR ?_)
 refine RunL.box rfl rfl rfl fun B1 w1 a1 => ?_
 have Z1 : Blk w1 B1 cs 116 := a1.at_
 repeat (first | refine RunL.pureI Tryz.tOk rfl rfl rfl (by (rfl)) ?_ | refine ZzQ ?_ | refine ZzR ?_ | refine ZzN ?_)
 refine RunL.val rfl rfl rfl (OpV.loadN (cs := cs) Tryz.tOk rfl rfl rfl h4 Z1.row) ?_
 refine RunL.call rfl rfl rfl (formed_ok c cs w1 (In.ext a1.ext c cs h) (by omega)) ?_
 rintro _ w2 ⟨rfl, X2⟩
 repeat (first | refine RunL.pureI Tryz.tOk rfl rfl rfl (by (rfl)) ?_ | refine RunL.pure Tryz.tOk rfl rfl rfl ?_ | refine ZzQ ?_ | refine ZzR ?_ | refine ZzN ?_ | refine ZzB ?_)
 refine ZzF rfl rfl ?_
 repeat (first | refine RunL.pureI Tryz.tOk rfl rfl rfl (by (rfl)) ?_ | refine RunL.pure Tryz.tOk rfl rfl rfl ?_ | refine ZzQ ?_ | refine ZzR ?_ | refine ZzN ?_)
 refine RunE.condF rfl (decide_eq_false (by omega)) ?_
 repeat (first | refine RunL.pureI Tryz.tOk rfl rfl rfl (by (rfl)) ?_ | refine ZzQ ?_ | refine ZzR ?_ | refine ZzN ?_ | refine ZzI ?_ | refine ZzK ?_)
 exact RunE.retFn Tryz.func111 (.tmp rfl .nil) ⟨rfl, a1.ext.trans X2⟩

theorem encode_ok (c : CV) (cs : List Value) (w : World) (h : c.In w cs) (hd : c.depth ≤ 16) (hl : c.enc.length ≤ 1000000000) :
  Rets Tryz.prog 82 [.agg cs.toArray] w fun v w' => ∃ r, v = .tuple #[r, .int .i64 0] ∧ w'.ownsRow w.heap.size 5 1 r c.enc.length (bytesV c.enc) ∧ Ext w w' := by
 have h4 := In.length h
 refine RetsX.of (nt := 19) Tryz.func82 (by kernel_rfl) rfl rfl (by simp) (by simp only [argEnv]; rfl) ?_
 repeat (first | refine ZzQ ?_ | refine ZzR ?_)
 refine RunL.box rfl rfl rfl fun B1 w1 a1 => ?_
 have Z1 : Blk w1 B1 cs 116 := a1.at_
 have h1 := In.ext a1.ext c cs h
 repeat (first | refine RunL.pureI Tryz.tOk rfl rfl rfl (by (rfl)) ?_ | refine RunL.pure Tryz.tOk rfl rfl rfl ?_ | refine ZzQ ?_ | refine ZzR ?_ | refine ZzN ?_)
 refine RunL.val rfl rfl rfl (OpV.loadN (cs := cs) Tryz.tOk rfl rfl rfl h4 Z1.row) ?_
 refine RunL.call rfl rfl rfl (check_ok c cs w1 h1 hd) ?_
 rintro _ w2 ⟨rfl, X2⟩
 repeat (first | refine RunL.pureI Tryz.tOk rfl rfl rfl (by (rfl)) ?_ | refine RunL.pure Tryz.tOk rfl rfl rfl ?_ | refine ZzQ ?_ | refine ZzR ?_ | refine ZzN ?_)
 refine ZzF rfl rfl ?_
 repeat (first | refine ZzQ ?_ | refine ZzK ?_)
 refine RunE.draw (fun _ => False) mix ?_
 intro w3 X3
 have Y3 := X2.trans X3
 have Z3 := Z1.ext Y3 id
 refine Asy.sat0 (fun u w' => ∃ Bw Bp, u = .pointer (some ⟨Bw, 0, none⟩) ∧ WriterAt w' Bw Bp) rfl rfl rfl rfl (fun u w' w'' _ e h => ?_) (fun w' _ => ?_) ?_
 ·obtain ⟨Bw, Bp, h1, h2⟩ := h; exact ⟨Bw, Bp, h1, h2.ext e id id⟩
 ·refine OpE.mono (OpE.call rfl (newWriter_ok w')) ?_ fun _ _ h => h
  rintro u w'' ⟨Bw, Bp, h1, h2, h3⟩; exact ⟨h3, Bw, Bp, h1, h2⟩
 repeat (first | refine Asy.pure Tryz.tOk rfl rfl rfl ?_)
 refine Asy.v rfl rfl rfl rfl (fun _ X' => OpV.load1 (v := .int .i64 (kind c : Int)) Tryz.tOk rfl rfl rfl (Blk.cell (Z3.ext X' id) (kind_cell h))) ?_
 refine Asy.sat1 0 (fun u w' => ∃ Bw Bp, u = .pointer (some ⟨Bw, 0, none⟩) ∧ WriterAt w' Bw Bp) rfl rfl rfl rfl rfl rfl (fun u w' w'' _ e h => ?_) (fun w' x _ hx => ?_) ?_
 ·obtain ⟨Bw, Bp, h1, h2⟩ := h; exact ⟨Bw, Bp, h1, h2.ext e id id⟩
 ·obtain ⟨Bw, Bp, rfl, h2⟩ := hx
  refine OpE.mono (OpV.e (evalOp_v Tryz.tOk rfl)) ?_ fun _ _ h => h
  rintro u w'' ⟨rfl, rfl⟩; exact ⟨.refl _ _, Bw, Bp, rfl, h2⟩
 refine Asy.sat1 0 (fun u w' => ∃ Bw Bp, u = .pointer (some ⟨Bw, kind c, none⟩) ∧ WriterAt w' Bw Bp) rfl rfl rfl rfl rfl rfl (fun u w' w'' _ e h => ?_) (fun w' x _ hx => ?_) ?_
 ·obtain ⟨Bw, Bp, h1, h2⟩ := h; exact ⟨Bw, Bp, h1, h2.ext e id id⟩
 ·obtain ⟨Bw, Bp, rfl, h2⟩ := hx
  refine OpE.mono (OpV.e (OpV.indexA1 Tryz.tOk (kind c) rfl rfl rfl rfl (kind_lt c))) ?_ fun _ _ h => h
  rintro u w'' ⟨rfl, rfl⟩; exact ⟨.refl _ _, Bw, Bp, by rw [Nat.zero_add], h2⟩
 refine Asy.sat1 0 (fun u w' => ∃ Bw Bp, u = .pointer (some ⟨Bw, kind c, none⟩) ∧ WriterAt w' Bw Bp) rfl rfl rfl rfl rfl rfl (fun u w' w'' _ e h => ?_) (fun w' x _ hx => ?_) ?_
 ·obtain ⟨Bw, Bp, h1, h2⟩ := h; exact ⟨Bw, Bp, h1, h2.ext e id id⟩
 ·obtain ⟨Bw, Bp, rfl, h2⟩ := hx
  refine OpE.mono (OpV.e (evalOp_v Tryz.tOk rfl)) ?_ fun _ _ h => h
  rintro u w'' ⟨rfl, rfl⟩; exact ⟨.refl _ _, Bw, Bp, rfl, h2⟩
 refine Asy.sat1 0 (fun u w' => ∃ Bw Bp, u = writerFn Bp c ∧ WriterAt w' Bw Bp) rfl rfl rfl rfl rfl rfl (fun u w' w'' _ e h => ?_) (fun w' x _ hx => ?_) ?_
 ·obtain ⟨Bw, Bp, h1, h2⟩ := h; exact ⟨Bw, Bp, h1, h2.ext e id id⟩
 ·obtain ⟨Bw, Bp, rfl, h2⟩ := hx
  refine OpE.mono (OpV.e (OpV.load1 (v := writerFn Bp c) Tryz.tOk rfl rfl rfl (Blk.cell h2.tab (kind_fn c Bp)))) ?_ fun _ _ h => h
  rintro u w'' ⟨rfl, rfl⟩; exact ⟨.refl _ _, Bw, Bp, rfl, h2⟩
 refine Asy.v rfl rfl rfl rfl (fun _ X' => OpV.loadN (cs := cs) Tryz.tOk rfl rfl rfl h4 (Z3.ext X' id).row) ?_
 refine Asy.tail (by kernel_rfl) ?_
 intro w4 X4
 simp only [satsAll]
 rintro x ⟨Bw, Bp, rfl, W4⟩ _ _ _ _ _ _ _ _
 have Y4 := (a1.ext.trans Y3).trans X4
 refine RunL.callV (fv := writerFn Bp c) rfl rfl rfl rfl (write_ok Bw Bp c cs w4 w4 (.slice none 0 0) [] (In.ext Y4 c cs h) W4 (.refl _ _) (World.ownsRow_nil _ _ _ _) (by simpa using hl)) (fun _ _ _ h => h.elim) ?_
 rintro r w5 ⟨O5, X5⟩
 repeat (first | refine RunL.pureI Tryz.tOk rfl rfl rfl (by (rfl)) ?_ | refine RunL.pure Tryz.tOk rfl rfl rfl ?_ | refine ZzN ?_)
 refine RunE.retFn Tryz.func82 (.tmp rfl (.tmp rfl .nil)) ⟨r, rfl, ?_, Y4.trans X5⟩
 rw [List.nil_append] at O5
 exact ownsRow_base O5 Y4.size
end Go.Sg
end
section
/- The document's codec: numbers. -/
set_option maxRecDepth 4000
namespace Go.Rn
section
variable {P : Program} {c : Ctx} {k : List Item} {Q : Out → Act → World → Prop} {w0 : World} {n : Nat} {ds : List Deferred} {env : Env} {S : Nat → Prop} {sats pres : List (Nat × Pred)} {ph : Option (Option Nat × Pred)} {mu : List Bool}
variable {l : List Oper} {d : Tmp} {op : Op} {ty : TypeId} {pos : String} {after : Array Edge} {guard : Option (Nat × Bool)} {rest : List Oper}
/-- The first that writes; it reads two values whose laws end with it. -/
theorem Asy.wriPP (i j : Nat) {t s : Nat} {U U' : Pred} (V : Pred) (hi : pres[i]? = some (t, U)) (hl : (Oper.looksAt l.toArray ⟨some d, op, ty, pos, after, guard⟩).contains t = true)
  (hj : pres[j]? = some (s, U')) (hl' : (Oper.looksAt l.toArray ⟨some d, op, ty, pos, after, guard⟩).contains s = true)
  (hw : wantE l env ⟨some d, op, ty, pos, after, guard⟩ = some true) (hdst : Nat.blt d n = true) (hd : isDefer op = false) (hs : isSel op = false)
  (hV : ∀ v w' w'', ExtB S w0 w' → Ext w' w'' → V v w' → V v w'')
  (h : ∀ w' x y, Ext w0 w' → U x w' → U' y w' → OpE P ((t, x) :: (s, y) :: env) w' ⟨some d, op, ty, pos, after, guard⟩ (fun u w'' => ExtB S w' w'' ∧ V u w'') fun _ _ => False)
  (h' : Asy P c n ds S w0 l k Q rest ⟨env.del (some d), sats, some (some d, V), true :: mu, pres⟩) : Asy P c n ds S w0 l k Q (⟨some d, op, ty, pos, after, guard⟩ :: rest) ⟨env, sats, none, mu, pres⟩ :=
 .step (e := .wri V) ⟨hdst, hs, hw, hd, hV, fun w' ρ hx hg hp => h w' _ _ hx (hp rfl t U (List.mem_of_getElem? hi) (by simpa using hl)) (hp rfl s U' (List.mem_of_getElem? hj) (by simpa using hl')) ρ (ev_cons (ev_cons hg.ev rfl) rfl)⟩ h'
end
end Go.Rn
namespace Go.Sg
open Go.Rn Go.Sha Go.Cod Go.Proofs
attribute [local irreducible] Go.Rn.RunL Go.Rn.RunE Go.Rn.Asy Go.Rn.OpV Go.Rn.OpE Go.Rn.ExecE

theorem nat_mod128 (n : Nat) : ((n : Int)).tmod 128 = ((n % 128 : Nat) : Int) := by rw [Int.tmod_eq_emod_of_nonneg (by omega)]; omega
theorem nat_div128 (n : Nat) (h : n < 18446744073709551616) : IntKind.u64.wrap (((n : Int)).tdiv 128) = ((n / 128 : Nat) : Int) := by
 rw [Int.tdiv_eq_ediv_of_nonneg (by omega), wr_u64 (by omega) (by omega)]; omega
theorem nat_add128 (n : Nat) (h : n < 128) : IntKind.u64.wrap ((n : Int) + 128) = ((n + 128 : Nat) : Int) := by
 rw [wr_u64 (by omega) (by omega)]; omega

theorem rnumeral_ok (u : Nat) (w : World) (hu : u < 18446744073709551616) :
  Rets Tryz.prog 151 [.int .u64 (u : Int)] w fun r w' => w'.ownsRow w.heap.size 5 1 r (num u).length (bytesV (num u)) ∧ Ext w w' := by
 refine RetsX.of (nt := 17) Tryz.func151 (by kernel_rfl) rfl rfl (by simp) (by simp only [argEnv]; rfl) ?_
 repeat (first | refine RunL.pureI Tryz.tOk rfl rfl rfl (by (rfl)) ?_ | refine RunL.pure Tryz.tOk rfl rfl rfl ?_ | refine ZzQ ?_ | refine ZzR ?_ | refine ZzN ?_)
 refine RunE.cond rfl (fun hs => ?_) (fun hs => ?_) <;> (first | replace hs := of_decide_eq_true hs | replace hs := of_decide_eq_false hs)
 ·have hu' : u < 128 := by omega
  repeat (first | refine RunL.pureI Tryz.tOk rfl rfl rfl (by (first | exact u8_of_nat _ | rfl)) ?_ | refine ZzQ ?_ | refine ZzR ?_)
  refine RunL.ex rfl rfl rfl (OpE.buildSl Tryz.tOk [.int .u8 ((UInt8.ofNat u).toNat : Int)] rfl rfl rfl rfl rfl rfl (by simp [Value.cells])) ?_
  rintro _ w2 ⟨B, rfl, a2⟩
  repeat (first | refine RunL.pure Tryz.tOk rfl rfl rfl ?_ | refine ZzN ?_)
  refine RunE.retFn Tryz.func151 (.tmp rfl .nil) ⟨?_, a2.ext⟩
  simp only [oneOr]
  rw [num_small hu']
  exact ownsRow_added a2 (by have := a2.eq; omega) rfl (by decide)
 ·have hu' : ¬ u < 128 := by omega
  have hd : u / 128 < 18446744073709551616 := by omega
  repeat (first | refine RunL.pureI Tryz.tOk rfl rfl rfl (by (first | exact nat_mod128 _ | exact nat_add128 _ (by omega) | exact u8_of_nat _ | rfl)) ?_ | refine ZzQ ?_ | refine ZzR ?_ | refine ZzK ?_)
  refine RunL.ex rfl rfl rfl (OpE.buildSl Tryz.tOk [.int .u8 ((UInt8.ofNat (u % 128 + 128)).toNat : Int)] rfl rfl rfl rfl rfl rfl (by simp [Value.cells])) ?_
  rintro _ w2 ⟨B, rfl, a2⟩
  have O2 : w2.ownsRow w.heap.size 5 1 (.slice (some ⟨B, 0, none⟩) 1 1) 1 [.int .u8 ((UInt8.ofNat (u % 128 + 128)).toNat : Int)] := ownsRow_added a2 (by have := a2.eq; omega) rfl (by decide)
  have hB := a2.eq
  have z2 := a2.size
  have X2 := a2.ext
  clear a2
  repeat (first | refine RunL.pureI Tryz.tOk rfl rfl rfl (by (first | exact nat_div128 _ hu | rfl)) ?_)
  refine RunL.call rfl rfl rfl (rnumeral_ok (u / 128) w2 hd) ?_
  rintro r w3 ⟨O3, X3⟩
  have z3 := X3.size
  have hl := num_le (u / 128) hd
  refine RunL.ex rfl rfl rfl (OpE.append' Tryz.tOk rfl rfl rfl rfl rfl rfl (ownsRow_ext O2 X3 (fun _ _ h => h)) (isSl_own O3) (bytesV_plain _) (by show _ * 1 ≤ _; omega) (by omega) (by omega)) ?_
  rintro v4 w4 ⟨O4, E4, -⟩
  repeat (first | refine RunL.pure Tryz.tOk rfl rfl rfl ?_ | refine ZzN ?_)
  refine RunE.retFn Tryz.func151 (.tmp rfl .nil) ⟨?_, (X2.trans X3).write E4 (by intro i hi hlt; have := ownsRow_ge O2 hi; omega)⟩
  simp only [oneOr]
  rw [num_big hu', List.length_cons, Nat.add_comm]
  exact O4
termination_by u
decreasing_by omega

theorem runsigned_ok (n : Int) (w : World) (h : -9223372036854775808 ≤ n ∧ n < 9223372036854775808) : Rets Tryz.prog 152 [.int .i64 n] w fun r w' => r = .int .u64 (zig n : Int) ∧ w' = w := by
 refine RetsX.of (nt := 14) Tryz.func152 (by kernel_rfl) rfl rfl (by simp) (by simp only [argEnv]; rfl) ?_
 repeat (first | refine RunL.pureI Tryz.tOk rfl rfl rfl (by (rfl)) ?_ | refine RunL.pure Tryz.tOk rfl rfl rfl ?_ | refine ZzQ ?_ | refine ZzR ?_ | refine ZzN ?_)
 refine RunE.cond rfl (fun hn => ?_) (fun hn => ?_) <;> (first | replace hn := of_decide_eq_true hn | replace hn := of_decide_eq_false hn)
 ·have hz : (zig n : Int) = 2 * n := by unfold zig; split <;> omega
  repeat (first | refine RunL.pureI Tryz.tOk rfl rfl rfl (by (first | exact wr_u64 (by omega) (by omega) | rfl)) ?_ | refine ZzQ ?_ | refine ZzR ?_ | refine ZzN ?_)
  exact RunE.retFn Tryz.func152 (.tmp rfl .nil) ⟨by simp only [oneOr]; rw [hz], rfl⟩
 ·have hz : (zig n : Int) = 2 * -(n + 1) + 1 := by unfold zig; split <;> omega
  repeat (first | refine RunL.pureI Tryz.tOk rfl rfl rfl (by (first | exact wr_u64 (by omega) (by omega) | exact wr_i64 (by omega) (by omega) | rfl)) ?_ | refine ZzQ ?_ | refine ZzR ?_ | refine ZzN ?_ | refine ZzK ?_)
  exact RunE.retFn Tryz.func152 (.tmp rfl .nil) ⟨by simp only [oneOr]; rw [hz], rfl⟩
end Go.Sg
end
section
/- The document's codec: forms. -/
set_option maxRecDepth 4000
namespace Go.Sg
open Go.Rn Go.Sha Go.Cod Go.Proofs
attribute [local irreducible] Go.Rn.RunL Go.Rn.RunE Go.Rn.Asy Go.Rn.OpV Go.Rn.OpE Go.Rn.ExecE

set_option maxHeartbeats 2000000 in
theorem rformed_ok : ∀ (c : CV) (cs : List Value) (w : World), c.In w cs → Rets Tryz.prog 149 [.agg cs.toArray] w fun v w' => v = .bool true ∧ Ext w w'
 | .int n, cs, w, h => by
  simp only [CV.In] at h
  obtain ⟨hn, d, rfl⟩ := h
  refine RetsX.of (nt := 52) Tryz.func149 (by kernel_rfl) rfl rfl (by simp) (by simp only [argEnv]; rfl) ?_
  repeat (first | refine ZzQ ?_ | refine ZzR ?_)
  refine RunL.box rfl rfl rfl fun B1 w1 a1 => ?_
  have Z1 : Blk w1 B1 [.int .i64 1, .int .i64 n, .string ⟨#[]⟩, .slice d 0 0] 116 := a1.at_
  repeat (first | refine RunL.pure Tryz.tOk rfl rfl rfl ?_ | refine RunL.val rfl rfl rfl (OpV.load1 Tryz.tOk rfl rfl rfl (Blk.cell Z1 rfl)) ?_ | refine ZzQ ?_ | refine ZzR ?_ | refine ZzN ?_ | refine ZzB ?_)
  refine ZzT rfl rfl ?_
  repeat (first | refine RunL.pureB Tryz.tOk _ rfl rfl rfl (by with_reducible exact beq_refl_str _) ?_ | refine RunL.pureI Tryz.tOk rfl rfl rfl (by (rfl)) ?_ | refine RunL.pure Tryz.tOk rfl rfl rfl ?_ | refine RunL.val rfl rfl rfl (OpV.load1 Tryz.tOk rfl rfl rfl (Blk.cell Z1 rfl)) ?_ | refine ZzQ ?_ | refine ZzR ?_ | refine ZzN ?_)
  exact RunE.retFn Tryz.func149 (.tmp rfl .nil) ⟨rfl, a1.ext⟩
 | .text s, cs, w, h => by
  simp only [CV.In] at h
  obtain ⟨hn, d, rfl⟩ := h
  refine RetsX.of (nt := 52) Tryz.func149 (by kernel_rfl) rfl rfl (by simp) (by simp only [argEnv]; rfl) ?_
  repeat (first | refine ZzQ ?_ | refine ZzR ?_)
  refine RunL.box rfl rfl rfl fun B1 w1 a1 => ?_
  have Z1 : Blk w1 B1 [.int .i64 2, .int .i64 0, .string (strOf s), .slice d 0 0] 116 := a1.at_
  repeat (first | refine RunL.pure Tryz.tOk rfl rfl rfl ?_ | refine RunL.val rfl rfl rfl (OpV.load1 Tryz.tOk rfl rfl rfl (Blk.cell Z1 rfl)) ?_ | refine ZzQ ?_ | refine ZzR ?_ | refine ZzN ?_ | refine ZzB ?_)
  refine ZzF rfl rfl ?_
  repeat (first | refine RunL.pure Tryz.tOk rfl rfl rfl ?_ | refine ZzQ ?_ | refine ZzR ?_ | refine ZzN ?_)
  refine ZzT rfl rfl ?_
  repeat (first | refine RunL.pureI Tryz.tOk rfl rfl rfl (by (rfl)) ?_ | refine RunL.pure Tryz.tOk rfl rfl rfl ?_ | refine RunL.val rfl rfl rfl (OpV.load1 Tryz.tOk rfl rfl rfl (Blk.cell Z1 rfl)) ?_ | refine ZzQ ?_ | refine ZzR ?_ | refine ZzN ?_)
  exact RunE.retFn Tryz.func149 (.tmp rfl .nil) ⟨rfl, a1.ext⟩
 | .list l, cs, w, h => by
  simp only [CV.In] at h
  obtain ⟨hl, v, rows, rfl, hsl, hin⟩ := h
  obtain ⟨hrl, hget⟩ := hin.get
  refine RetsX.of (nt := 52) Tryz.func149 (by kernel_rfl) rfl rfl (by simp) (by simp only [argEnv]; rfl) ?_
  repeat (first | refine ZzQ ?_ | refine ZzR ?_)
  refine RunL.box rfl rfl rfl fun B1 w1 a1 => ?_
  have Z1 : Blk w1 B1 [.int .i64 3, .int .i64 0, .string ⟨#[]⟩, v] 116 := a1.at_
  have hB1 := a1.eq
  have X1 := a1.ext
  clear a1
  repeat (first | refine RunL.pure Tryz.tOk rfl rfl rfl ?_ | refine RunL.val rfl rfl rfl (OpV.load1 Tryz.tOk rfl rfl rfl (Blk.cell Z1 rfl)) ?_ | refine ZzQ ?_ | refine ZzR ?_ | refine ZzN ?_ | refine ZzB ?_)
  refine ZzF rfl rfl ?_
  repeat (first | refine RunL.pure Tryz.tOk rfl rfl rfl ?_ | refine ZzQ ?_ | refine ZzR ?_ | refine ZzN ?_)
  refine ZzF rfl rfl ?_
  repeat (first | refine RunL.pure Tryz.tOk rfl rfl rfl ?_ | refine ZzQ ?_ | refine ZzR ?_ | refine ZzN ?_)
  refine ZzT rfl rfl ?_
  repeat (first | refine RunL.pureI Tryz.tOk rfl rfl rfl (by (rfl)) ?_ | refine ZzQ ?_ | refine ZzR ?_ | refine ZzN ?_ | refine ZzB ?_)
  refine RunE.loop (ι := Nat) (fun i => [(1, .pointer (some ⟨B1, 0, none⟩)), (3, .int .i64 (i : Int))])
   (fun i w' => i ≤ l.length ∧ Ext w1 w') (fun i => l.length - i) 0 (by repeat (first | exact Sub.nil _ | refine Sub.cons rfl ?_)) ⟨by omega, .refl _ _⟩ ?_
  rintro i w4 ⟨hi, X4⟩ again
  have Z4 := Z1.ext X4 id
  repeat (first | refine RunL.pureI Tryz.tOk rfl rfl rfl (by (rfl)) ?_ | refine RunL.pure Tryz.tOk rfl rfl rfl ?_ | refine RunL.val rfl rfl rfl (OpV.load1 Tryz.tOk rfl rfl rfl (Blk.cell Z4 rfl)) ?_ | refine ZzQ ?_ | refine ZzR ?_)
  refine RunL.val rfl rfl rfl (OpV.lenSl Tryz.tOk rfl rfl hsl) ?_
  repeat (first | refine RunL.pure Tryz.tOk rfl rfl rfl ?_ | refine ZzN ?_)
  refine RunE.cond rfl (fun hlt => ?_) (fun hlt => ?_) <;> (first | replace hlt := of_decide_eq_true hlt | replace hlt := of_decide_eq_false hlt)
  ·have hi' : i < l.length := by omega
   obtain ⟨c, hc⟩ : ∃ c, l[i]? = some c := ⟨_, List.getElem?_eq_getElem hi'⟩
   obtain ⟨r, hr, hcr⟩ := hget i c hc
   obtain ⟨b, o, cap, rfl, hrow, -, -⟩ := hsl.held (by omega)
   have hr4 := In.length hcr
   repeat (first | refine RunL.pureI Tryz.tOk rfl rfl rfl (by (rfl)) ?_ | refine RunL.pure Tryz.tOk rfl rfl rfl ?_ | refine RunL.val rfl rfl rfl (OpV.load1 Tryz.tOk rfl rfl rfl (Blk.cell Z4 rfl)) ?_ | refine ZzQ ?_ | refine ZzR ?_ | refine ZzB ?_ | refine ZzK ?_)
   refine RunL.val rfl rfl rfl (OpV.indexS Tryz.tOk i rfl rfl rfl rfl hi') ?_
   refine RunL.val rfl rfl rfl (OpV.loadN (cs := r) Tryz.tOk rfl rfl rfl hr4 ((hin.row hr hrow).extE (X1.trans X4))) ?_
   refine RunL.call rfl rfl rfl (rformed_ok c r w4 (In.ext (X1.trans X4) c r hcr)) ?_
   rintro _ w7 ⟨rfl, X7⟩
   repeat (first | refine RunL.pure Tryz.tOk rfl rfl rfl ?_ | refine ZzN ?_)
   refine ZzF rfl rfl ?_
   repeat (first | refine RunL.pureI Tryz.tOk rfl rfl rfl (by (first | exact wr_i64 (by omega) (by omega) | rfl)) ?_ | refine ZzR ?_ | refine ZzN ?_ | refine ZzI ?_ | refine ZzK ?_)
   refine RunE.weaken (by repeat (first | exact Sub.nil _ | refine Sub.cons rfl ?_)) (again (i + 1) _ (by omega) ⟨by omega, X4.trans X7⟩)
  ·repeat (first | refine RunL.pureB Tryz.tOk _ rfl rfl rfl (by with_reducible exact beq_refl_str _) ?_ | refine RunL.pure Tryz.tOk rfl rfl rfl ?_ | refine RunL.val rfl rfl rfl (OpV.load1 Tryz.tOk rfl rfl rfl (Blk.cell Z4 rfl)) ?_ | refine ZzQ ?_ | refine ZzR ?_ | refine ZzN ?_ | refine RunE.exit rfl ?_)
   exact RunE.retFn Tryz.func149 (.tmp rfl .nil) ⟨rfl, X1.trans X4⟩
termination_by c => SizeOf.sizeOf c
decreasing_by
 have := List.sizeOf_lt_of_mem (List.mem_of_getElem? hc)
 simp only [CV.list.sizeOf_spec]
 omega

set_option maxHeartbeats 2000000 in
theorem rdepth_ok : ∀ (c : CV) (cs : List Value) (w : World), c.In w cs → c.depth ≤ 1000 → Rets Tryz.prog 150 [.agg cs.toArray] w fun v w' => v = .int .i64 (c.depth : Int) ∧ Ext w w'
 | .int n, cs, w, h, _ => by
  simp only [CV.In] at h
  obtain ⟨hn, d, rfl⟩ := h
  refine RetsX.of (nt := 25) Tryz.func150 (by kernel_rfl) rfl rfl (by simp) (by simp only [argEnv]; rfl) ?_
  repeat (first | refine ZzQ ?_ | refine ZzR ?_)
  refine RunL.box rfl rfl rfl fun B1 w1 a1 => ?_
  have Z1 : Blk w1 B1 [.int .i64 1, .int .i64 n, .string ⟨#[]⟩, .slice d 0 0] 116 := a1.at_
  repeat (first | refine RunL.pureI Tryz.tOk rfl rfl rfl (by (rfl)) ?_ | refine RunL.pure Tryz.tOk rfl rfl rfl ?_ | refine RunL.val rfl rfl rfl (OpV.load1 Tryz.tOk rfl rfl rfl (Blk.cell Z1 rfl)) ?_ | refine ZzQ ?_ | refine ZzR ?_ | refine ZzN ?_)
  refine ZzT rfl rfl ?_
  repeat (first | refine RunL.pureI Tryz.tOk rfl rfl rfl (by (rfl)) ?_ | refine ZzQ ?_ | refine ZzR ?_ | refine ZzN ?_)
  exact RunE.retFn Tryz.func150 (.tmp rfl .nil) ⟨by simp [oneOr, CV.depth], a1.ext⟩
 | .text s, cs, w, h, _ => by
  simp only [CV.In] at h
  obtain ⟨hn, d, rfl⟩ := h
  refine RetsX.of (nt := 25) Tryz.func150 (by kernel_rfl) rfl rfl (by simp) (by simp only [argEnv]; rfl) ?_
  repeat (first | refine ZzQ ?_ | refine ZzR ?_)
  refine RunL.box rfl rfl rfl fun B1 w1 a1 => ?_
  have Z1 : Blk w1 B1 [.int .i64 2, .int .i64 0, .string (strOf s), .slice d 0 0] 116 := a1.at_
  repeat (first | refine RunL.pureI Tryz.tOk rfl rfl rfl (by (rfl)) ?_ | refine RunL.pure Tryz.tOk rfl rfl rfl ?_ | refine RunL.val rfl rfl rfl (OpV.load1 Tryz.tOk rfl rfl rfl (Blk.cell Z1 rfl)) ?_ | refine ZzQ ?_ | refine ZzR ?_ | refine ZzN ?_)
  refine ZzT rfl rfl ?_
  repeat (first | refine RunL.pureI Tryz.tOk rfl rfl rfl (by (rfl)) ?_ | refine ZzQ ?_ | refine ZzR ?_ | refine ZzN ?_)
  exact RunE.retFn Tryz.func150 (.tmp rfl .nil) ⟨by simp [oneOr, CV.depth], a1.ext⟩
 | .list l, cs, w, h, hdep => by
  simp only [CV.depth] at hdep
  simp only [CV.In] at h
  obtain ⟨hl, v, rows, rfl, hsl, hin⟩ := h
  obtain ⟨hrl, hget⟩ := hin.get
  refine RetsX.of (nt := 25) Tryz.func150 (by kernel_rfl) rfl rfl (by simp) (by simp only [argEnv]; rfl) ?_
  repeat (first | refine ZzQ ?_ | refine ZzR ?_)
  refine RunL.box rfl rfl rfl fun B1 w1 a1 => ?_
  have Z1 : Blk w1 B1 [.int .i64 3, .int .i64 0, .string ⟨#[]⟩, v] 116 := a1.at_
  have hB1 := a1.eq
  have X1 := a1.ext
  clear a1
  repeat (first | refine RunL.pureI Tryz.tOk rfl rfl rfl (by (rfl)) ?_ | refine RunL.pure Tryz.tOk rfl rfl rfl ?_ | refine RunL.val rfl rfl rfl (OpV.load1 Tryz.tOk rfl rfl rfl (Blk.cell Z1 rfl)) ?_ | refine ZzQ ?_ | refine ZzR ?_ | refine ZzN ?_)
  refine ZzF rfl rfl ?_
  repeat (first | refine RunL.pureI Tryz.tOk rfl rfl rfl (by (rfl)) ?_ | refine ZzQ ?_ | refine ZzR ?_ | refine ZzN ?_ | refine ZzB ?_ | refine ZzK ?_)
  refine RunE.loop (ι := Nat) (fun i => [(1, .pointer (some ⟨B1, 0, none⟩)), (3, .int .i64 (depths (l.take i) : Int)), (4, .int .i64 (i : Int))])
   (fun i w' => i ≤ l.length ∧ Ext w1 w') (fun i => l.length - i) 0 (by repeat (first | exact Sub.nil _ | refine Sub.cons rfl ?_)) ⟨by omega, .refl _ _⟩ ?_
  rintro i w4 ⟨hi, X4⟩ again
  have Z4 := Z1.ext X4 id
  repeat (first | refine RunL.pureI Tryz.tOk rfl rfl rfl (by (rfl)) ?_ | refine RunL.pure Tryz.tOk rfl rfl rfl ?_ | refine RunL.val rfl rfl rfl (OpV.load1 Tryz.tOk rfl rfl rfl (Blk.cell Z4 rfl)) ?_ | refine ZzQ ?_ | refine ZzR ?_)
  refine RunL.val rfl rfl rfl (OpV.lenSl Tryz.tOk rfl rfl hsl) ?_
  repeat (first | refine RunL.pure Tryz.tOk rfl rfl rfl ?_ | refine ZzN ?_)
  refine RunE.cond rfl (fun hlt => ?_) (fun hlt => ?_) <;> (first | replace hlt := of_decide_eq_true hlt | replace hlt := of_decide_eq_false hlt)
  ·have hi' : i < l.length := by omega
   obtain ⟨c, hc⟩ : ∃ c, l[i]? = some c := ⟨_, List.getElem?_eq_getElem hi'⟩
   obtain ⟨r, hr, hcr⟩ := hget i c hc
   obtain ⟨b, o, cap, rfl, hrow, -, -⟩ := hsl.held (by omega)
   have hr4 := In.length hcr
   repeat (first | refine RunL.pureI Tryz.tOk rfl rfl rfl (by (rfl)) ?_ | refine RunL.pure Tryz.tOk rfl rfl rfl ?_ | refine RunL.val rfl rfl rfl (OpV.load1 Tryz.tOk rfl rfl rfl (Blk.cell Z4 rfl)) ?_ | refine ZzQ ?_ | refine ZzR ?_ | refine ZzB ?_ | refine ZzK ?_)
   refine RunL.val rfl rfl rfl (OpV.indexS Tryz.tOk i rfl rfl rfl rfl hi') ?_
   refine RunL.val rfl rfl rfl (OpV.loadN (cs := r) Tryz.tOk rfl rfl rfl hr4 ((hin.row hr hrow).extE (X1.trans X4))) ?_
   refine RunL.call rfl rfl rfl (rdepth_ok c r w4 (In.ext (X1.trans X4) c r hcr) (by have := depth_le (List.mem_of_getElem? hc); omega)) ?_
   rintro _ w7 ⟨rfl, X7⟩
   repeat (first | refine RunL.pureI Tryz.tOk rfl rfl rfl (by (first | exact max_nat _ _ | exact wr_i64 (by omega) (by omega) | rfl)) ?_ | refine ZzR ?_ | refine ZzN ?_ | refine ZzI ?_)
   refine RunE.weaken (by
    refine Sub.cons rfl (Sub.cons ?_ (Sub.cons rfl (Sub.nil _)))
    rw [depths_take hc]; rfl) (again (i + 1) _ (by omega) ⟨by omega, X4.trans X7⟩)
  ·have hil : i = l.length := by omega
   subst hil
   rw [List.take_length]
   repeat (first | refine RunL.pureI Tryz.tOk rfl rfl rfl (by (first | exact wr_i64 (by omega) (by omega) | rfl)) ?_ | refine ZzQ ?_ | refine ZzR ?_ | refine ZzN ?_ | refine RunE.exit rfl ?_)
   exact RunE.retFn Tryz.func150 (.tmp rfl .nil) ⟨by simp only [oneOr, CV.depth]; congr 1, X1.trans X4⟩
termination_by c => SizeOf.sizeOf c
decreasing_by
 have := List.sizeOf_lt_of_mem (List.mem_of_getElem? hc)
 simp only [CV.list.sizeOf_spec]
 omega
end Go.Sg
end
section
/- The document's codec: what is written. -/
set_option maxRecDepth 4000
namespace Go.Sg
open Go.Rn Go.Sha Go.Cod Go.Proofs
attribute [local irreducible] Go.Rn.RunL Go.Rn.RunE Go.Rn.Asy Go.Rn.OpV Go.Rn.OpE Go.Rn.ExecE

theorem rencode_int (n : Int) (cs : List Value) (w : World) (h : (CV.int n).In w cs) : Rets Tryz.prog 132 [.agg cs.toArray] w fun r w' => w'.ownsRow w.heap.size 5 1 r (CV.int n).enc.length (bytesV (CV.int n).enc) ∧ Ext w w' := by
 simp only [CV.In] at h
 obtain ⟨hn, d, rfl⟩ := h
 refine RetsX.of (nt := 50) Tryz.func132 (by kernel_rfl) rfl rfl (by simp) (by simp only [argEnv]; rfl) ?_
 repeat (first | refine ZzQ ?_ | refine ZzR ?_)
 refine RunL.box rfl rfl rfl fun B1 w1 a1 => ?_
 have Z1 : Blk w1 B1 [.int .i64 1, .int .i64 n, .string ⟨#[]⟩, .slice d 0 0] 116 := a1.at_
 have z1 := a1.size
 have X1 := a1.ext
 have z0 := X1.size
 clear a1
 repeat (first | refine RunL.pure Tryz.tOk rfl rfl rfl ?_ | refine RunL.val rfl rfl rfl (OpV.load1 Tryz.tOk rfl rfl rfl (Blk.cell Z1 rfl)) ?_ | refine ZzQ ?_ | refine ZzR ?_ | refine ZzN ?_ | refine ZzB ?_)
 refine ZzT rfl rfl ?_
 repeat (first | refine ZzQ ?_ | refine ZzR ?_)
 refine RunL.ex rfl rfl rfl (OpE.buildSl Tryz.tOk [.int .u8 1] rfl rfl rfl rfl rfl rfl (by simp [Value.cells])) ?_
 rintro _ w2 ⟨B, rfl, a2⟩
 have O2 : w2.ownsRow w.heap.size 5 1 (.slice (some ⟨B, 0, none⟩) 1 1) 1 (bytesV [1]) := ownsRow_added a2 (by have := a2.eq; omega) rfl (by decide)
 have z2 := a2.size
 have X2 := X1.trans a2.ext
 have Z2 := Z1.ext a2.ext id
 clear a2
 repeat (first | refine RunL.pure Tryz.tOk rfl rfl rfl ?_ | refine RunL.val rfl rfl rfl (OpV.load1 Tryz.tOk rfl rfl rfl (Blk.cell Z2 rfl)) ?_)
 refine RunL.call rfl rfl rfl (runsigned_ok n _ hn) ?_
 rintro _ _ ⟨rfl, rfl⟩
 refine RunL.call rfl rfl rfl (rnumeral_ok (zig n) _ (zig_lt n hn)) ?_
 rintro r w3 ⟨O3, X3⟩
 have z3 := X3.size
 have z2x := X2.size
 have hl := num_le (zig n) (zig_lt n hn)
 refine RunL.ex rfl rfl rfl (OpE.append' Tryz.tOk rfl rfl rfl rfl rfl rfl (ownsRow_ext O2 X3 (fun _ _ h => h)) (isSl_own O3) (bytesV_plain _) (by show _ * 1 ≤ _; omega) (by omega) (by omega)) ?_
 rintro v4 w4 ⟨O4, E4, -⟩
 repeat (first | refine RunL.pure Tryz.tOk rfl rfl rfl ?_ | refine ZzN ?_)
 refine RunE.retFn Tryz.func132 (.tmp rfl .nil) ⟨?_, (X2.trans X3).write E4 (by intro i hi hlt; have := ownsRow_ge O2 hi; omega)⟩
 simp only [oneOr, CV.enc]
 rw [List.length_cons, Nat.add_comm]
 exact O4

theorem rencode_text (t : List UInt8) (cs : List Value) (w : World) (h : (CV.text t).In w cs) : Rets Tryz.prog 132 [.agg cs.toArray] w fun r w' => w'.ownsRow w.heap.size 5 1 r (CV.text t).enc.length (bytesV (CV.text t).enc) ∧ Ext w w' := by
 simp only [CV.In] at h
 obtain ⟨hn, d, rfl⟩ := h
 have hst : (strOf t).data.toList = t := by simp [strOf]
 have hsz : (strOf t).size = t.length := rfl
 refine RetsX.of (nt := 50) Tryz.func132 (by kernel_rfl) rfl rfl (by simp) (by simp only [argEnv]; rfl) ?_
 repeat (first | refine ZzQ ?_ | refine ZzR ?_)
 refine RunL.box rfl rfl rfl fun B1 w1 a1 => ?_
 have Z1 : Blk w1 B1 [.int .i64 2, .int .i64 0, .string (strOf t), .slice d 0 0] 116 := a1.at_
 have hB1 := a1.eq
 have z1 := a1.size
 have X1 := a1.ext
 have z0 := X1.size
 clear a1
 repeat (first | refine RunL.pure Tryz.tOk rfl rfl rfl ?_ | refine RunL.val rfl rfl rfl (OpV.load1 Tryz.tOk rfl rfl rfl (Blk.cell Z1 rfl)) ?_ | refine ZzQ ?_ | refine ZzR ?_ | refine ZzN ?_ | refine ZzB ?_)
 refine ZzF rfl rfl ?_
 repeat (first | refine RunL.pure Tryz.tOk rfl rfl rfl ?_ | refine ZzQ ?_ | refine ZzR ?_ | refine ZzN ?_)
 refine ZzT rfl rfl ?_
 repeat (first | refine ZzQ ?_)
 refine RunE.draw (fun k => w1.heap.size ≤ k) mix ?_
 intro w2 X2
 have z2 := X2.size
 have Z2 := Z1.ext X2 id
 have hS : ¬ (w1.heap.size ≤ B1) := by omega
 have hnl := num_le (strOf t).size (by omega)
 skip
 refine Asy.pre0 (fun u w' => w'.ownsRow w1.heap.size 5 1 u 1 (bytesV [2])) rfl rfl rfl rfl (fun u w' w'' _ e h => ownsRow_ext h e (fun _ _ h => h)) (fun w' e => ?_) ?_
 ·refine OpE.mono (OpE.buildSl Tryz.tOk [.int .u8 2] rfl rfl rfl rfl rfl rfl (by simp [Value.cells])) ?_ fun _ _ h => h
  rintro _ w'' ⟨B, rfl, a⟩
  have := e.size
  exact ⟨a.ext, ownsRow_added a (by have := a.eq; omega) rfl (by decide)⟩
 repeat (first | refine Asy.pure Tryz.tOk rfl rfl rfl ?_)
 refine Asy.v rfl rfl rfl rfl (fun w' X' => OpV.load1 Tryz.tOk rfl rfl rfl (Blk.cell (Z2.ext X' hS) rfl)) ?_
 repeat (first | refine Asy.pureI Tryz.tOk rfl rfl rfl (by (first | exact u64_nat _ (by omega) | rfl)) ?_)
 refine Asy.pre0 (fun u w' => w'.ownsRow w1.heap.size 5 1 u (num (strOf t).size).length (bytesV (num (strOf t).size))) rfl rfl rfl rfl (fun u w' w'' _ e h => ownsRow_ext h e (fun _ _ h => h)) (fun w' e => ?_) ?_
 ·refine OpE.mono (OpE.call rfl (rnumeral_ok (strOf t).size w' (by omega))) ?_ fun _ _ h => h
  rintro u w'' ⟨h1, h2⟩
  have := e.size
  exact ⟨h2, ownsRow_base h1 (by omega)⟩
 refine Asy.wriPP 1 0 (fun u w' => w'.ownsRow w1.heap.size 5 1 u (1 + (num (strOf t).size).length) (bytesV [2] ++ bytesV (num (strOf t).size))) rfl rfl rfl rfl rfl rfl rfl rfl (fun u w' w'' _ e h => ownsRow_ext h e (fun _ _ h => h)) (fun w' x y e hx hy => ?_) ?_
 ·have := e.size
  refine OpE.mono (OpE.append' Tryz.tOk rfl rfl rfl rfl rfl rfl hx (isSl_own hy) (bytesV_plain _) (by show _ * 1 ≤ _; omega) (by omega) (by omega)) ?_ fun _ _ h => h
  rintro u w'' ⟨h1, h2, h3⟩
  exact ⟨h2.mono fun k _ hk => ownsRow_ge hx hk, h1⟩
 repeat (first | refine Asy.pure Tryz.tOk rfl rfl rfl ?_)
 refine Asy.v rfl rfl rfl rfl (fun w' X' => OpV.load1 Tryz.tOk rfl rfl rfl (Blk.cell (Z2.ext X' hS) rfl)) ?_
 refine Asy.tailW (by kernel_rfl) ?_
 rintro w3 x E3 O3
 simp only [satsAll]
 have z3 := E3.size
 have Y3 : Ext w w3 := (X1.trans X2).write E3 (by intro i hi hlt; omega)
 refine RunL.ex rfl rfl rfl (OpE.appendStr Tryz.tOk (by kernel_rfl) rfl rfl rfl rfl rfl O3 (by omega) (by omega)) ?_
 rintro r w4 ⟨O4, E4⟩
 have Y4 : Ext w w4 := Y3.write E4 (by intro i hi hlt; have := ownsRow_ge O3 hi; omega)
 repeat (first | refine RunL.pure Tryz.tOk rfl rfl rfl ?_ | refine ZzN ?_)
 refine RunE.retFn Tryz.func132 (.tmp rfl .nil) ⟨?_, Y4⟩
 simp only [CV.enc, oneOr]
 rw [← bytesV_append, hst, hsz, ← bytesV_append] at O4
 have e : [2] ++ num t.length ++ t = 2 :: (num t.length ++ t) := by simp
 have e2 : 1 + (num t.length).length + t.length = (2 :: (num t.length ++ t)).length := by simp; omega
 rw [e2, e] at O4
 exact ownsRow_base O4 (by omega)

set_option maxHeartbeats 2000000 in
theorem rencode_ok : ∀ (c : CV) (cs : List Value) (w : World), c.In w cs → c.enc.length ≤ 1000000000 → Rets Tryz.prog 132 [.agg cs.toArray] w fun r w' => w'.ownsRow w.heap.size 5 1 r c.enc.length (bytesV c.enc) ∧ Ext w w'
 | .int n, cs, w, h, _ => rencode_int n cs w h
 | .text t, cs, w, h, _ => rencode_text t cs w h
 | .list l, cs, w, h, hlen => by
  simp only [CV.In] at h
  obtain ⟨hn, sv, rows, rfl, hsl, hin⟩ := h
  obtain ⟨hrl, hget⟩ := hin.get
  simp only [CV.enc, List.length_cons, List.length_append] at hlen
  refine RetsX.of (nt := 50) Tryz.func132 (by kernel_rfl) rfl rfl (by simp) (by simp only [argEnv]; rfl) ?_
  repeat (first | refine ZzQ ?_ | refine ZzR ?_)
  refine RunL.box rfl rfl rfl fun B1 w1 a1 => ?_
  have Z1 : Blk w1 B1 [.int .i64 3, .int .i64 0, .string ⟨#[]⟩, sv] 116 := a1.at_
  have hB1 := a1.eq
  have z1 := a1.size
  have X1 := a1.ext
  have z0 := X1.size
  clear a1
  repeat (first | refine RunL.pure Tryz.tOk rfl rfl rfl ?_ | refine RunL.val rfl rfl rfl (OpV.load1 Tryz.tOk rfl rfl rfl (Blk.cell Z1 rfl)) ?_ | refine ZzQ ?_ | refine ZzR ?_ | refine ZzN ?_ | refine ZzB ?_)
  refine ZzF rfl rfl ?_
  repeat (first | refine RunL.pure Tryz.tOk rfl rfl rfl ?_ | refine ZzQ ?_ | refine ZzR ?_ | refine ZzN ?_)
  refine ZzF rfl rfl ?_
  repeat (first | refine ZzQ ?_ | refine ZzR ?_ | refine ZzI ?_ | refine ZzK ?_)
  refine RunL.ex rfl rfl rfl (OpE.buildSl Tryz.tOk [.int .u8 3] rfl rfl rfl rfl rfl rfl (by simp [Value.cells])) ?_
  rintro _ w2 ⟨B, rfl, a2⟩
  have O2 : w2.ownsRow w1.heap.size 5 1 (.slice (some ⟨B, 0, none⟩) 1 1) 1 (bytesV [3]) := ownsRow_added a2 (by have := a2.eq; omega) rfl (by decide)
  have z2 := a2.size
  have X2 := a2.ext
  have Z2 := Z1.ext a2.ext id
  clear a2
  repeat (first | refine RunL.pure Tryz.tOk rfl rfl rfl ?_ | refine RunL.val rfl rfl rfl (OpV.load1 Tryz.tOk rfl rfl rfl (Blk.cell Z2 rfl)) ?_)
  refine RunL.val rfl rfl rfl (OpV.lenSl Tryz.tOk rfl rfl hsl) ?_
  repeat (first | refine RunL.pureI Tryz.tOk rfl rfl rfl (by (first | exact u64_nat _ (by omega) | rfl)) ?_)
  refine RunL.call rfl rfl rfl (rnumeral_ok l.length _ (by omega)) ?_
  rintro r w3 ⟨O3, X3⟩
  have z3 := X3.size
  have z2x := X2.size
  have hl := num_le l.length (by omega)
  refine RunL.ex rfl rfl rfl (OpE.append' Tryz.tOk rfl rfl rfl rfl rfl rfl (ownsRow_ext O2 X3 (fun _ _ h => h)) (isSl_own O3) (bytesV_plain _) (by show _ * 1 ≤ _; omega) (by omega) (by omega)) ?_
  rintro v4 w4 ⟨O4, E4, -⟩
  have Y4 : Ext w1 w4 := (X2.trans X3).write E4 (by intro i hi hlt; have := ownsRow_ge O2 hi; omega)
  have O4' : w4.ownsRow w1.heap.size 5 1 v4 (3 :: (num l.length ++ encs (l.take 0))).length (bytesV (3 :: (num l.length ++ encs (l.take 0)))) := by
   have e : 3 :: (num l.length ++ encs (l.take 0)) = [3] ++ num l.length := by simp [encs]
   rw [e, List.length_append, bytesV_append]; exact O4
  repeat (first | refine RunL.pureI Tryz.tOk rfl rfl rfl (by (rfl)) ?_ | refine RunL.pure Tryz.tOk rfl rfl rfl ?_ | refine ZzQ ?_ | refine ZzR ?_ | refine ZzN ?_ | refine ZzB ?_)
  refine RunE.loop (ι := Nat × Value) (fun x => [(1, .pointer (some ⟨B1, 0, none⟩)), (3, x.2), (4, .int .i64 (x.1 : Int))])
   (fun x w' => x.1 ≤ l.length ∧ Ext w1 w' ∧ w'.ownsRow w1.heap.size 5 1 x.2 (3 :: (num l.length ++ encs (l.take x.1))).length (bytesV (3 :: (num l.length ++ encs (l.take x.1))))) (fun x => l.length - x.1) (0, v4) (by repeat (first | exact Sub.nil _ | refine Sub.cons rfl ?_)) ⟨by simp, Y4, O4'⟩ ?_
  clear O4 O4' Y4 E4 X3 O3 X2 O2 Z2
  rintro ⟨i, u⟩ w5 ⟨hi, X5, O5⟩ again
  simp only at hi O5 again ⊢
  have Z5 := Z1.ext X5 id
  repeat (first | refine RunL.pureI Tryz.tOk rfl rfl rfl (by (rfl)) ?_ | refine RunL.pure Tryz.tOk rfl rfl rfl ?_ | refine RunL.val rfl rfl rfl (OpV.load1 Tryz.tOk rfl rfl rfl (Blk.cell Z5 rfl)) ?_ | refine ZzQ ?_ | refine ZzR ?_)
  refine RunL.val rfl rfl rfl (OpV.lenSl Tryz.tOk rfl rfl hsl) ?_
  repeat (first | refine RunL.pure Tryz.tOk rfl rfl rfl ?_ | refine ZzN ?_)
  refine RunE.cond rfl (fun hlt => ?_) (fun hlt => ?_) <;> (first | replace hlt := of_decide_eq_true hlt | replace hlt := of_decide_eq_false hlt)
  ·have hi' : i < l.length := by omega
   obtain ⟨c, hc⟩ : ∃ c, l[i]? = some c := ⟨_, List.getElem?_eq_getElem hi'⟩
   obtain ⟨q, hq, hcq⟩ := hget i c hc
   obtain ⟨b, o, cap, rfl, hrow, -, -⟩ := hsl.held (by omega)
   have hq4 := In.length hcq
   have hle := encs_le hc
   have hz5 := X5.size
   repeat (first | refine RunL.pureI Tryz.tOk rfl rfl rfl (by (rfl)) ?_ | refine RunL.pure Tryz.tOk rfl rfl rfl ?_ | refine RunL.val rfl rfl rfl (OpV.load1 Tryz.tOk rfl rfl rfl (Blk.cell Z5 rfl)) ?_ | refine ZzQ ?_ | refine ZzR ?_ | refine ZzB ?_ | refine ZzK ?_)
   refine RunL.val rfl rfl rfl (OpV.indexS Tryz.tOk i rfl rfl rfl rfl hi') ?_
   refine RunL.val rfl rfl rfl (OpV.loadN (cs := q) Tryz.tOk rfl rfl rfl hq4 ((hin.row hq hrow).extE (X1.trans X5))) ?_
   refine RunL.call rfl rfl rfl (rencode_ok c q w5 (In.ext (X1.trans X5) c q hcq) (by omega)) ?_
   rintro r6 w6 ⟨O6, X6⟩
   have hz6 := X6.size
   refine RunL.ex rfl rfl rfl (OpE.append' Tryz.tOk rfl rfl rfl rfl rfl rfl (ownsRow_ext O5 X6 (fun _ _ h => h)) (isSl_own O6) (bytesV_plain _) (by show _ * 1 ≤ _; simp; omega) (by simp; omega) (by omega)) ?_
   rintro v7 w7 ⟨O7, E7, -⟩
   repeat (first | refine RunL.pureI Tryz.tOk rfl rfl rfl (by (first | exact wr_i64 (by omega) (by omega) | rfl)) ?_ | refine RunL.pure Tryz.tOk rfl rfl rfl ?_ | refine ZzR ?_ | refine ZzN ?_ | refine ZzI ?_)
   refine RunE.weaken (by repeat (first | exact Sub.nil _ | refine Sub.cons rfl ?_)) (again (i + 1, v7) _ (by simp only; omega) ⟨by simp only; omega, (X5.trans X6).write E7 (by intro i hi hlt; have := ownsRow_ge O5 hi; omega), ?_⟩)
   simp only
   have e : 3 :: (num l.length ++ encs (l.take (i + 1))) = (3 :: (num l.length ++ encs (l.take i))) ++ c.enc := by rw [encs_take hc]; simp
   rw [e, List.length_append, bytesV_append]; exact O7
  ·have hil : i = l.length := by omega
   subst hil
   repeat (first | refine RunL.pure Tryz.tOk rfl rfl rfl ?_ | refine ZzQ ?_ | refine ZzR ?_ | refine ZzN ?_ | refine RunE.exit rfl ?_)
   refine RunE.retFn Tryz.func132 (.tmp rfl .nil) ⟨?_, X1.trans X5⟩
   simp only [oneOr, CV.enc]
   rw [List.take_length] at O5
   exact ownsRow_base O5 (by omega)
termination_by c => SizeOf.sizeOf c
decreasing_by
 have := List.sizeOf_lt_of_mem (List.mem_of_getElem? hc)
 simp only [CV.list.sizeOf_spec]
 omega

theorem rcheck_ok (c : CV) (cs : List Value) (w : World) (h : c.In w cs) (hd : c.depth ≤ 16) : Rets Tryz.prog 131 [.agg cs.toArray] w fun v w' => v = .int .i64 0 ∧ Ext w w' := by
 have h4 := In.length h
 refine RetsX.of (nt := 9) Tryz.func131 (by kernel_rfl) rfl rfl (by simp) (by simp only [argEnv]; rfl) ?_
 repeat (first | refine ZzQ ?_ | refine ZzR ?_)
 refine RunL.box rfl rfl rfl fun B1 w1 a1 => ?_
 have Z1 : Blk w1 B1 cs 116 := a1.at_
 repeat (first | refine RunL.pureI Tryz.tOk rfl rfl rfl (by (rfl)) ?_ | refine ZzQ ?_ | refine ZzR ?_ | refine ZzN ?_)
 refine RunL.val rfl rfl rfl (OpV.loadN (cs := cs) Tryz.tOk rfl rfl rfl h4 Z1.row) ?_
 refine RunL.call rfl rfl rfl (rformed_ok c cs w1 (In.ext a1.ext c cs h)) ?_
 rintro _ w2 ⟨rfl, X2⟩
 repeat (first | refine RunL.pure Tryz.tOk rfl rfl rfl ?_ | refine ZzN ?_)
 refine ZzF rfl rfl ?_
 repeat (first | refine ZzQ ?_ | refine ZzR ?_ | refine ZzK ?_)
 refine RunL.val rfl rfl rfl (OpV.loadN (cs := cs) Tryz.tOk rfl rfl rfl h4 (Z1.ext X2 id).row) ?_
 refine RunL.call rfl rfl rfl (rdepth_ok c cs w2 (In.ext (a1.ext.trans X2) c cs h) (by omega)) ?_
 rintro _ w3 ⟨rfl, X3⟩
 repeat (first | refine RunL.pure Tryz.tOk rfl rfl rfl ?_ | refine ZzN ?_)
 refine RunE.condF rfl (decide_eq_false (by omega)) ?_
 repeat (first | refine RunL.pureI Tryz.tOk rfl rfl rfl (by (rfl)) ?_ | refine ZzQ ?_ | refine ZzR ?_ | refine ZzN ?_ | refine ZzK ?_)
 exact RunE.retFn Tryz.func131 (.tmp rfl .nil) ⟨rfl, (a1.ext.trans X2).trans X3⟩

theorem rEncode_ok (c : CV) (cs : List Value) (w : World) (h : c.In w cs) (hd : c.depth ≤ 16) (hl : c.enc.length ≤ 1000000000) :
  Rets Tryz.prog 100 [.agg cs.toArray] w fun v w' => ∃ r, v = .tuple #[r, .int .i64 0] ∧ w'.ownsRow w.heap.size 5 1 r c.enc.length (bytesV c.enc) ∧ Ext w w' := by
 have h4 := In.length h
 refine RetsX.of (nt := 12) Tryz.func100 (by kernel_rfl) rfl rfl (by simp) (by simp only [argEnv]; rfl) ?_
 repeat (first | refine ZzQ ?_ | refine ZzR ?_)
 refine RunL.box rfl rfl rfl fun B1 w1 a1 => ?_
 have Z1 : Blk w1 B1 cs 116 := a1.at_
 have h1 := In.ext a1.ext c cs h
 have z0 := a1.ext.size
 repeat (first | refine RunL.pureI Tryz.tOk rfl rfl rfl (by (rfl)) ?_ | refine RunL.pure Tryz.tOk rfl rfl rfl ?_ | refine ZzQ ?_ | refine ZzR ?_ | refine ZzN ?_)
 refine RunL.val rfl rfl rfl (OpV.loadN (cs := cs) Tryz.tOk rfl rfl rfl h4 Z1.row) ?_
 refine RunL.call rfl rfl rfl (rcheck_ok c cs w1 h1 hd) ?_
 rintro _ w2 ⟨rfl, X2⟩
 repeat (first | refine RunL.pureI Tryz.tOk rfl rfl rfl (by (rfl)) ?_ | refine RunL.pure Tryz.tOk rfl rfl rfl ?_ | refine ZzQ ?_ | refine ZzR ?_ | refine ZzN ?_)
 refine ZzF rfl rfl ?_
 repeat (first | refine ZzQ ?_ | refine ZzR ?_ | refine ZzK ?_)
 refine RunL.val rfl rfl rfl (OpV.loadN (cs := cs) Tryz.tOk rfl rfl rfl h4 (Z1.ext X2 id).row) ?_
 refine RunL.call rfl rfl rfl (rencode_ok c cs w2 (In.ext X2 c cs h1) hl) ?_
 rintro r w3 ⟨O3, X3⟩
 have z2 := X2.size
 repeat (first | refine RunL.pureI Tryz.tOk rfl rfl rfl (by (rfl)) ?_ | refine RunL.pure Tryz.tOk rfl rfl rfl ?_ | refine ZzN ?_)
 exact RunE.retFn Tryz.func100 (.tmp rfl (.tmp rfl .nil)) ⟨r, rfl, ownsRow_base O3 (by omega), (a1.ext.trans X2).trans X3⟩

theorem rint_ok (n : Int) (w : World) : Rets Tryz.prog 102 [.int .i64 n] w fun v w' => v = .agg #[.int .i64 1, .int .i64 n, .string ⟨#[]⟩, .slice none 0 0] ∧ Ext w w' := by
 refine RetsX.of (nt := 5) Tryz.func102 (by kernel_rfl) rfl rfl (by simp) (by simp only [argEnv]; rfl) ?_
 repeat (first | refine ZzQ ?_ | refine ZzR ?_)
 refine RunL.alloc Tryz.tOk rfl rfl rfl fun B2 w2 a2 => ?_
 have hB := a2.eq
 repeat (first | refine RunL.pureI Tryz.tOk rfl rfl rfl (by (rfl)) ?_ | refine RunL.pure Tryz.tOk rfl rfl rfl ?_ | refine ZzQ ?_ | refine ZzR ?_ | refine ZzN ?_)
 refine RunL.store Tryz.tOk rfl rfl rfl rfl rfl (cs := [.int .i64 0, .int .i64 0, .string ⟨#[]⟩, .slice none 0 0]) a2.at_ rfl rfl fun w3 t3 => ?_
 repeat (first | refine ZzN ?_)
 exact RunE.retFn Tryz.func102 (.cell rfl (.agg Tryz.tOk rfl rfl rfl (Blk.row (show Blk w3 B2 [.int .i64 1, .int .i64 n, .string ⟨#[]⟩, .slice none 0 0] 116 from t3.at_))) .nil) ⟨rfl, a2.ext.write t3.ext (by intro i hi hlt; subst hi; omega)⟩
theorem rtext_ok (s : ByteArray) (w : World) : Rets Tryz.prog 103 [.string s] w fun v w' => v = .agg #[.int .i64 2, .int .i64 0, .string s, .slice none 0 0] ∧ Ext w w' := by
 refine RetsX.of (nt := 5) Tryz.func103 (by kernel_rfl) rfl rfl (by simp) (by simp only [argEnv]; rfl) ?_
 repeat (first | refine ZzQ ?_ | refine ZzR ?_)
 refine RunL.alloc Tryz.tOk rfl rfl rfl fun B2 w2 a2 => ?_
 have hB := a2.eq
 repeat (first | refine RunL.pure Tryz.tOk rfl rfl rfl ?_ | refine ZzQ ?_ | refine ZzR ?_ | refine ZzN ?_)
 refine RunL.store Tryz.tOk rfl rfl rfl rfl rfl (cs := [.int .i64 0, .int .i64 0, .string ⟨#[]⟩, .slice none 0 0]) a2.at_ rfl rfl fun w3 t3 => ?_
 repeat (first | refine ZzN ?_)
 exact RunE.retFn Tryz.func103 (.cell rfl (.agg Tryz.tOk rfl rfl rfl (Blk.row (show Blk w3 B2 [.int .i64 2, .int .i64 0, .string s, .slice none 0 0] 116 from t3.at_))) .nil) ⟨rfl, a2.ext.write t3.ext (by intro i hi hlt; subst hi; omega)⟩
theorem rlist_ok (d : Option Addr) (n cap : Nat) (w : World) : Rets Tryz.prog 101 [.slice d n cap] w fun r w' => r = .agg #[.int .i64 3, .int .i64 0, .string ⟨#[]⟩, .slice d n cap] ∧ Ext w w' := by
 refine RetsX.of (nt := 5) Tryz.func101 (by kernel_rfl) rfl rfl (by simp) (by simp only [argEnv]; rfl) ?_
 repeat (first | refine ZzQ ?_ | refine ZzR ?_)
 refine RunL.alloc Tryz.tOk rfl rfl rfl fun B2 w2 a2 => ?_
 have hB := a2.eq
 repeat (first | refine RunL.pure Tryz.tOk rfl rfl rfl ?_ | refine ZzQ ?_ | refine ZzR ?_ | refine ZzN ?_)
 refine RunL.store Tryz.tOk rfl rfl rfl rfl rfl (cs := [.int .i64 0, .int .i64 0, .string ⟨#[]⟩, .slice none 0 0]) a2.at_ (by rfl) (by rfl) fun w3 t3 => ?_
 repeat (first | refine ZzN ?_)
 exact RunE.retFn Tryz.func101 (.cell rfl (.agg Tryz.tOk rfl rfl rfl (Blk.row (show Blk w3 B2 [.int .i64 3, .int .i64 0, .string ⟨#[]⟩, .slice d n cap] 116 from t3.at_))) .nil) ⟨rfl, a2.ext.write t3.ext (by intro i hi hlt; subst hi; omega)⟩
end Go.Sg
end
