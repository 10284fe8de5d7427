/- What SHA-256 is; words of bytes. -/
import Derived.Test.YtbjmdklcbknlpaaDoorBits
namespace Go.Sha
open Go.Rn

abbrev W := BitVec 32
def s0 (x : W) : W := (rotr x 7 ^^^ rotr x 18) ^^^ (x >>> 3)
def s1 (x : W) : W := (rotr x 17 ^^^ rotr x 19) ^^^ (x >>> 10)
def S3 (x : W) (a b c : Nat) : W := (rotr x a ^^^ rotr x b) ^^^ rotr x c
def ch (e f g : W) : W := (e &&& f) ^^^ (~~~e &&& g)
def maj (a b c : W) : W := ((a &&& b) ^^^ (a &&& c)) ^^^ (b &&& c)
theorem ch_eq (e f g : W) : g ^^^ (e &&& (f ^^^ g)) = ch e f g := by
  apply BitVec.eq_of_getLsbD_eq
  intro i hi
  simp only [ch, BitVec.getLsbD_xor, BitVec.getLsbD_and, BitVec.getLsbD_not, hi, decide_true, Bool.true_and]
  cases e.getLsbD i <;> cases f.getLsbD i <;> cases g.getLsbD i <;> rfl
theorem maj_eq (a b c : W) : (a &&& b) ||| (c &&& (a ||| b)) = maj a b c := by
  apply BitVec.eq_of_getLsbD_eq
  intro i _
  simp only [maj, BitVec.getLsbD_xor, BitVec.getLsbD_and, BitVec.getLsbD_or]
  cases a.getLsbD i <;> cases b.getLsbD i <;> cases c.getLsbD i <;> rfl

/-- The word of four bytes. -/
def word (a b c d : UInt8) : W := BitVec.ofNat 32 (((a.toNat * 256 + b.toNat) * 256 + c.toNat) * 256 + d.toNat)

theorem or_base (x c : Nat) (hc : c < 256) : ((BitVec.ofNat 32 x <<< 8) ||| BitVec.ofNat 32 c : W) = BitVec.ofNat 32 (x * 256 + c) := by
  have h : x * 256 + c = x <<< 8 ||| c := by rw [← Nat.shiftLeft_add_eq_or_of_lt (by simpa using hc), Nat.shiftLeft_eq]
  rw [h, BitVec.ofNat_or]
  congr 1
  apply BitVec.eq_of_toNat_eq
  simp [Nat.shiftLeft_eq, BitVec.toNat_shiftLeft]
theorem or_step (x c n : Nat) (hc : c < 256) : ((BitVec.ofNat 32 x <<< (8 + n)) ||| (BitVec.ofNat 32 c <<< n) : W) = BitVec.ofNat 32 (x * 256 + c) <<< n := by
  rw [BitVec.shiftLeft_add, ← BitVec.shiftLeft_or_distrib, or_base x c hc]

structure S8 where
  a : W
  b : W
  c : W
  d : W
  e : W
  f : W
  g : W
  h : W

def S8.l (s : S8) : List W := [s.a, s.b, s.c, s.d, s.e, s.f, s.g, s.h]
def rnd (s : S8) (k w : W) : S8 :=
  let p := (((s.h + S3 s.e 6 11 25) + ch s.e s.f s.g) + k) + w
  let q := S3 s.a 2 13 22 + maj s.a s.b s.c
  ⟨p + q, s.a, s.b, s.c, s.d + p, s.e, s.f, s.g⟩
def kTab : List W := [0x428a2f98, 0x71374491, 0xb5c0fbcf, 0xe9b5dba5, 0x3956c25b, 0x59f111f1, 0x923f82a4, 0xab1c5ed5,
  0xd807aa98, 0x12835b01, 0x243185be, 0x550c7dc3, 0x72be5d74, 0x80deb1fe, 0x9bdc06a7, 0xc19bf174,
  0xe49b69c1, 0xefbe4786, 0x0fc19dc6, 0x240ca1cc, 0x2de92c6f, 0x4a7484aa, 0x5cb0a9dc, 0x76f988da,
  0x983e5152, 0xa831c66d, 0xb00327c8, 0xbf597fc7, 0xc6e00bf3, 0xd5a79147, 0x06ca6351, 0x14292967,
  0x27b70a85, 0x2e1b2138, 0x4d2c6dfc, 0x53380d13, 0x650a7354, 0x766a0abb, 0x81c2c92e, 0x92722c85,
  0xa2bfe8a1, 0xa81a664b, 0xc24b8b70, 0xc76c51a3, 0xd192e819, 0xd6990624, 0xf40e3585, 0x106aa070,
  0x19a4c116, 0x1e376c08, 0x2748774c, 0x34b0bcb5, 0x391c0cb3, 0x4ed8aa4a, 0x5b9cca4f, 0x682e6ff3,
  0x748f82ee, 0x78a5636f, 0x84c87814, 0x8cc70208, 0x90befffa, 0xa4506ceb, 0xbef9a3f7, 0xc67178f2]
def init8 : S8 := ⟨0x6a09e667, 0xbb67ae85, 0x3c6ef372, 0xa54ff53a, 0x510e527f, 0x9b05688c, 0x1f83d9ab, 0x5be0cd19⟩

def nextW (l : List W) (k : Nat) : W := ((l.getD k 0 + s0 (l.getD (k + 1) 0)) + l.getD (k + 9) 0) + s1 (l.getD (k + 14) 0)
def sched (l : List W) : Nat → List W
  | 0 => l
  | k + 1 => sched l k ++ [nextW (sched l k) k]
theorem sched_length (l : List W) (k : Nat) : (sched l k).length = l.length + k := by
  induction k with
  | zero => rfl
  | succ k ih => simp [sched, ih]; omega
def words (l : List UInt8) : Nat → List W
  | 0 => []
  | k + 1 => words l k ++ [word (l.getD (4 * k) 0) (l.getD (4 * k + 1) 0) (l.getD (4 * k + 2) 0) (l.getD (4 * k + 3) 0)]
theorem words_length (l : List UInt8) (k : Nat) : (words l k).length = k := by
  induction k with
  | zero => rfl
  | succ k ih => simp [words, ih]
def rnds (ws : List W) (s : S8) : Nat → S8
  | 0 => s
  | t + 1 => rnd (rnds ws s t) (kTab.getD t 0) (ws.getD t 0)
def S8.add (s v : S8) : S8 := ⟨s.a + v.a, s.b + v.b, s.c + v.c, s.d + v.d, s.e + v.e, s.f + v.f, s.g + v.g, s.h + v.h⟩
/-- The state after a block of 64 bytes. -/
def block (s : S8) (l : List UInt8) : S8 := s.add (rnds (sched (words l 16) 48) s 64)

def vals (l : List W) : List Value := l.map fun x => .int .u32 (x.toNat : Int)
theorem vals_length (l : List W) : (vals l).length = l.length := by simp [vals]
end Go.Sha
namespace Go.Sg
open Go.Rn Go.Sha Go.Proofs

def accB (l : List UInt8) (j : Nat) : Nat := (l.take j).foldl (fun n c => n * 256 + c.toNat) 0
theorem accB_succ {l : List UInt8} {j : Nat} {x : UInt8} (h : l[j]? = some x) : accB l (j + 1) = accB l j * 256 + x.toNat := by
  unfold accB
  rw [List.take_add_one, h, List.foldl_append]
  rfl

theorem digestWord_ok (x0 x1 x2 x3 : UInt8) (b o len cap : Nat) (w : World) (h4 : 4 ≤ len) (hc : len ≤ cap) (hr : Row w b o (bytesV [x0, x1, x2, x3])) :
    Rets Tryd.prog 68 [.slice (some ⟨b, o, none⟩) len cap] w fun v w' => v = .int .u32 ((word x0 x1 x2 x3).toNat : Int) ∧ w = w' := by
  refine RetsX.of (nt := 19) Tryd.func68 (by kernel_rfl) rfl rfl (by simp) (by simp only [argEnv]; rfl) ?_
  repeat (first | refine RunL.pureI Tryd.tOk rfl rfl rfl (by (first | exact wr_i64 (by omega) (by omega) | exact wm_i64 (by omega) | exact wq_i64 (by omega) (by omega) (by omega) | rfl)) ?_ | refine RunL.pure Tryd.tOk rfl rfl rfl ?_ | refine RunL.unwantedD rfl rfl ?_ | refine RunE.seq ?_ | refine RunE.region ?_ | refine RunL.nil ?_ | refine RunE.block ?_ | refine RunE.inBlock ?_ | refine RunE.skip ?_ | refine RunE.exit rfl ?_ | refine RunE.scope ?_ | refine RunE.inScope ?_ | refine RunE.label ?_)
  refine RunL.val rfl rfl rfl (OpV.slice0 (hi := 4) Tryd.tOk rfl rfl .none (.some rfl rfl) (by omega)) ?_
  repeat (first | refine RunL.pureI Tryd.tOk rfl rfl rfl (by (first | exact wr_i64 (by omega) (by omega) | exact wm_i64 (by omega) | exact wq_i64 (by omega) (by omega) (by omega) | rfl)) ?_ | refine RunL.pure Tryd.tOk rfl rfl rfl ?_ | refine RunL.unwantedD rfl rfl ?_ | refine RunE.seq ?_ | refine RunE.region ?_ | refine RunL.nil ?_ | refine RunE.block ?_ | refine RunE.inBlock ?_ | refine RunE.skip ?_ | refine RunE.exit rfl ?_ | refine RunE.scope ?_ | refine RunE.inScope ?_ | refine RunE.label ?_)
  refine RunE.loop (ι := Nat) (fun j => [(6, .slice (some ⟨b, o, none⟩) 4 cap), (7, .int .i64 4), (8, .int .i64 (j : Int)), (2, .int .u32 ((BitVec.ofNat 32 (accB [x0, x1, x2, x3] j)).toNat : Int))])
    (fun j w' => w = w' ∧ j ≤ 4) (fun j => 4 - j) 0 (by repeat (first | exact Sub.nil _ | refine Sub.cons rfl ?_)) ⟨rfl, by omega⟩ ?_
  rintro j _ ⟨rfl, hj⟩ again
  repeat (first | refine RunL.pureI Tryd.tOk rfl rfl rfl (by (first | exact wr_i64 (by omega) (by omega) | exact wm_i64 (by omega) | exact wq_i64 (by omega) (by omega) (by omega) | rfl)) ?_ | refine RunL.pure Tryd.tOk rfl rfl rfl ?_ | refine RunL.unwantedD rfl rfl ?_ | refine RunE.seq ?_ | refine RunE.region ?_ | refine RunL.nil ?_ | refine RunE.block ?_ | refine RunE.inBlock ?_ | refine RunE.skip ?_ | refine RunE.exit rfl ?_ | refine RunE.scope ?_ | refine RunE.inScope ?_ | refine RunE.label ?_)
  refine RunE.cond rfl (fun hlt => ?_) (fun hlt => ?_) <;> (first | replace hlt := of_decide_eq_true hlt | replace hlt := of_decide_eq_false hlt | replace hlt := beq_iff_eq.1 hlt | replace hlt := beq_eq_false_iff_ne.1 hlt | replace hlt := bne_iff_ne.1 hlt | replace hlt := bne_eq_false_iff_eq.1 hlt | skip)
  · have hlt' : j < [x0, x1, x2, x3].length := by simp; omega
    have hx : [x0, x1, x2, x3][j]? = some [x0, x1, x2, x3][j] := List.getElem?_eq_getElem hlt'
    generalize [x0, x1, x2, x3][j] = x at hx
    repeat (first | refine RunL.pureI Tryd.tOk rfl rfl rfl (by (first | exact wr_i64 (by omega) (by omega) | exact wm_i64 (by omega) | exact wq_i64 (by omega) (by omega) (by omega) | rfl)) ?_ | refine RunL.pure Tryd.tOk rfl rfl rfl ?_ | refine RunL.unwantedD rfl rfl ?_ | refine RunE.seq ?_ | refine RunE.region ?_ | refine RunL.nil ?_ | refine RunE.block ?_ | refine RunE.inBlock ?_ | refine RunE.skip ?_ | refine RunE.exit rfl ?_ | refine RunE.scope ?_ | refine RunE.inScope ?_ | refine RunE.label ?_)
    refine RunL.val rfl rfl rfl (OpV.indexS1 Tryd.tOk j rfl rfl rfl rfl (by omega)) ?_
    refine RunL.val rfl rfl rfl (OpV.load1 (v := .int .u8 (x.toNat : Int)) Tryd.tOk rfl rfl rfl (hr j _ (by simp only [bytesV, List.getElem?_map, hx]; rfl))) ?_
    repeat (first | refine RunL.pureI Tryd.tOk rfl rfl rfl (by (first | with_reducible exact u32_xor _ _ | with_reducible exact u32_and _ _ | with_reducible exact u32_or _ _ | with_reducible exact u32_add _ _ | with_reducible exact u32_shl _ _ (by decide) | with_reducible exact u32_shr _ _ (by decide) | with_reducible exact u32_of_u8 _ | exact wr_i64 (by omega) (by omega) | rfl)) ?_ | refine RunL.pureI Tryd.tOk rfl rfl rfl (by (first | exact wr_i64 (by omega) (by omega) | exact wm_i64 (by omega) | exact wq_i64 (by omega) (by omega) (by omega) | rfl)) ?_ | refine RunL.pure Tryd.tOk rfl rfl rfl ?_ | refine RunL.unwantedD rfl rfl ?_ | refine RunE.seq ?_ | refine RunE.region ?_ | refine RunL.nil ?_ | refine RunE.block ?_ | refine RunE.inBlock ?_ | refine RunE.skip ?_ | refine RunE.exit rfl ?_ | refine RunE.scope ?_ | refine RunE.inScope ?_ | refine RunE.label ?_)
    exact RunE.weaken (by
      refine Sub.cons rfl (Sub.cons rfl (Sub.cons rfl (Sub.cons ?_ (Sub.nil _))))
      rw [accB_succ hx, ← or_base _ _ x.toNat_lt]
      rfl) (again (j + 1) _ (by omega) ⟨rfl, by omega⟩)
  · have hj4 : j = 4 := by omega
    subst hj4
    repeat (first | refine RunL.pureI Tryd.tOk rfl rfl rfl (by (first | exact wr_i64 (by omega) (by omega) | exact wm_i64 (by omega) | exact wq_i64 (by omega) (by omega) (by omega) | rfl)) ?_ | refine RunL.pure Tryd.tOk rfl rfl rfl ?_ | refine RunL.unwantedD rfl rfl ?_ | refine RunE.seq ?_ | refine RunE.region ?_ | refine RunL.nil ?_ | refine RunE.block ?_ | refine RunE.inBlock ?_ | refine RunE.skip ?_ | refine RunE.exit rfl ?_ | refine RunE.scope ?_ | refine RunE.inScope ?_ | refine RunE.label ?_)
    exact RunE.retFn Tryd.func68 (.tmp rfl .nil) ⟨by simp [accB, word, oneOr], rfl⟩

theorem refWord_ok (x0 x1 x2 x3 : UInt8) (b o len cap : Nat) (w : World) (h4 : 4 ≤ len) (hr : Row w b o (bytesV [x0, x1, x2, x3])) :
    Rets Tryd.prog 75 [.slice (some ⟨b, o, none⟩) len cap] w fun v w' => v = .int .u32 ((word x0 x1 x2 x3).toNat : Int) ∧ Ext w w' := by
  refine RetsX.of (nt := 25) Tryd.func75 (by kernel_rfl) rfl rfl (by simp) (by simp only [argEnv]; rfl) ?_
  repeat (first | refine RunL.pureI Tryd.tOk rfl rfl rfl (by (first | exact wr_i64 (by omega) (by omega) | exact wm_i64 (by omega) | exact wq_i64 (by omega) (by omega) (by omega) | rfl)) ?_ | refine RunL.pure Tryd.tOk rfl rfl rfl ?_ | refine RunL.unwantedD rfl rfl ?_ | refine RunE.seq ?_ | refine RunE.region ?_ | refine RunL.nil ?_ | refine RunE.block ?_ | refine RunE.inBlock ?_ | refine RunE.skip ?_ | refine RunE.exit rfl ?_ | refine RunE.scope ?_ | refine RunE.inScope ?_ | refine RunE.label ?_)
  refine RunE.draw (fun _ => False) mix ?_
  intro w0 X
  repeat (first | refine Asy.pureI Tryd.tOk rfl rfl rfl (by (first | with_reducible exact u32_xor _ _ | with_reducible exact u32_and _ _ | with_reducible exact u32_or _ _ | with_reducible exact u32_add _ _ | with_reducible exact u32_shl _ _ (by decide) | with_reducible exact u32_shr _ _ (by decide) | with_reducible exact u32_of_u8 _ | exact wr_i64 (by omega) (by omega) | rfl)) ?_ | refine Asy.pure Tryd.tOk rfl rfl rfl ?_ | refine Asy.unwantedD rfl rfl rfl ?_)
  refine Asy.v rfl rfl rfl rfl (fun _ _ => OpV.indexS1 Tryd.tOk 0 rfl rfl rfl rfl (by omega)) ?_
  refine Asy.v rfl rfl rfl rfl (fun _ X' => OpV.load1 Tryd.tOk rfl rfl rfl (hr.extE (X.trans X') 0 _ rfl)) ?_
  repeat (first | refine Asy.pureI Tryd.tOk rfl rfl rfl (by (first | with_reducible exact u32_xor _ _ | with_reducible exact u32_and _ _ | with_reducible exact u32_or _ _ | with_reducible exact u32_add _ _ | with_reducible exact u32_shl _ _ (by decide) | with_reducible exact u32_shr _ _ (by decide) | with_reducible exact u32_of_u8 _ | exact wr_i64 (by omega) (by omega) | rfl)) ?_ | refine Asy.pure Tryd.tOk rfl rfl rfl ?_ | refine Asy.unwantedD rfl rfl rfl ?_)
  refine Asy.v rfl rfl rfl rfl (fun _ _ => OpV.indexS1 Tryd.tOk 1 rfl rfl rfl rfl (by omega)) ?_
  refine Asy.v rfl rfl rfl rfl (fun _ X' => OpV.load1 Tryd.tOk rfl rfl rfl (hr.extE (X.trans X') 1 _ rfl)) ?_
  repeat (first | refine Asy.pureI Tryd.tOk rfl rfl rfl (by (first | with_reducible exact u32_xor _ _ | with_reducible exact u32_and _ _ | with_reducible exact u32_or _ _ | with_reducible exact u32_add _ _ | with_reducible exact u32_shl _ _ (by decide) | with_reducible exact u32_shr _ _ (by decide) | with_reducible exact u32_of_u8 _ | exact wr_i64 (by omega) (by omega) | rfl)) ?_ | refine Asy.pure Tryd.tOk rfl rfl rfl ?_ | refine Asy.unwantedD rfl rfl rfl ?_)
  refine Asy.v rfl rfl rfl rfl (fun _ _ => OpV.indexS1 Tryd.tOk 2 rfl rfl rfl rfl (by omega)) ?_
  refine Asy.v rfl rfl rfl rfl (fun _ X' => OpV.load1 Tryd.tOk rfl rfl rfl (hr.extE (X.trans X') 2 _ rfl)) ?_
  repeat (first | refine Asy.pureI Tryd.tOk rfl rfl rfl (by (first | with_reducible exact u32_xor _ _ | with_reducible exact u32_and _ _ | with_reducible exact u32_or _ _ | with_reducible exact u32_add _ _ | with_reducible exact u32_shl _ _ (by decide) | with_reducible exact u32_shr _ _ (by decide) | with_reducible exact u32_of_u8 _ | exact wr_i64 (by omega) (by omega) | rfl)) ?_ | refine Asy.pure Tryd.tOk rfl rfl rfl ?_ | refine Asy.unwantedD rfl rfl rfl ?_)
  refine Asy.v rfl rfl rfl rfl (fun _ _ => OpV.indexS1 Tryd.tOk 3 rfl rfl rfl rfl (by omega)) ?_
  refine Asy.v rfl rfl rfl rfl (fun _ X' => OpV.load1 Tryd.tOk rfl rfl rfl (hr.extE (X.trans X') 3 _ rfl)) ?_
  repeat (first | refine Asy.pureI Tryd.tOk rfl rfl rfl (by (first | with_reducible exact u32_xor _ _ | with_reducible exact u32_and _ _ | with_reducible exact u32_or _ _ | with_reducible exact u32_add _ _ | with_reducible exact u32_shl _ _ (by decide) | with_reducible exact u32_shr _ _ (by decide) | with_reducible exact u32_of_u8 _ | exact wr_i64 (by omega) (by omega) | rfl)) ?_ | refine Asy.pure Tryd.tOk rfl rfl rfl ?_ | refine Asy.unwantedD rfl rfl rfl ?_)
  refine Asy.tail (by kernel_rfl) ?_
  intro w1 X1
  simp only [satsAll]
  repeat (first | refine RunL.pureI Tryd.tOk rfl rfl rfl (by (first | exact wr_i64 (by omega) (by omega) | exact wm_i64 (by omega) | exact wq_i64 (by omega) (by omega) (by omega) | rfl)) ?_ | refine RunL.pure Tryd.tOk rfl rfl rfl ?_ | refine RunL.unwantedD rfl rfl ?_ | refine RunE.seq ?_ | refine RunE.region ?_ | refine RunL.nil ?_ | refine RunE.block ?_ | refine RunE.inBlock ?_ | refine RunE.skip ?_ | refine RunE.exit rfl ?_ | refine RunE.scope ?_ | refine RunE.inScope ?_ | refine RunE.label ?_)
  refine RunE.retFn Tryd.func75 (.tmp rfl .nil) ⟨?_, X.trans X1⟩
  unfold word
  rw [or_step _ _ 16 x1.toNat_lt, or_step _ _ 8 x2.toNat_lt, or_base _ _ x3.toNat_lt]
  rfl
end Go.Sg
