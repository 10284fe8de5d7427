/- What SHA-256 is: padding, blocks, the digest. Plain, no program. -/
import Derived.Test.YtbjmdklcbknlpaaDoorSha1
import Derived.Test.YtbjmdklcbknlpaaDoorSl
namespace Go.Sha
open Go.Rn

/-- The bytes of a number, the greatest first. -/
def be : Nat → Nat → List UInt8
  | 0, _ => []
  | i + 1, n => UInt8.ofNat (n / 2 ^ (8 * i)) :: be i n
theorem be_length (i n : Nat) : (be i n).length = i := by
  induction i with
  | zero => rfl
  | succ i ih => simp [be, ih]
theorem be_get : ∀ (i n j : Nat), j < i → (be i n)[j]? = some (UInt8.ofNat (n / 2 ^ (8 * (i - 1 - j))))
  | 0, n, j, h => by omega
  | i + 1, n, 0, _ => by simp [be]
  | i + 1, n, j + 1, h => by
    simp only [be, List.getElem?_cons_succ]
    rw [be_get i n j (by omega)]
    congr 4; omega
def dig (s : S8) : List UInt8 := s.l.flatMap fun x => be 4 x.toNat
theorem dig_length (s : S8) : (dig s).length = 32 := rfl
theorem flat_length : ∀ L : List W, (L.flatMap fun x => be 4 x.toNat).length = 4 * L.length
  | [] => rfl
  | x :: r => by rw [List.flatMap_cons, List.length_append, be_length, flat_length r, List.length_cons]; omega
def run (s : S8) (l : List UInt8) : Nat → S8
  | 0 => s
  | k + 1 => block (run s l k) ((l.drop (64 * k)).take 64)
def padz (n : Nat) : Nat := (119 - n % 64) % 64
def pad (l : List UInt8) : List UInt8 := l ++ 128 :: (List.replicate (padz l.length) 0 ++ be 8 (8 * l.length))
def sha (l : List UInt8) : List UInt8 := dig (run init8 (pad l) ((pad l).length / 64))
theorem sha_length (l : List UInt8) : (sha l).length = 32 := rfl
def tagged (tag l : List UInt8) : List UInt8 := sha (sha tag ++ l)
theorem tagged_length (t l : List UInt8) : (tagged t l).length = 32 := rfl

theorem pad_length (l : List UInt8) : (pad l).length = l.length + 9 + padz l.length := by
  simp [pad, be_length]; omega
theorem pad_length64 (l : List UInt8) : (pad l).length = 64 * ((pad l).length / 64) := by
  rw [pad_length]; unfold padz; omega
theorem run_congr (s : S8) (l l' : List UInt8) : ∀ n, (∀ k, k < n → (l.drop (64 * k)).take 64 = (l'.drop (64 * k)).take 64) → run s l n = run s l' n
  | 0, _ => rfl
  | n + 1, h => by
    unfold run
    rw [run_congr s l l' n (fun k hk => h k (by omega)), h n (by omega)]
/-- The blocks of l itself. -/
theorem run_pad (s : S8) (l : List UInt8) (n : Nat) (h : 64 * n ≤ l.length) : run s (pad l) n = run s l n := by
  refine run_congr s _ _ n fun k hk => ?_
  unfold pad
  rw [List.drop_append_of_le_length (by omega), List.take_append_of_le_length (by rw [List.length_drop]; omega)]
/-- What the last blocks are made of. -/
def tailOf (l : List UInt8) : List UInt8 := (pad l).drop (64 * (l.length / 64))
theorem tailOf_eq (l : List UInt8) : tailOf l = l.drop (64 * (l.length / 64)) ++ 128 :: (List.replicate (padz l.length) 0 ++ be 8 (8 * l.length)) := by
  unfold tailOf pad
  rw [List.drop_append_of_le_length (by omega)]
theorem tailOf_length (l : List UInt8) : (tailOf l).length = if l.length % 64 > 55 then 128 else 64 := by
  unfold tailOf
  rw [List.length_drop, pad_length]; unfold padz; split <;> omega
theorem pad_blocks (l : List UInt8) : (pad l).length / 64 = l.length / 64 + (tailOf l).length / 64 := by
  rw [tailOf_length, pad_length]; unfold padz; split <;> omega
theorem tail_block (l : List UInt8) (j : Nat) : ((tailOf l).drop (64 * j)).take 64 = ((pad l).drop (64 * (l.length / 64 + j))).take 64 := by
  unfold tailOf; rw [List.drop_drop]; congr 2; omega
theorem tail_block_len (l : List UInt8) (k j m : Nat) (hk : k = l.length / 64) (hm : m = (tailOf l).length) (h : 64 * j + 64 ≤ m) : 64 = (((pad l).drop (64 * (k + j))).take 64).length := by
  rw [hk, ← tail_block, List.length_take, List.length_drop]; omega
theorem sha_eq (l : List UInt8) : sha l = dig (run init8 (pad l) (l.length / 64 + (tailOf l).length / 64)) := by rw [sha, pad_blocks]

/-! ### Cells -/
theorem bytesV_append (a b : List UInt8) : bytesV (a ++ b) = bytesV a ++ bytesV b := by simp [bytesV]
theorem bytesV_replicate (n : Nat) : List.replicate n (Value.int .u8 0) = bytesV (List.replicate n 0) := by simp [bytesV]
theorem bytesV_drop (l : List UInt8) (n : Nat) : (bytesV l).drop n = bytesV (l.drop n) := by simp [bytesV]
theorem bytesV_take (l : List UInt8) (n : Nat) : (bytesV l).take n = bytesV (l.take n) := by simp [bytesV]
theorem bytesV_get {l : List UInt8} {i : Nat} (h : i < l.length) : (bytesV l)[i]? = some (.int .u8 ((l.getD i 0).toNat : Int)) := by
  simp [bytesV, List.getElem?_eq_getElem h, List.getD_eq_getElem?_getD]
theorem setAt_self (cs : List Value) : setAt cs 0 cs = cs := by
  have := setAt_mid [] cs [] cs rfl
  simpa using this
theorem setAt_all (cs ds : List Value) (h : ds.length = cs.length) : setAt cs 0 ds = ds := by
  have := setAt_mid [] cs [] ds h
  simpa using this
theorem setAt_bytes (X Y Z V : List UInt8) (n : Nat) (hn : X.length = n) (h : V.length = Y.length) : setAt (bytesV (X ++ Y ++ Z)) n (bytesV V) = bytesV (X ++ V ++ Z) := by
  have := setAt_mid (bytesV X) (bytesV Y) (bytesV Z) (bytesV V) (by simpa [bytesV_length] using h)
  rw [bytesV_length, hn] at this
  simpa [bytesV_append] using this
theorem set_byte (X Z : List UInt8) (y b : UInt8) (n : Nat) (hn : X.length = n) : setAt (bytesV (X ++ y :: Z)) n [.int .u8 (b.toNat : Int)] = bytesV (X ++ b :: Z) := by
  have := setAt_bytes X [y] Z [b] n hn rfl
  simpa [bytesV] using this
end Go.Sha
