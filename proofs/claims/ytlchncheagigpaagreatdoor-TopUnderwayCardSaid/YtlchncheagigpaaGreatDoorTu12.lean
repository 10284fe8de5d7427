/- Parts of this project: PolS, PolP, PolQ, PolF, PolG, PolH, PolI, PolK, PolJ, PolR, PolL, PolM, PolN. -/
import Derived.Test.YtlchncheagigpaaGreatDoorTu02
import Derived.Test.YtlchncheagigpaaGreatDoorTu09
import Derived.Test.YtlchncheagigpaaGreatDoorTu04
import Derived.Laws.Strings
import Derived.Laws.Externs
import Derived.Lib.Bytealg
set_option maxHeartbeats 32000000
set_option linter.unusedSimpArgs false
set_option linter.unusedVariables false
set_option linter.unusedSectionVars false
section
set_option maxRecDepth 4000
namespace Go.Pol
open Go.Rn Go.Rec
inductive Ex where
 | mk (kind n no : Int) (name : ByteArray) (u : Option Addr) (c : Nat) (l : List Ex)
def Ex.kind : Ex → Int | .mk k _ _ _ _ _ _ => k
def Ex.n : Ex → Int | .mk _ n _ _ _ _ _ => n
def Ex.no : Ex → Int | .mk _ _ no _ _ _ _ => no
def Ex.name : Ex → ByteArray | .mk _ _ _ s _ _ _ => s
def Ex.u : Ex → Option Addr | .mk _ _ _ _ u _ _ => u
def Ex.c : Ex → Nat | .mk _ _ _ _ _ c _ => c
def Ex.l : Ex → List Ex | .mk _ _ _ _ _ _ l => l
def Ex.lv (x : Ex) : Value := .slice x.u x.l.length x.c
abbrev Ex.cells (x : Ex) : List Value := [.int .i64 x.kind, .int .i64 x.n, .int .i64 x.no, .string x.name, .slice x.u x.l.length x.c]
theorem encEx : EncOk Ex.cells 5 := ⟨fun _ => rfl, fun _ => rfl, by decide⟩
abbrev exV (x : Ex) : Value := .agg x.cells.toArray
mutual
def partsE : Ex → Int → List (Ex × Int)
 | .mk k n no s u c l, d => (.mk k n no s u c l, d) :: partsL l (d + 1)
def partsL : List Ex → Int → List (Ex × Int)
 | [], _ => []
 | x :: r, d => partsE x d ++ partsL r d
end
mutual
def numE : Ex → Nat
 | .mk _ _ _ _ _ _ l => 1 + numL l
def numL : List Ex → Nat
 | [] => 0
 | x :: r => numE x + numL r
end
mutual
def HoldE (w : World) (N : Nat) : Ex → Prop
 | .mk _ _ _ _ u c l => IsL w Ex.cells 5 (.slice u l.length c) l ∧ (l ≠ [] → ∀ k, (Value.slice u l.length c).ownBlock = some k → k < N) ∧ HoldEs w N l
def HoldEs (w : World) (N : Nat) : List Ex → Prop
 | [] => True
 | x :: r => HoldE w N x ∧ HoldEs w N r
end
mutual
theorem HoldE.ext {S : Nat → Prop} {w w' : World} {N : Nat} (e : ExtB S w w') (hS : ∀ k, S k → N ≤ k) : ∀ {x : Ex}, HoldE w N x → HoldE w' N x
 | .mk _ _ _ _ _ _ _, h => by
  unfold HoldE at h ⊢
  exact ⟨isL_ext h.1 e fun hne k hk hk' => by have := h.2.1 hne k hk; have := hS k hk'; omega, h.2.1, HoldEs.ext e hS h.2.2⟩
theorem HoldEs.ext {S : Nat → Prop} {w w' : World} {N : Nat} (e : ExtB S w w') (hS : ∀ k, S k → N ≤ k) : ∀ {l : List Ex}, HoldEs w N l → HoldEs w' N l
 | [], _ => by unfold HoldEs; trivial
 | _ :: _, h => by
  unfold HoldEs at h ⊢
  exact ⟨HoldE.ext e hS h.1, HoldEs.ext e hS h.2⟩
end
theorem HoldE.up {w w' : World} {N : Nat} {x : Ex} (h : HoldE w N x) (e : Ext w w') : HoldE w' N x := h.ext e fun _ h => h.elim
theorem HoldEs.mem {w : World} {N : Nat} : ∀ {l : List Ex}, HoldEs w N l → ∀ x ∈ l, HoldE w N x
 | _ :: _, h, x, hx => by
  unfold HoldEs at h
  rcases List.mem_cons.1 hx with rfl | hx
  ·exact h.1
  ·exact h.2.mem x hx
theorem HoldE.list {w : World} {N : Nat} : ∀ {x : Ex}, HoldE w N x → IsL w Ex.cells 5 (.slice x.u x.l.length x.c) x.l
 | .mk _ _ _ _ _ _ _, h => by unfold HoldE at h; exact h.1
theorem HoldE.kids {w : World} {N : Nat} : ∀ {x : Ex}, HoldE w N x → ∀ y ∈ x.l, HoldE w N y
 | .mk _ _ _ _ _ _ _, h => by unfold HoldE at h; exact h.2.2.mem
theorem partsE_eq : ∀ (x : Ex) (d : Int), partsE x d = (x, d) :: partsL x.l (d + 1)
 | .mk _ _ _ _ _ _ _, d => by rw [partsE]; rfl
theorem partsL_cons (x : Ex) (r : List Ex) (d : Int) : partsL (x :: r) d = partsE x d ++ partsL r d := by rw [partsL]
theorem partsL_nil (d : Int) : partsL [] d = [] := by rw [partsL]
theorem partsL_append (a b : List Ex) (d : Int) : partsL (a ++ b) d = partsL a d ++ partsL b d := by
 induction a with
 | nil => rw [partsL_nil]; rfl
 | cons x a ih => rw [List.cons_append, partsL_cons, partsL_cons, ih, List.append_assoc]
theorem partsL_take {l : List Ex} {i : Nat} {x : Ex} (hx : l[i]? = some x) (d : Int) : partsL (l.take (i + 1)) d = partsL (l.take i) d ++ partsE x d := by
 rw [List.take_add_one, hx]
 show partsL (l.take i ++ [x]) d = _
 rw [partsL_append, partsL_cons, partsL_nil, List.append_nil]
theorem numE_eq : ∀ (x : Ex), numE x = 1 + numL x.l
 | .mk _ _ _ _ _ _ _ => by rw [numE]; rfl
theorem numE_pos (x : Ex) : 1 ≤ numE x := by rw [numE_eq]; omega
theorem numL_cons (x : Ex) (r : List Ex) : numL (x :: r) = numE x + numL r := by rw [numL]
theorem numL_nil : numL [] = 0 := by rw [numL]
theorem numL_len : ∀ (l : List Ex), l.length ≤ numL l
 | [] => by simp
 | x :: r => by rw [numL_cons, List.length_cons]; have := numL_len r; have := numE_pos x; omega
theorem numL_mem : ∀ {l : List Ex} {x : Ex}, x ∈ l → numE x ≤ numL l
 | y :: r, x, h => by
  rw [numL_cons]
  rcases List.mem_cons.1 h with rfl | h
  ·omega
  ·have := numL_mem h; omega
theorem numE_kid {x y : Ex} (h : y ∈ x.l) : numE y < numE x := by rw [numE_eq x]; have := numL_mem h; omega
theorem numE_len (x : Ex) : x.l.length < numE x := by rw [numE_eq]; have := numL_len x.l; omega
theorem parts_num : ∀ (n : Nat) (x : Ex) (d : Int), numE x ≤ n → (partsE x d).length = numE x
 | 0, x, _, h => by have := numE_pos x; omega
 | n + 1, x, d, h => by
  rw [partsE_eq, numE_eq, List.length_cons, Nat.add_comm]
  congr 1
  have key : ∀ l : List Ex, (∀ y ∈ l, numE y ≤ n) → (partsL l (d + 1)).length = numL l := by
   intro l
   induction l with
   | nil => intro _; rw [partsL_nil, numL_nil]; rfl
   | cons y l ih =>
    intro hy
    rw [partsL_cons, List.length_append, numL_cons, parts_num n y _ (hy y List.mem_cons_self), ih fun z hz => hy z (List.mem_cons_of_mem _ hz)]
  exact key _ fun y hy => by have := numE_kid hy; omega
theorem partsE_len (x : Ex) (d : Int) : (partsE x d).length = numE x := parts_num _ x d (Nat.le_refl _)
theorem parts_hold (n : Nat) : ∀ {w : World} {N : Nat} {x : Ex} {d : Int}, numE x ≤ n → HoldE w N x → ∀ y ∈ partsE x d, HoldE w N y.1 ∧ numE y.1 ≤ numE x := by
 induction n with
 | zero => intro w N x d h; have := numE_pos x; omega
 | succ n ih =>
  intro w N x d h hx y hy
  rw [partsE_eq] at hy
  rcases List.mem_cons.1 hy with rfl | hy
  ·exact ⟨hx, Nat.le_refl _⟩
  ·have key : ∀ l : List Ex, (∀ z ∈ l, z ∈ x.l) → y ∈ partsL l (d + 1) → ∃ z ∈ x.l, y ∈ partsE z (d + 1) := by
    intro l
    induction l with
    | nil => intro _ h; rw [partsL_nil] at h; cases h
    | cons z l ihl =>
     intro hz h
     rw [partsL_cons, List.mem_append] at h
     rcases h with h | h
     ·exact ⟨z, hz z List.mem_cons_self, h⟩
     ·exact ihl (fun q hq => hz q (List.mem_cons_of_mem _ hq)) h
   obtain ⟨z, hz, hyz⟩ := key x.l (fun _ h => h) hy
   have := numE_kid hz
   have h2 := ih (by omega) (hx.kids z hz) y hyz
   exact ⟨h2.1, by omega⟩
structure Ru where
 kind : ByteArray
 kindNo : Int
 think : Int
 ex : Ex
abbrev Ru.cells (x : Ru) : List Value := [.string x.kind, .int .i64 x.kindNo, .int .i64 x.think, .int .i64 x.ex.kind, .int .i64 x.ex.n, .int .i64 x.ex.no, .string x.ex.name, .slice x.ex.u x.ex.l.length x.ex.c]
theorem encRu : EncOk Ru.cells 8 := ⟨fun _ => rfl, fun _ => rfl, by decide⟩
@[reducible] def strC (s : ByteArray) : List Value := [.string s]
theorem encStr : EncOk strC 1 := ⟨fun _ => rfl, fun _ => rfl, by decide⟩
structure Po where
 name : ByteArray
 kinds : List ByteArray
 ku : Option Addr
 kc : Nat
 offices : List ByteArray
 ou : Option Addr
 oc : Nat
 rules : List Ru
 ru : Option Addr
 rc : Nat
 change : Ex
 mode : Int
abbrev Po.cells (p : Po) : List Value := [.string p.name, .slice p.ku p.kinds.length p.kc, .slice p.ou p.offices.length p.oc, .slice p.ru p.rules.length p.rc, .int .i64 p.change.kind, .int .i64 p.change.n, .int .i64 p.change.no, .string p.change.name, .slice p.change.u p.change.l.length p.change.c, .int .i64 p.mode]
abbrev poV (p : Po) : Value := .agg p.cells.toArray
structure HoldP (w : World) (N : Nat) (p : Po) : Prop where
 k : IsL w strC 1 (.slice p.ku p.kinds.length p.kc) p.kinds
 o : IsL w strC 1 (.slice p.ou p.offices.length p.oc) p.offices
 r : IsL w Ru.cells 8 (.slice p.ru p.rules.length p.rc) p.rules
 re : ∀ x ∈ p.rules, HoldE w N x.ex
 ch : HoldE w N p.change
 kb : p.kinds ≠ [] → ∀ k, (Value.slice p.ku p.kinds.length p.kc).ownBlock = some k → k < N
 ob : p.offices ≠ [] → ∀ k, (Value.slice p.ou p.offices.length p.oc).ownBlock = some k → k < N
 rb : p.rules ≠ [] → ∀ k, (Value.slice p.ru p.rules.length p.rc).ownBlock = some k → k < N
theorem HoldP.ext {S : Nat → Prop} {w w' : World} {N : Nat} {p : Po} (h : HoldP w N p) (e : ExtB S w w') (hS : ∀ k, S k → N ≤ k) : HoldP w' N p :=
 ⟨isL_ext h.k e fun hne k hk hk' => by have := h.kb hne k hk; have := hS k hk'; omega, isL_ext h.o e fun hne k hk hk' => by have := h.ob hne k hk; have := hS k hk'; omega, isL_ext h.r e fun hne k hk hk' => by have := h.rb hne k hk; have := hS k hk'; omega,
  fun x hx => (h.re x hx).ext e hS, h.ch.ext e hS, h.kb, h.ob, h.rb⟩
theorem HoldP.up {w w' : World} {N : Nat} {p : Po} (h : HoldP w N p) (e : Ext w w') : HoldP w' N p := h.ext e fun _ h => h.elim
def exprsP (p : Po) : List Ex := p.rules.map Ru.ex ++ [p.change]
structure FewP (p : Po) : Prop where
 k : p.kinds.length ≤ 20
 o : p.offices.length ≤ 40
 r : p.rules.length ≤ 20
 c : numE p.change ≤ 40
 e : ∀ x ∈ p.rules, numE x.ex ≤ 40
 ns : p.name.size < 9223372036854775808
 ks : ∀ s ∈ p.kinds, s.size < 9223372036854775808
 os : ∀ s ∈ p.offices, s.size < 9223372036854775808
structure Vs where
 no : Int
 at_ : Int
 known : Int
 pol : Po
abbrev Vs.cells (x : Vs) : List Value := [.int .i64 x.no, .int .i64 x.at_, .int .i64 x.known, .string x.pol.name, .slice x.pol.ku x.pol.kinds.length x.pol.kc, .slice x.pol.ou x.pol.offices.length x.pol.oc, .slice x.pol.ru x.pol.rules.length x.pol.rc, .int .i64 x.pol.change.kind, .int .i64 x.pol.change.n, .int .i64 x.pol.change.no, .string x.pol.change.name, .slice x.pol.change.u x.pol.change.l.length x.pol.change.c, .int .i64 x.pol.mode]
theorem encVs : EncOk Vs.cells 13 := ⟨fun _ => rfl, fun _ => rfl, by decide⟩
abbrev vsV (x : Vs) : Value := .agg x.cells.toArray
end Go.Pol
end
section
set_option maxRecDepth 4000
namespace Go.Pol
open Go.Rn Go.Rec
abbrev partC (p : Ex × Int) : List Value := [.int .i64 p.1.kind, .int .i64 p.1.n, .int .i64 p.1.no, .string p.1.name, .slice p.1.u p.1.l.length p.1.c, .int .i64 p.2]
abbrev partV (p : Ex × Int) : Value := .agg (partC p).toArray
abbrev partsV (b1 b2 : Nat) : Value := .func (.func 182) #[] #[.pointer (some ⟨b1, 0, none⟩), .pointer (some ⟨b2, 0, none⟩)]
theorem parts_get {x y : Ex} {d : Int} {i q : Nat} {p : Ex × Int} (hy : x.l[i]? = some y) (hp : (partsE y (d + 1))[q]? = some p) : (partsE x d)[1 + (partsL (x.l.take i) (d + 1)).length + q]? = some p := by
 have e : x.l = x.l.take i ++ y :: x.l.drop (i + 1) := by
  obtain ⟨hi, e⟩ := List.getElem?_eq_some_iff.1 hy
  rw [← e, List.getElem_cons_drop, List.take_append_drop]
 rw [partsE_eq, show 1 + (partsL (x.l.take i) (d + 1)).length + q = (partsL (x.l.take i) (d + 1)).length + q + 1 by omega, List.getElem?_cons_succ]
 conv => lhs; arg 1; arg 1; rw [e]
 rw [partsL_append, partsL_cons, List.getElem?_append_right (by omega), show (partsL (x.l.take i) (d + 1)).length + q - (partsL (x.l.take i) (d + 1)).length = q by omega]
 rw [List.getElem?_append_left (List.getElem?_eq_some_iff.1 hp).1, hp]
end Go.Pol
namespace Go.Sg
open Go.Rn Go.Proofs Go.Rec Go.RowKit Go.Pol
attribute [local irreducible] Go.Rn.RetsX Go.Rn.RunLN Go.Rn.AsyN Go.Rn.RunL Go.Rn.RunE Go.Rn.Asy Go.Rn.OpV Go.Rn.OpE Go.Rn.ExecE
theorem parts_call (x : Ex) (d : Int) (w : World) : Rets Tryz.prog 143 [exV x, .int .i64 d] w fun r w' => (∃ b1 b2, r = partsV b1 b2 ∧ w.heap.size ≤ b1 ∧ w.heap.size ≤ b2 ∧ Blk w' b1 x.cells 78 ∧ Blk w' b2 [.int .i64 d] 3) ∧ Ext w w' := by
 refine en Tryz.func143 6 fun hf_ => ?_
 refine g1 (cs := x.cells) fun B1 w1 E1 G1 Z1 => ?_
 refine g1 (cs := [.int .i64 d]) fun B2 w2 E2 G2 Z2 => ?_
 refine rt ?_
 exact ⟨⟨B1, B2, rfl, G1, by have := E1.size; omega, Z1.up E2, Z2⟩, E1.trans E2⟩
theorem parts_gives : ∀ (n : Nat) (x : Ex), numE x ≤ n → ∀ (d : Int) (N b1 b2 : Nat) (w0 : World), 0 ≤ d → d + n ≤ 1000000 → n ≤ 1000000 → HoldE w0 N x → N ≤ w0.heap.size → Blk w0 b1 x.cells 78 → Blk w0 b2 [.int .i64 d] 3 →
  GivesX Tryz.prog (partsV b1 b2) ((partsE x d).map fun p => [partV p]) w0 (fun k => k = b1 ∨ k = b2 ∨ k < N) := by
 intro n
 induction n with
 | zero => intro x h; have := numE_pos x; omega
 | succ n ih =>
 intro x hnx d N b1 b2 w0 hd0 hdn hn6 hH hN Y1 Y2 S J Z X y w hyc hF hS hE hJ0 hJup hZup hXup hy
 refine RetsX.v (fi := []) (args := [y]) (ca := [.pointer (some ⟨b1, 0, none⟩), .pointer (some ⟨b2, 0, none⟩)]) ?_
 change RetsX Tryz.prog 182 [y, .pointer (some ⟨b1, 0, none⟩), .pointer (some ⟨b2, 0, none⟩)] _ _ _
 have hSN : ∀ k, S k → N ≤ k := fun k hk => by
  rcases Nat.lt_or_ge k N with h | h
  ·exact absurd hk (hF k (.inr (.inr h)))
  ·exact h
 have at_ : ∀ w', ExtB S w w' → Blk w' b1 x.cells 78 ∧ Blk w' b2 [.int .i64 d] 3 ∧ HoldE w' N x := fun w' e => ⟨(Y1.ext hE (hF b1 (.inl rfl))).ext e (hF b1 (.inl rfl)), (Y2.ext hE (hF b2 (.inr (.inl rfl)))).ext e (hF b2 (.inr (.inl rfl))), (hH.ext hE hSN).ext e hSN⟩
 have hsw := hE.size
 have hlen := numE_len x
 refine en Tryz.func182 30 fun hf_ => ?_
 refine g ?_
 refine RunL.box rfl rfl rfl fun B3 w1 a1 => ?_
 rw [hyc] at a1
 have E1 := a1.ext
 have G3 : w.heap.size ≤ B3 := by rw [a1.eq]; exact Nat.le_refl _
 have Z3 : Blk w1 B3 [y] 272 := a1.at_
 clear a1
 obtain ⟨U1, U2, -⟩ := at_ w1 (ExtB.of_ext E1)
 have s1 := E1.size
 refine g ?_
 refine RunL.exS rfl rfl rfl (OpE.callV rfl rfl (hy 0 [partV (x, d)] w1 (by rw [partsE_eq]; rfl) (hJup 0 w w1 hJ0 (ExtB.of_ext E1)) (ExtB.of_ext E1))) (fun ch w' a hx hst => FnQ.panic0 hf_ hst ⟨hx.1, (ExtB.of_ext E1).trans hx.2⟩) ?_
 rintro r w2 ⟨hr, e2⟩
 have X2 : ExtB S w w2 := (ExtB.of_ext E1).trans e2
 have s2 := e2.size
 rcases hr with ⟨rfl, hJ1⟩ | ⟨rfl, hZ⟩
 case inr =>
  refine rt ?_
  exact ⟨.inr hZ, X2⟩
 have Z32 : Blk w2 B3 [y] 272 := Z3.ext e2 fun h => by have := hS _ h; omega
 clear U1 U2
 obtain ⟨U1, U2, hH2⟩ := at_ w2 X2
 refine g ?_
 refine RunE.loopD (ι := Nat × List Nat) (fun s => [(1, .pointer (some ⟨b1, 0, none⟩)), (2, .pointer (some ⟨b2, 0, none⟩)), (3, .pointer (some ⟨B3, 0, none⟩)), (14, .slice x.u x.l.length x.c), (15, .int .i64 (x.l.length : Int)), (16, .int .i64 (s.1 : Int))]) (fun s => s.2.map markOf)
  (fun s w' => s.1 ≤ x.l.length ∧ J (1 + (partsL (x.l.take s.1) (d + 1)).length) w' ∧ ExtB S w w' ∧ Blk w' B3 [y] 272 ∧ s.2.Nodup ∧ w1.heap.size ≤ w'.heap.size ∧ ∀ D ∈ s.2, w'.heap[D]? = some (.deferred (some [])) ∧ w.heap.size ≤ D) (fun s => x.l.length - s.1) (0, []) sb_ rfl ⟨Nat.zero_le _, by rw [List.take_zero, partsL_nil]; exact hJ1, X2, Z32, List.nodup_nil, s2, by simp⟩ ?_
 clear U1 U2 hH2 Z32 X2 hJ1 s2 e2 Z3
 rintro ⟨i, Ds⟩ w3 ⟨hi, hJ, X3, Z3, hnd, hsz, hDs⟩ again
 simp only at hi hJ hnd hDs again ⊢
 obtain ⟨U1, U2, hH3⟩ := at_ w3 X3
 by_cases hlt : i < x.l.length
 case neg =>
  obtain rfl : i = x.l.length := by omega
  rw [List.take_length] at hJ
  refine g ?_
  refine RunE.fallFnM Ds hf_ (fun D hD => (hDs D hD).1) hnd fun w' e => ⟨_, .nil, ?_, ?_⟩
  ·refine .inl (hJup _ w3 w' ?_ (e.mono fun k _ hk => (hDs k hk).2))
   rw [List.length_map, partsE_eq, List.length_cons, Nat.add_comm]; exact hJ
  ·exact X3.write e (by intro k hk hlt; have := (hDs k hk).2; omega)
 obtain ⟨c, hc⟩ : ∃ c, x.l[i]? = some c := ⟨_, List.getElem?_eq_getElem hlt⟩
 have hcm := List.mem_of_getElem? hc
 obtain ⟨b, o, cap, hve, hr, -⟩ := isL_held hH3.list hlt
 have hrx := flat_row encEx hr hc
 rw [hve]
 rw [hve] at again
 have hnc := numE_kid hcm
 have htk := partsL_take hc (d + 1)
 refine g1 (cs := c.cells) fun B5 w4 E4 G5 Z5 => ?_
 refine gc (parts_call c (d + 1) w4) ?_
 rintro _ w5 ⟨⟨c1, c2, rfl, gb1, gb2, V1, V2⟩, E5⟩
 have E35 : Ext w3 w5 := E4.trans E5
 have s35 := E35.size
 have s34 := E4.size
 have s4 := E5.size
 have X5 : ExtB S w w5 := X3.trans (ExtB.of_ext E35)
 have sw3 := X3.size
 obtain ⟨-, -, hH5⟩ := at_ w5 X5
 have Z35 := Z3.up E35
 have hl3 := Z35.lt
 have hDs5 : ∀ w', ExtB S w5 w' → ∀ D ∈ Ds, w'.heap[D]? = some (.deferred (some [])) := fun w' e D hD => obj_ext (obj_ext (hDs D hD).1 E35 id) e fun h => by have := hS _ h; have := (hDs D hD).2; omega
 have hDlt : ∀ D ∈ Ds, D < w5.heap.size := fun D hD => Nat.lt_of_lt_of_le (lt_of_get (hDs D hD).1) s35
 have hnd' : (w5.heap.size :: Ds).Nodup := List.nodup_cons.2 ⟨fun h => by have := hDlt _ h; omega, hnd⟩
 have hall : ∀ w', ExtB S w5 w' → w'.heap[w5.heap.size]? = some (.deferred (some [])) → ∀ D ∈ w5.heap.size :: Ds, w'.heap[D]? = some (.deferred (some [])) := fun w' e h D hD => by
  rcases List.mem_cons.1 hD with rfl | hD
  ·exact h
  ·exact hDs5 w' e D hD
 have hge : ∀ D ∈ w5.heap.size :: Ds, w.heap.size ≤ D := fun D hD => by
  rcases List.mem_cons.1 hD with rfl | hD
  ·omega
  ·exact (hDs D hD).2
 refine g ?_
 refine RunE.rangeGivesX (w0 := w5) (F := fun k => k = c1 ∨ k = c2 ∨ k < N) rfl ⟨_, hf_⟩ rfl (ih c (by omega) (d + 1) N c1 c2 w5 (by omega) (by omega) (by omega) (hH5.kids c hcm) (by omega) V1 V2) S (fun k hk => ?_) (fun k hk => by have := hS k hk; omega) (ExtB.refl _ _) (fun ys hx => ?_) rfl
  (fun q w' => J (1 + (partsL (x.l.take i) (d + 1)).length + q) w') Z (fun _ _ => False) X (hJup _ _ _ hJ (ExtB.of_ext E35)) (fun q u u' h e => hJup _ _ _ h (e.mono fun k _ hk => by have hk : w5.heap.size ≤ k := hk; omega)) (fun u u' h e => hZup _ _ h (e.mono fun k _ hk => by have hk : w5.heap.size ≤ k := hk; omega)) (fun _ _ _ h _ => h) (fun ch u u' h e => hXup _ _ _ h (e.mono fun k _ hk => by have hk : w5.heap.size ≤ k := hk; omega)) ?_ ?_ ?_ (fun _ _ h => h.elim) ?_
 ·have l1 := V1.lt
  have l2 := V2.lt
  rcases hk with rfl | rfl | hk
  ·exact ⟨fun h => by have := hS _ h; omega, l1⟩
  ·exact ⟨fun h => by have := hS _ h; omega, l2⟩
  ·exact ⟨hF k (.inr (.inr hk)), by omega⟩
 ·obtain ⟨a, -, rfl⟩ := List.mem_map.1 hx; rfl
 ·intro q ys u lp hx hJq hXu hL hs hsu
  obtain ⟨p, hpq, rfl⟩ : ∃ p, (partsE c (d + 1))[q]? = some p ∧ ys = [partV p] := by
   simp only [List.getElem?_map, Option.map_eq_some_iff] at hx
   obtain ⟨a, h, rfl⟩ := hx; exact ⟨a, h, rfl⟩
  have hpx := parts_get hc hpq
  have Z3u := Z35.ext hXu fun h => by have := hS _ h; omega
  simp only [parEnv]
  refine g1 (cs := partC p) fun B6 u2 XA G6 Z6 => ?_
  refine RunE.beginR (hL.up XA) hs (by omega) fun u3 t3 hL3 => ?_
  have sA := XA.size
  have V6 := Z6.ext t3 (by omega)
  have V3 := (Z3u.up XA).ext t3 (by omega)
  have eu : ExtB S w5 u3 := (hXu.trans (ExtB.of_ext XA)).write t3 (by intro k hk hlt; have hk : k = _ := hk; omega)
  have eu1 : ExtB (fun k => S k ∨ k = w5.heap.size + 1) u u3 := (ExtB.of_ext XA).trans (t3.mono fun k _ h => .inr h)
  have hJ3 := hJup _ _ _ hJq ((ExtB.of_ext XA : ExtB (fun k => w.heap.size ≤ k) u u2).trans (t3.mono fun k _ h => by have h : k = _ := h; omega))
  refine g ?_
  refine RunL.exS rfl rfl rfl (OpE.callV rfl rfl (hy (1 + (partsL (x.l.take i) (d + 1)).length + q) [partV p] u3 (by rw [List.getElem?_map, hpx]; rfl) hJ3 (X5.trans eu))) (fun ch w' a hx hst => ⟨by rw [hst.defers], ⟨hx.1, eu1.trans (hx.2.mono fun k _ h => .inl h)⟩, obj_ext hL3.d hx.2 fun h => by have := hS _ h; omega⟩) ?_
  rintro r u4 ⟨hr, e4⟩
  have L4 := hL3.ext e4 (fun h => by have := hS _ h; omega) (fun h => by have := hS _ h; omega)
  have eu4 := eu1.trans (e4.mono fun k _ h => (.inl h : S k ∨ k = w5.heap.size + 1))
  rcases hr with ⟨rfl, hJ4⟩ | ⟨rfl, hZ⟩
  ·refine g ?_
   exact RunE.endX ⟨hJ4, eu4⟩ L4
  ·refine g ?_
   exact RunE.stopX ⟨hZ, eu4⟩ L4
 ·rintro w6 hJ6 e6 hD6
  rw [List.length_map] at hJ6
  refine g ?_
  refine RunE.weaken sb_ (again (i + 1, w5.heap.size :: Ds) w6 (by simp only; omega) ⟨hlt, ?_, X5.trans e6, Z35.ext e6 (fun h => by have := hS _ h; omega), hnd', by have := e6.size; omega, fun D hD => ⟨hall w6 e6 hD6 D hD, hge D hD⟩⟩)
  rw [htk, List.length_append, ← Nat.add_assoc]; exact hJ6
 ·rintro w6 hZ e6 hD6
  refine RunE.retFnM (w5.heap.size :: Ds) hf_ (hall w6 e6 hD6) hnd' fun w' e => ⟨_, .nil, .inr (hZup _ _ hZ (e.mono fun k _ hk => hge k hk)), (X5.trans e6).write e (by intro k hk hlt; have := hge k hk; omega)⟩
 ·rintro ch w6 a hx e6 hD6 hst
  exact FnQ.panicM (w5.heap.size :: Ds) hf_ hst.defers (hall w6 e6 hD6) hnd' fun w' e => ⟨hXup _ _ _ hx (e.mono fun k _ hk => hge k hk), (X5.trans e6).write e (by intro k hk hlt; have := hge k hk; omega)⟩
end Go.Sg
end
section
set_option maxRecDepth 4000
namespace Go.Rn
open Go.RowKit
theorem RunE.monoQ {P : Program} {c : Ctx} {k : List Item} {Q Q' : Out → Act → World → Prop} {w : World} {n : Nat} {ds : List Deferred} {env : Env} (h : RunE P c n ds k Q env w) (hq : ∀ o a w, Q o a w → Q' o a w) : RunE P c n ds k Q' env w := fun a ha => Run.mono hq (h a ha)
theorem Blk.sub {w : World} {b : Nat} {cs ds : List Value} {t : TypeId} (pre post : List Value) (h : Blk w b cs t) (e : cs = pre ++ (ds ++ post)) : Row w b pre.length ds := h.rowAt pre.length fun i v hv => by
 rw [e, List.getElem?_append_right (by omega), Nat.add_sub_cancel_left, List.getElem?_append_left (List.getElem?_eq_some_iff.1 hv).1]; exact hv
end Go.Rn
namespace Go.Pol
open Go.Rn Go.Rec
def StopP (ch : List PanicEntry) : Prop := ∃ e : Int, e ≠ 0 ∧ ch = panOf 264 (.agg #[.int .i64 e])
def namedX (x : Ex) : Bool := decide (x.kind = 1) || decide (x.kind = 2)
end Go.Pol
namespace Go.Sg
open Go.Rn Go.Proofs Go.Rec Go.RowKit Go.Pol
attribute [local irreducible] Go.Rn.RetsX Go.Rn.RunLN Go.Rn.AsyN Go.Rn.RunL Go.Rn.RunE Go.Rn.Asy Go.Rn.OpV Go.Rn.OpE Go.Rn.ExecE
theorem must_ok (b : Bool) (e : Int) (he : e ≠ 0) (w : World) : RetsX Tryz.prog 177 [.bool b, .int .i64 e] w (fun _ w' => b = true ∧ w = w') (fun ch w' => b = false ∧ StopP ch ∧ w = w') := by
 refine en Tryz.func177 9 fun hf_ => ?_
 cases b with
 | true =>
  refine g ?_
  exact RunE.fallFn hf_ .nil ⟨rfl, rfl⟩
 | false =>
  refine g ?_
  exact RunL.panicN hf_ rfl rfl rfl ⟨rfl, ⟨e, he, rfl⟩, rfl⟩
instance iPolQ_1 (n lo hi : Int) : Pf 29 [.int .i64 n, .int .i64 lo, .int .i64 hi] (.bool (decide (lo ≤ n ∧ n ≤ hi))) := ⟨fun w => by
 refine en Tryz.func29 15 fun hf_ => ?_
 repeat' (first | refine gn (fun h_ => ?_) (fun h_ => ?_) | fail)
 all_goals
  refine rt ?_
  exact ⟨congrArg Value.bool clB, rfl⟩⟩
theorem named_ok (x : Ex) (w : World) : Rets Tryz.prog 144 [exV x] w fun r w' => r = .bool (namedX x) ∧ Ext w w' := by
 unfold namedX
 refine en Tryz.func144 11 fun hf_ => ?_
 refine g1 (cs := x.cells) fun B1 w1 E1 G1 Z1 => ?_
 by_cases h1 : x.kind = 1
 ·refine rt ?_
  exact ⟨by rw [decide_eq_true h1]; rfl, xt⟩
 ·by_cases h2 : x.kind = 2
  ·refine rt ?_
   exact ⟨by rw [decide_eq_false h1, decide_eq_true h2]; rfl, xt⟩
  ·refine rt ?_
   exact ⟨by rw [decide_eq_false h1, decide_eq_false h2]; rfl, xt⟩
instance iPolQ_2 (x : Ex) : Px 144 [exV x] (.bool (namedX x)) := ⟨fun w => named_ok x w⟩
theorem exprs_ok (p : Po) (N : Nat) (w : World) (hF : FewP p) (hH : HoldP w N p) : Rets Tryz.prog 178 [poV p] w fun r w' => IsL w' Ex.cells 5 r (exprsP p) ∧ Ext w w' := by
 refine en Tryz.func178 23 fun hf_ => ?_
 refine g1 (cs := p.cells) fun B1 w1 E1 G1 Z1 => ?_
 have hr := hH.r.up E1
 have hl := hF.r
 refine g ?_
 refine rangeL hr encRu 6 7 8 (fun s : Value => [(1, .pointer (some ⟨B1, 0, none⟩)), (2, s)])
  (fun i s w' => w'.ownsRow w1.heap.size 78 5 s ((p.rules.take i).map Ru.ex).length (flat Ex.cells ((p.rules.take i).map Ru.ex)) ∧ Ext w1 w') (.slice none 0 0) sb_ ⟨World.ownsRow_nil _ _ _ _, ExtB.refl _ _⟩ ?_ ?_
 ·rintro i s x w4 hx ⟨hO, X4⟩ b o cap hve hrx hlt again
  have s4 := X4.size
  rw [hve] at again ⊢
  have htk : (p.rules.take (i + 1)).map Ru.ex = (p.rules.take i).map Ru.ex ++ [x.ex] := by rw [List.take_add_one, hx, List.map_append]; rfl
  rw [htk, flat_append, flat_one, List.length_append] at again
  have hl4 : ((p.rules.take i).map Ru.ex).length ≤ 20 := by rw [List.length_map, List.length_take]; omega
  generalize (p.rules.take i).map Ru.ex = acc at hO again hl4
  refine g1 (cs := x.cells) fun B4 w5 E5 G5 Z5 => ?_
  have Zr : Row w5 B4 3 x.ex.cells := Z5.sub [.string x.kind, .int .i64 x.kindNo, .int .i64 x.think] [] rfl
  refine g ?_
  refine ap1 encEx x.ex hO E5 s4 (by omega) rfl rfl rfl rfl rfl rfl rfl rfl rfl rfl (fun _ => rfl) rfl (fun _ => rfl) fun q1 y' w7 O7 E7 _ => ?_
  refine g ?_
  exact RunE.weaken sb_ (again y' w7 ⟨O7, X4.write E7 (by intro k hk hlt'; have := ownsRow_ge hO hk; omega)⟩)
 ·rintro s w4 ⟨hO, X4⟩
  have s4 := X4.size
  rw [List.take_length] at hO
  have Zr : Row w1 B1 4 p.change.cells := Z1.sub [.string p.name, .slice p.ku p.kinds.length p.kc, .slice p.ou p.offices.length p.oc, .slice p.ru p.rules.length p.rc] [.int .i64 p.mode] rfl
  refine g ?_
  refine ap1 encEx p.change hO (ExtB.refl _ _) s4 (by rw [List.length_map]; omega) rfl rfl rfl rfl rfl rfl rfl rfl rfl rfl (fun _ => rfl) rfl (fun _ => rfl) fun q1 y' w7 O7 E7 _ => ?_
  refine rt ?_
  refine ⟨?_, E1.trans (X4.write E7 (by intro k hk hlt'; have := ownsRow_ge hO hk; omega))⟩
  have := isSl_own O7
  unfold IsL exprsP
  rw [flat_append, flat_one, List.length_append]; exact this
theorem all_take {α : Type} {f : α → Bool} {l : List α} {i : Nat} {x : α} (hx : l[i]? = some x) (h : (l.take i).all f = true) (hf : f x = true) : (l.take (i + 1)).all f = true := by
 rw [List.take_add_one, hx, List.all_append, h]; simp [hf]
theorem all_bad {α : Type} {f : α → Bool} {l : List α} {i : Nat} {x : α} (hx : l[i]? = some x) (hf : f x = false) : l.all f = false := by
 rw [List.all_eq_false]; exact ⟨x, List.mem_of_getElem? hx, by simp [hf]⟩
theorem rangeParts {g : FuncId} {fn : Func} {R : Value → World → Prop} {X : List PanicEntry → World → Prop} {n : Nat} {k : List Item} {env : Env} {f : Operand} {param : Tmp} {assign body : Code} (hf : Tryz.prog.funcs[g]? = some fn)
  (x : Ex) (N c1 c2 : Nat) (w : World) (Ds : List Nat) (chk : Ex × Int → Bool) (S0 : Nat → Prop) (Jx : Nat → World → Prop) (Zx : World → Prop)
  (hx40 : numE x ≤ 40) (hH : HoldE w N x) (hN : N ≤ w.heap.size) (V1 : Blk w c1 x.cells 78) (V2 : Blk w c2 [.int .i64 1] 3)
  (hfv : evO env f = some (partsV c1 c2)) (hp : Nat.blt param n = true)
  (hDs : ∀ D ∈ Ds, w.heap[D]? = some (.deferred (some []))) (hnd : Ds.Nodup) (hS0 : ∀ k, S0 k → N ≤ k ∧ k < w.heap.size ∧ k ≠ c1 ∧ k ≠ c2 ∧ k ∉ Ds)
  (hJ0 : Jx 0 w) (hJup : ∀ q u u', Jx q u → ExtB (fun k => w.heap.size ≤ k) u u' → Jx q u') (hZup : ∀ u u', Zx u → ExtB (fun k => w.heap.size ≤ k) u u' → Zx u')
  (hb : ∀ q p u lp, (partsE x 1)[q]? = some p → Jx q u → ExtB S0 w u → HoldE u N p.1 → LoopAt u (w.heap.size + 1) w.heap.size lp → lp.state = .ready → w.heap.size + 2 ≤ u.heap.size →
   RunE Tryz.prog ⟨g, .normal, some (w.heap.size + 1)⟩ n [] [.code assign, .beginRound, .code body]
    (RoundX (w.heap.size + 1) w.heap.size lp (fun u' => (chk p = true ∧ Jx (q + 1) u') ∧ ExtB (fun k => S0 k ∨ k = w.heap.size + 1) u u') (fun u' => (chk p = false ∧ Zx u') ∧ ExtB (fun k => S0 k ∨ k = w.heap.size + 1) u u') (fun _ u' => False ∧ ExtB (fun k => S0 k ∨ k = w.heap.size + 1) u u') (fun ch u' => (chk p = false ∧ StopP ch) ∧ ExtB (fun k => S0 k ∨ k = w.heap.size + 1) u u')) ((param, partV p) :: env) u)
  (h : (partsE x 1).all chk = true → ∀ w', Jx (numE x) w' → ExtB S0 w w' → (∀ D ∈ w.heap.size :: Ds, w'.heap[D]? = some (.deferred (some []))) → (w.heap.size :: Ds).Nodup → RunE Tryz.prog ⟨g, .normal, none⟩ n ((w.heap.size :: Ds).map markOf) k (FnQ Tryz.prog g R X) env w')
  (h' : (partsE x 1).all chk = false → ∀ w', Zx w' → ExtB S0 w w' → (∀ D ∈ w.heap.size :: Ds, w'.heap[D]? = some (.deferred (some []))) → (w.heap.size :: Ds).Nodup → RunE Tryz.prog ⟨g, .normal, none⟩ n ((w.heap.size :: Ds).map markOf) (.code .ret :: k) (FnQ Tryz.prog g R X) env w')
  (h3 : (partsE x 1).all chk = false → ∀ ch w1 w', StopP ch → ExtB S0 w w1 → ExtB (· ∈ w.heap.size :: Ds) w1 w' → X ch w') :
  RunE Tryz.prog ⟨g, .normal, none⟩ n (Ds.map markOf) (.code (.rangeFunc f #[param] assign body) :: k) (FnQ Tryz.prog g R X) env w := by
 have hDlt : ∀ D ∈ Ds, D < w.heap.size := fun D hD => lt_of_get (hDs D hD)
 have hnd' : (w.heap.size :: Ds).Nodup := List.nodup_cons.2 ⟨fun h => by have := hDlt _ h; omega, hnd⟩
 have hall : ∀ w', ExtB S0 w w' → w'.heap[w.heap.size]? = some (.deferred (some [])) → ∀ D ∈ w.heap.size :: Ds, w'.heap[D]? = some (.deferred (some [])) := fun w' e h D hD => by
  rcases List.mem_cons.1 hD with rfl | hD
  ·exact h
  ·exact obj_ext (hDs D hD) e fun hs => (hS0 D hs).2.2.2.2 hD
 have l1 := V1.lt
 have l2 := V2.lt
 refine RunE.rangeGivesX (w0 := w) (F := fun k => k = c1 ∨ k = c2 ∨ k < N) rfl ⟨_, hf⟩ hfv (parts_gives 40 x hx40 1 N c1 c2 w (by decide) (by decide) (by decide) hH hN V1 V2) S0 (fun k hk => ?_) (fun k hk => (hS0 k hk).2.1) (ExtB.refl _ _) (fun ys hx => ?_) (by simpa using hp)
  (fun q u => ((partsE x 1).take q).all chk = true ∧ Jx q u) (fun u => (partsE x 1).all chk = false ∧ Zx u) (fun _ _ => False) (fun ch _ => (partsE x 1).all chk = false ∧ StopP ch) ⟨rfl, hJ0⟩ (fun q u u' h e => ⟨h.1, hJup q u u' h.2 e⟩) (fun u u' h e => ⟨h.1, hZup u u' h.2 e⟩) (fun _ _ _ h _ => h) (fun _ _ _ h _ => h) ?_ ?_ ?_ (fun _ _ h => h.elim) ?_
 ·rcases hk with rfl | rfl | hk
  ·exact ⟨fun h => (hS0 _ h).2.2.1 rfl, l1⟩
  ·exact ⟨fun h => (hS0 _ h).2.2.2.1 rfl, l2⟩
  ·exact ⟨fun h => by have := (hS0 _ h).1; omega, by omega⟩
 ·obtain ⟨a, -, rfl⟩ := List.mem_map.1 hx; rfl
 ·intro q ys u lp hx hJq hXu hL hs hsu
  obtain ⟨p, hpq, rfl⟩ : ∃ p, (partsE x 1)[q]? = some p ∧ ys = [partV p] := by
   simp only [List.getElem?_map, Option.map_eq_some_iff] at hx
   obtain ⟨a, h, rfl⟩ := hx; exact ⟨a, h, rfl⟩
  have hHp := (parts_hold 40 hx40 (hH.ext hXu fun k hk => (hS0 k hk).1) p (List.mem_of_getElem? hpq)).1
  refine RunE.monoQ (hb q p u lp hpq hJq.2 hXu hHp hL hs hsu) fun o a1 u1 hq => ?_
  cases o with
  | fall => exact ⟨⟨⟨all_take hpq hJq.1 hq.1.1.1, hq.1.1.2⟩, hq.1.2⟩, hq.2⟩
  | ret => exact ⟨⟨⟨all_bad hpq hq.1.1.1, hq.1.1.2⟩, hq.1.2⟩, hq.2⟩
  | exit id => exact hq.1.1.elim
  | panic ch => exact ⟨hq.1, ⟨⟨all_bad hpq hq.2.1.1.1, hq.2.1.1.2⟩, hq.2.1.2⟩, hq.2.2⟩
 ·rintro w' ⟨ha, hJ⟩ e hD
  rw [List.length_map] at ha hJ
  rw [List.take_length] at ha
  rw [partsE_len] at hJ
  exact h ha w' hJ e (hall w' e hD) hnd'
 ·rintro w' ⟨ha, hZ⟩ e hD
  exact h' ha w' hZ e (hall w' e hD) hnd'
 ·rintro ch w' a ⟨ha, hs⟩ e hD hst
  exact FnQ.panicM (w.heap.size :: Ds) hf hst.defers (hall w' e hD) hnd' fun w2 e2 => h3 ha ch w' w2 hs e e2
end Go.Sg
end
section
set_option maxRecDepth 4000
namespace Go.Rn
open Go.RowKit
section
variable {P : Program} {w : World} {env : Env} {dst : Option Tmp} {ty : TypeId} {pos : String} {after : Array Edge} {guard : Option (Nat × Bool)}
theorem OpV.indexStr {t : TypeId} {x ix : Operand} {s : ByteArray} {kd : IntKind} {i : Int} {b : UInt8} (j : Nat) (ht : P.underlying t = some .string) (hx : evO env x = some (.string s)) (hi : evO env ix = some (.int kd i)) (hj : i = (j : Int)) (hb : s[j]? = some b) :
  OpV P env w ⟨dst, .index t x ix, ty, pos, after, guard⟩ (.int .u8 (b.toNat : Int)) := .of_run fun ρ hρ => by
 refine ⟨_, by simp only [execOp, hρ _ _ hx, hρ _ _ hi]; rfl, ?_⟩
 subst hj
 have h3 : (if 0 ≤ (j : Int) then s[(j : Int).toNat]? else none) = some b := by rw [if_pos (by omega)]; exact hb
 simp [Instr.index, asIntOf, run_underlying ht, h3]
 rw [hb]; rfl
theorem OpV.extern {g : FuncId} {fn : Func} {e : Array Value → Sem Value} {args : Array Operand} {ts : Array TypeId} {vs : List Value} {v : Value} (hf : P.funcs[g]? = some fn) (hname : (fn.name == "runtime.NumGoroutine") = false)
  (hb : fn.body.isNone = true) (hn : Extern.findNext fn = none) (he : Extern.find fn = some e) (ha : evL env args.toList = some vs) (hr : (e vs.toArray).run P w = .ok v w) :
  OpE P env w ⟨dst, .call ⟨.value (.func g), args, ts⟩, ty, pos, after, guard⟩ (fun u w' => u = v ∧ w = w') fun _ _ => False :=
 .callV (fv := .func (.func g) #[] #[]) rfl ha (by
  unfold FnV ExecE
  have : (do let d ← Deferred.ofValue (.func (.func g) #[] #[]) vs.toArray; invoke d.target d.args : Sem Next).run P w = .ok (.value v) w := by
   rw [run_bind _ _ (show (Deferred.ofValue (.func (.func g) #[] #[]) vs.toArray).run P w = .ok { target := .fn (.func g) #[], args := #[] ++ vs.toArray } w from rfl)]
   simp only [invoke]
   rw [show (#[] ++ vs.toArray ++ #[] : Array Value) = vs.toArray by simp]
   rw [run_callFunc_extern hf hname hb hn he, hr]
   rfl
  rw [this]
  exact ⟨rfl, rfl⟩)
end
end Go.Rn
namespace Go.Pol
def eqS (a b : ByteArray) : Bool := a.toList == b.toList
def idxS (l : List ByteArray) (s : ByteArray) : Int := match l.findIdx? (eqS s) with
 | some i => (i : Int)
 | none => -1
def letterB (c : Int) : Bool := (decide (97 ≤ c) && decide (c ≤ 122)) || (decide (65 ≤ c) && decide (c ≤ 90))
def digitB (c : Int) : Bool := decide (48 ≤ c) && decide (c ≤ 57)
def classB (c : Int) : Int := if letterB c then 2 else if digitB c then 3 else if c = 95 then 5 else if c = 32 ∨ c = 9 ∨ c = 10 ∨ c = 13 then 1 else if 0 ≤ Go.Lib.indexByte "{}();,=:.<>!+-*/".toUTF8.data.toList c.toNat.toUInt8 then 4 else 0
def nameC (c : Int) : Bool := decide (classB c = 2) || decide (classB c = 3) || decide (classB c = 5)
def nameB (s : ByteArray) : Bool := !(s.toList == (⟨#[]⟩ : ByteArray).toList) && decide (s.size ≤ 32) && (match s[0]? with | some c => decide (classB (c.toNat : Int) = 2) | none => false) && (List.range s.size).all fun i => match s[i]? with | some c => nameC (c.toNat : Int) | none => true
end Go.Pol
namespace Go.Sg
open Go.Rn Go.Proofs Go.Rec Go.RowKit Go.Pol
attribute [local irreducible] Go.Rn.RetsX Go.Rn.RunLN Go.Rn.AsyN Go.Rn.RunL Go.Rn.RunE Go.Rn.Asy Go.Rn.OpV Go.Rn.OpE Go.Rn.ExecE
theorem idx_ok (l : List ByteArray) (v : Value) (s : ByteArray) (w : World) (hl : l.length ≤ 100000) (hv : IsL w strC 1 v l) : Rets Tryz.prog 145 [v, .string s] w fun r w' => r = .int .i64 (idxS l s) ∧ w = w' := by
 obtain ⟨d, cp, rfl⟩ := isSl_slice hv
 refine en Tryz.func145 19 fun hf_ => ?_
 refine g ?_
 refine rangeL hv encStr 6 7 8 (fun _ : Unit => [(0, .slice d l.length cp), (1, .string s)]) (fun i _ w' => l.findIdx? (eqS s) = ((l.drop i).findIdx? (eqS s)).map (· + i) ∧ w = w') () sb_ ⟨by simp, rfl⟩ ?_ ?_
 ·rintro i ⟨⟩ x _ hx ⟨h1, rfl⟩ b o cap hve hrx hlt again
  cases hve
  have hd : l.drop i = x :: l.drop (i + 1) := by
   obtain ⟨hi, e⟩ := List.getElem?_eq_some_iff.1 hx
   rw [List.drop_eq_getElem_cons hi, e]
  rw [hd, List.findIdx?_cons] at h1
  cases hc : s.toList == x.toList with
  | true =>
   rw [show eqS s x = true from hc] at h1
   simp only [if_true, Option.map_some, Nat.zero_add] at h1
   refine rt ?_
   exact ⟨by unfold idxS; rw [h1]; rfl, rfl⟩
  | false =>
   rw [show eqS s x = false from hc] at h1
   refine g ?_
   refine RunE.weaken sb_ (again () _ ⟨?_, rfl⟩)
   rw [h1]
   simp only [Bool.false_eq_true, if_false, Option.map_map]
   congr 1
   funext j; simp only [Function.comp_apply]; omega
 ·rintro ⟨⟩ _ ⟨h1, rfl⟩
  rw [List.drop_length] at h1
  refine rt ?_
  exact ⟨by unfold idxS; rw [h1]; rfl, rfl⟩
theorem hasS_ok (l : List ByteArray) (v : Value) (s : ByteArray) (w : World) (hl : l.length ≤ 100000) (hv : IsL w strC 1 v l) : Rets Tryz.prog 181 [v, .string s] w fun r w' => r = .bool (decide (0 ≤ idxS l s)) ∧ w = w' := by
 obtain ⟨d, cp, rfl⟩ := isSl_slice hv
 refine en Tryz.func181 9 fun hf_ => ?_
 refine gc (idx_ok l _ s w hl hv) ?_
 rintro _ _ ⟨rfl, rfl⟩
 generalize idxS l s = i
 by_cases h : 0 ≤ i
 ·refine rt ?_
  exact ⟨by rw [decide_eq_true h]; rfl, rfl⟩
 ·refine rt ?_
  exact ⟨by rw [decide_eq_false h]; rfl, rfl⟩
theorem index_ok (s : ByteArray) (c : Int) (w : World) : Rets Tryz.prog 221 [.string s, .int .u8 c] w fun r w' => r = .int .i64 (Go.Lib.indexByte s.data.toList c.toNat.toUInt8) ∧ w = w' := by
 have h1 : Rets Tryz.prog 225 [.string s, .int .u8 c] w fun r w' => r = .int .i64 (Go.Lib.indexByte s.data.toList c.toNat.toUInt8) ∧ w = w' := by
  refine en Tryz.func225 8 fun hf_ => ?_
  refine g ?_
  refine RunL.ex rfl rfl rfl (OpV.extern Tryz.func227 (by kernel_rfl) (by kernel_rfl) (by kernel_rfl) (e := Extern.BytealgIndexByte.indexByte) (by kernel_rfl) rfl (Lib.run_indexByteString s c w)) ?_
  rintro _ _ ⟨rfl, rfl⟩
  refine rt ?_
  exact ⟨rfl, rfl⟩
 refine en Tryz.func221 8 fun hf_ => ?_
 refine gc h1 ?_
 rintro _ _ ⟨rfl, rfl⟩
 refine rt ?_
 exact ⟨rfl, rfl⟩
theorem class_ok (c : Int) (h0 : 0 ≤ c) (h1 : c < 256) (w : World) : Rets Tryz.prog 211 [.int .u8 c] w fun r w' => r = .int .i64 (classB c) ∧ w = w' := by
 unfold classB letterB digitB
 refine en Tryz.func211 47 fun hf_ => ?_
 by_cases h2 : (97 ≤ c ∧ c ≤ 122) ∨ (65 ≤ c ∧ c ≤ 90)
 ·rw [if_pos (by simpa using h2)]
  rcases h2 with h2 | h2
  ·refine rt ?_
   exact ⟨rfl, rfl⟩
  ·refine rt ?_
   exact ⟨rfl, rfl⟩
 ·rw [if_neg (by simpa using h2)]
  by_cases h3 : 48 ≤ c ∧ c ≤ 57
  ·rw [if_pos (by simpa using h3)]
   refine rt ?_
   exact ⟨rfl, rfl⟩
  ·rw [if_neg (by simpa using h3)]
   by_cases h4 : c = 95
   ·rw [if_pos h4]
    refine rt ?_
    exact ⟨rfl, rfl⟩
   ·rw [if_neg h4]
    by_cases h5 : c = 32 ∨ c = 9 ∨ c = 10 ∨ c = 13
    ·rw [if_pos h5]
     rcases h5 with h5 | h5 | h5 | h5
     all_goals
      refine rt ?_
      exact ⟨rfl, rfl⟩
    ·rw [if_neg h5]
     generalize hj : Go.Lib.indexByte _ c.toNat.toUInt8 = j
     have hi : Rets Tryz.prog 221 [.string "{}();,=:.<>!+-*/".toUTF8, .int .u8 c] w fun r w' => r = .int .i64 j ∧ w = w' := hj ▸ index_ok _ c w
     by_cases h6 : 0 ≤ j
     ·rw [if_pos h6]
      by_cases q1 : 97 ≤ c
      ·refine gc hi ?_
       rintro _ _ ⟨rfl, rfl⟩
       refine rt ?_
       exact ⟨rfl, rfl⟩
      ·by_cases q2 : 65 ≤ c
       ·refine gc hi ?_
        rintro _ _ ⟨rfl, rfl⟩
        refine rt ?_
        exact ⟨rfl, rfl⟩
       ·by_cases q3 : 48 ≤ c
        all_goals
         refine gc hi ?_
         rintro _ _ ⟨rfl, rfl⟩
         refine rt ?_
         exact ⟨rfl, rfl⟩
     ·rw [if_neg h6]
      by_cases q1 : 97 ≤ c
      ·refine gc hi ?_
       rintro _ _ ⟨rfl, rfl⟩
       refine rt ?_
       exact ⟨rfl, rfl⟩
      ·by_cases q2 : 65 ≤ c
       ·refine gc hi ?_
        rintro _ _ ⟨rfl, rfl⟩
        refine rt ?_
        exact ⟨rfl, rfl⟩
       ·by_cases q3 : 48 ≤ c
        all_goals
         refine gc hi ?_
         rintro _ _ ⟨rfl, rfl⟩
         refine rt ?_
         exact ⟨rfl, rfl⟩
theorem byte_lt (b : UInt8) : 0 ≤ (b.toNat : Int) ∧ (b.toNat : Int) < 256 := by have := b.toNat_lt; omega
theorem name_ok (s : ByteArray) (w : World) (hs : s.size < 9223372036854775808) : Rets Tryz.prog 203 [.string s] w fun r w' => r = .bool (nameB s) ∧ w = w' := by
 unfold nameB
 refine en Tryz.func203 38 fun hf_ => ?_
 cases h1 : s.toList == (⟨#[]⟩ : ByteArray).toList with
 | true =>
  refine rt ?_
  exact ⟨rfl, rfl⟩
 | false =>
  rw [Bool.not_false, Bool.true_and]
  by_cases h2 : s.size ≤ 32
  case neg =>
   rw [decide_eq_false h2, Bool.false_and, Bool.false_and]
   refine rt ?_
   exact ⟨rfl, rfl⟩
  rw [decide_eq_true h2, Bool.true_and]
  have h0 : 0 < s.size := by
   rcases Nat.eq_zero_or_pos s.size with h | h
   ·have e : s.toList = (⟨#[]⟩ : ByteArray).toList := by
     rw [ByteArray.toList_eq, ByteArray.toList_eq]
     exact List.length_eq_zero_iff.1 (by rw [Array.length_toList]; exact h)
    rw [e] at h1; simp at h1
   ·exact h
  obtain ⟨c, hc⟩ : ∃ c, s[0]? = some c := ⟨_, getElem?_pos s 0 h0⟩
  have hcb := byte_lt c
  rw [hc]
  simp only
  refine g ?_
  refine RunL.val rfl rfl rfl (OpV.indexStr 0 Tryz.underlying9 rfl rfl rfl hc) ?_
  refine gc (class_ok _ hcb.1 hcb.2 w) ?_
  rintro _ _ ⟨rfl, rfl⟩
  by_cases h3 : classB (c.toNat : Int) = 2
  case neg =>
   rw [decide_eq_false h3, Bool.false_and]
   generalize classB (c.toNat : Int) = k at h3
   refine rt ?_
   exact ⟨rfl, rfl⟩
  rw [decide_eq_true h3, Bool.true_and, h3]
  refine g ?_
  refine RunE.loop (ι := Nat) (fun i => [(0, .string s), (19, .int .i64 (s.size : Int)), (20, .int .i64 (i : Int))]) (fun i w' => i ≤ s.size ∧ ((List.range i).all fun i => match s[i]? with | some c => nameC (c.toNat : Int) | none => true) = true ∧ w = w') (fun i => s.size - i) 0 sb_ ⟨Nat.zero_le _, rfl, rfl⟩ ?_
  rintro i _ ⟨hi, ha, rfl⟩ again
  by_cases hlt : i < s.size
  ·obtain ⟨b, hb⟩ : ∃ b, s[i]? = some b := ⟨_, getElem?_pos s i hlt⟩
   have hbb := byte_lt b
   refine g ?_
   refine RunL.val rfl rfl rfl (OpV.indexStr i Tryz.underlying9 rfl rfl rfl hb) ?_
   refine gc (class_ok _ hbb.1 hbb.2 w) ?_
   rintro _ _ ⟨rfl, rfl⟩
   cases hc : nameC (b.toNat : Int) with
   | true =>
    have nx := again (i + 1) w (by omega) ⟨hlt, by rw [List.range_succ, List.all_append, ha]; simp [hb, hc], rfl⟩
    unfold nameC at hc
    generalize classB (b.toNat : Int) = k at hc
    rw [Bool.or_eq_true, Bool.or_eq_true, decide_eq_true_eq, decide_eq_true_eq, decide_eq_true_eq] at hc
    rcases hc with (hc | hc) | hc
    all_goals
     subst hc
     refine g ?_
     exact RunE.weaken sb_ nx
   | false =>
    have hbad : ((List.range s.size).all fun i => match s[i]? with | some c => nameC (c.toNat : Int) | none => true) = false := by
     rw [List.all_eq_false]
     exact ⟨i, List.mem_range.2 hlt, by simp [hb, hc]⟩
    rw [hbad]
    unfold nameC at hc
    generalize classB (b.toNat : Int) = k at hc
    rw [Bool.or_eq_false_iff, Bool.or_eq_false_iff, decide_eq_false_iff_not, decide_eq_false_iff_not, decide_eq_false_iff_not] at hc
    obtain ⟨⟨k1, k2⟩, k3⟩ := hc
    refine rt ?_
    exact ⟨rfl, rfl⟩
  ·obtain rfl : i = s.size := by omega
   rw [ha]
   refine rt ?_
   exact ⟨rfl, rfl⟩
end Go.Sg
namespace Go.Pol
def isFreeB (s : ByteArray) : Bool := (!(s.toList == (⟨#[112, 111, 108, 105, 99, 121]⟩ : ByteArray).toList) && (!(s.toList == (⟨#[109, 111, 100, 101]⟩ : ByteArray).toList) && (!(s.toList == (⟨#[111, 108, 100]⟩ : ByteArray).toList) && (!(s.toList == (⟨#[110, 101, 119]⟩ : ByteArray).toList) && (!(s.toList == (⟨#[98, 111, 116, 104]⟩ : ByteArray).toList) && (!(s.toList == (⟨#[101, 105, 116, 104, 101, 114]⟩ : ByteArray).toList) && (!(s.toList == (⟨#[111, 102, 102, 105, 99, 101]⟩ : ByteArray).toList) && (!(s.toList == (⟨#[107, 105, 110, 100]⟩ : ByteArray).toList) && (!(s.toList == (⟨#[114, 117, 108, 101]⟩ : ByteArray).toList) && (!(s.toList == (⟨#[116, 104, 105, 110, 107]⟩ : ByteArray).toList) && (!(s.toList == (⟨#[99, 104, 97, 110, 103, 101]⟩ : ByteArray).toList) && (!(s.toList == (⟨#[115, 111, 109, 101]⟩ : ByteArray).toList) && (!(s.toList == (⟨#[119, 101, 105, 103, 104, 116]⟩ : ByteArray).toList) && (!(s.toList == (⟨#[111, 102]⟩ : ByteArray).toList) && (!(s.toList == (⟨#[117, 112, 116, 111]⟩ : ByteArray).toList) && (!(s.toList == (⟨#[101, 108, 115, 101]⟩ : ByteArray).toList) && nameB s))))))))))))))))
end Go.Pol
namespace Go.Sg
open Go.Rn Go.Proofs Go.Rec Go.RowKit Go.Pol
attribute [local irreducible] Go.Rn.RetsX Go.Rn.RunLN Go.Rn.AsyN Go.Rn.RunL Go.Rn.RunE Go.Rn.Asy Go.Rn.OpV Go.Rn.OpE Go.Rn.ExecE
theorem free_ok (s : ByteArray) (w : World) (hs : s.size < 9223372036854775808) : Rets Tryz.prog 179 [.string s] w fun r w' => r = .bool (isFreeB s) ∧ w = w' := by
 have hn := name_ok s w hs
 unfold isFreeB
 generalize nameB s = b at hn ⊢
 refine en Tryz.func179 23 fun hf_ => ?_
 cases h0 : s.toList == (⟨#[112, 111, 108, 105, 99, 121]⟩ : ByteArray).toList with
 | true =>
  refine rt ?_
  exact ⟨rfl, rfl⟩
 | false =>
 rw [Bool.not_false, Bool.true_and]
 cases h1 : s.toList == (⟨#[109, 111, 100, 101]⟩ : ByteArray).toList with
 | true =>
  refine rt ?_
  exact ⟨rfl, rfl⟩
 | false =>
 rw [Bool.not_false, Bool.true_and]
 cases h2 : s.toList == (⟨#[111, 108, 100]⟩ : ByteArray).toList with
 | true =>
  refine rt ?_
  exact ⟨rfl, rfl⟩
 | false =>
 rw [Bool.not_false, Bool.true_and]
 cases h3 : s.toList == (⟨#[110, 101, 119]⟩ : ByteArray).toList with
 | true =>
  refine rt ?_
  exact ⟨rfl, rfl⟩
 | false =>
 rw [Bool.not_false, Bool.true_and]
 cases h4 : s.toList == (⟨#[98, 111, 116, 104]⟩ : ByteArray).toList with
 | true =>
  refine rt ?_
  exact ⟨rfl, rfl⟩
 | false =>
 rw [Bool.not_false, Bool.true_and]
 cases h5 : s.toList == (⟨#[101, 105, 116, 104, 101, 114]⟩ : ByteArray).toList with
 | true =>
  refine rt ?_
  exact ⟨rfl, rfl⟩
 | false =>
 rw [Bool.not_false, Bool.true_and]
 cases h6 : s.toList == (⟨#[111, 102, 102, 105, 99, 101]⟩ : ByteArray).toList with
 | true =>
  refine rt ?_
  exact ⟨rfl, rfl⟩
 | false =>
 rw [Bool.not_false, Bool.true_and]
 cases h7 : s.toList == (⟨#[107, 105, 110, 100]⟩ : ByteArray).toList with
 | true =>
  refine rt ?_
  exact ⟨rfl, rfl⟩
 | false =>
 rw [Bool.not_false, Bool.true_and]
 cases h8 : s.toList == (⟨#[114, 117, 108, 101]⟩ : ByteArray).toList with
 | true =>
  refine rt ?_
  exact ⟨rfl, rfl⟩
 | false =>
 rw [Bool.not_false, Bool.true_and]
 cases h9 : s.toList == (⟨#[116, 104, 105, 110, 107]⟩ : ByteArray).toList with
 | true =>
  refine rt ?_
  exact ⟨rfl, rfl⟩
 | false =>
 rw [Bool.not_false, Bool.true_and]
 cases h10 : s.toList == (⟨#[99, 104, 97, 110, 103, 101]⟩ : ByteArray).toList with
 | true =>
  refine rt ?_
  exact ⟨rfl, rfl⟩
 | false =>
 rw [Bool.not_false, Bool.true_and]
 cases h11 : s.toList == (⟨#[115, 111, 109, 101]⟩ : ByteArray).toList with
 | true =>
  refine rt ?_
  exact ⟨rfl, rfl⟩
 | false =>
 rw [Bool.not_false, Bool.true_and]
 cases h12 : s.toList == (⟨#[119, 101, 105, 103, 104, 116]⟩ : ByteArray).toList with
 | true =>
  refine rt ?_
  exact ⟨rfl, rfl⟩
 | false =>
 rw [Bool.not_false, Bool.true_and]
 cases h13 : s.toList == (⟨#[111, 102]⟩ : ByteArray).toList with
 | true =>
  refine rt ?_
  exact ⟨rfl, rfl⟩
 | false =>
 rw [Bool.not_false, Bool.true_and]
 cases h14 : s.toList == (⟨#[117, 112, 116, 111]⟩ : ByteArray).toList with
 | true =>
  refine rt ?_
  exact ⟨rfl, rfl⟩
 | false =>
 rw [Bool.not_false, Bool.true_and]
 cases h15 : s.toList == (⟨#[101, 108, 115, 101]⟩ : ByteArray).toList with
 | true =>
  refine rt ?_
  exact ⟨rfl, rfl⟩
 | false =>
 rw [Bool.not_false, Bool.true_and]
 refine gc hn ?_
 rintro _ _ ⟨rfl, rfl⟩
 refine rt ?_
 exact ⟨rfl, rfl⟩
end Go.Sg
end
section
set_option maxRecDepth 4000
namespace Go.Pol
def distB (l : List ByteArray) : Bool := (List.range l.length).all fun i => match l[i]? with | some x => isFreeB x && decide (idxS l x = (i : Int)) | none => true
def szP (q : Ex × Int) : Bool := decide (q.2 ≤ 16)
def size1 (p : Po) : Bool := decide (p.offices.length ≤ 32) && (decide (p.kinds.length ≤ 16) && decide (p.rules.length ≤ 16))
def sizesB (p : Po) : Bool := size1 p && (exprsP p).all fun x => (partsE x 1).all szP
def nmP (p : Po) (q : Ex × Int) : Bool := !namedX q.1 || decide (0 ≤ idxS p.offices q.1.name)
def name1 (p : Po) : Bool := isFreeB p.name && (distB p.offices && distB p.kinds)
def namesB (p : Po) : Bool := name1 p && (exprsP p).all fun x => (partsE x 1).all (nmP p)
end Go.Pol
namespace Go.Sg
open Go.Rn Go.Proofs Go.Rec Go.RowKit Go.Pol
attribute [local irreducible] Go.Rn.RetsX Go.Rn.RunLN Go.Rn.AsyN Go.Rn.RunL Go.Rn.RunE Go.Rn.Asy Go.Rn.OpV Go.Rn.OpE Go.Rn.ExecE
theorem dist_ok (l : List ByteArray) (v : Value) (w : World) (hl : l.length ≤ 100000) (hs : ∀ s ∈ l, s.size < 9223372036854775808) (hv : IsL w strC 1 v l) : Rets Tryz.prog 180 [v, .func (.func 179) #[] #[]] w fun r w' => r = .bool (distB l) ∧ w = w' := by
 obtain ⟨d, cp, rfl⟩ := isSl_slice hv
 unfold distB
 refine en Tryz.func180 26 fun hf_ => ?_
 refine g ?_
 refine rangeL hv encStr 7 8 9 (fun _ : Unit => [(0, .slice d l.length cp), (1, .func (.func 179) #[] #[])]) (fun i _ w' => ((List.range i).all fun i => match l[i]? with | some x => isFreeB x && decide (idxS l x = (i : Int)) | none => true) = true ∧ w = w') () sb_ ⟨rfl, rfl⟩ ?_ ?_
 ·rintro i ⟨⟩ x _ hx ⟨ha, rfl⟩ b o cap hve hrx hlt again
  cases hve
  have hfr : FnV Tryz.prog (.func (.func 179) #[] #[]) [.string x] w (fun r w' => r = .bool (isFreeB x) ∧ w = w') fun _ _ => False := RetsX.v (fi := []) (args := [.string x]) (ca := []) (free_ok x w (hs x (List.mem_of_getElem? hx)))
  have hid := idx_ok l _ x w hl hv
  have bad : isFreeB x = false ∨ ¬ idxS l x = (i : Int) → ((List.range l.length).all fun i => match l[i]? with | some x => isFreeB x && decide (idxS l x = (i : Int)) | none => true) = false := fun h => by
   rw [List.all_eq_false]
   refine ⟨i, List.mem_range.2 hlt, ?_⟩
   rw [hx]
   rcases h with h | h
   ·simp [h]
   ·simp [h]
  cases hf : isFreeB x with
  | false =>
   rw [bad (.inl hf)]
   refine g ?_
   refine RunL.ex rfl rfl rfl (OpE.callV rfl rfl hfr) ?_
   rintro _ _ ⟨rfl, rfl⟩
   rw [hf]
   refine rt ?_
   exact ⟨rfl, rfl⟩
  | true =>
   refine g ?_
   refine RunL.ex rfl rfl rfl (OpE.callV rfl rfl hfr) ?_
   rintro _ _ ⟨rfl, rfl⟩
   rw [hf]
   refine gc hid ?_
   rintro _ _ ⟨rfl, rfl⟩
   by_cases hi : idxS l x = (i : Int)
   ·have nx := again () w ⟨by rw [List.range_succ, List.all_append, ha]; simp [hx, hf, hi], rfl⟩
    rw [hi]
    refine g ?_
    exact RunE.weaken sb_ nx
   ·rw [bad (.inr hi)]
    generalize idxS l x = k at hi
    refine rt ?_
    exact ⟨rfl, rfl⟩
 ·rintro ⟨⟩ _ ⟨ha, rfl⟩
  rw [ha]
  refine rt ?_
  exact ⟨rfl, rfl⟩
theorem exprs_num {p : Po} (hF : FewP p) : ∀ x ∈ exprsP p, numE x ≤ 40 := fun x hx => by
 unfold exprsP at hx
 rcases List.mem_append.1 hx with h | h
 ·obtain ⟨r, hr, rfl⟩ := List.mem_map.1 h
  exact hF.e r hr
 ·rw [List.mem_singleton] at h; subst h; exact hF.c
theorem exprs_hold {p : Po} {N : Nat} {w : World} (hH : HoldP w N p) : ∀ x ∈ exprsP p, HoldE w N x := fun x hx => by
 unfold exprsP at hx
 rcases List.mem_append.1 hx with h | h
 ·obtain ⟨r, hr, rfl⟩ := List.mem_map.1 h
  exact hH.re r hr
 ·rw [List.mem_singleton] at h; subst h; exact hH.ch
theorem exprs_len {p : Po} (hF : FewP p) : (exprsP p).length ≤ 21 := by
 unfold exprsP; rw [List.length_append, List.length_map]; have := hF.r; simp; omega
structure LpI (w0 : World) (xs : List Ex) (chk : Ex × Int → Bool) (s : Nat × List Nat) (w : World) : Prop where
 i : s.1 ≤ xs.length
 ok : ((xs.take s.1).all fun x => (partsE x 1).all chk) = true
 ext : Ext w0 w
 nd : s.2.Nodup
 ds : ∀ D ∈ s.2, w.heap[D]? = some (.deferred (some [])) ∧ w0.heap.size ≤ D
theorem LpI.zero (w0 : World) (xs : List Ex) (chk : Ex × Int → Bool) : LpI w0 xs chk (0, []) w0 := ⟨Nat.zero_le _, by simp, ExtB.refl _ _, List.nodup_nil, by simp⟩
theorem LpI.next {w0 w w' : World} {xs : List Ex} {chk : Ex × Int → Bool} {i D : Nat} {Ds : List Nat} {x : Ex} (h : LpI w0 xs chk (i, Ds) w) (hx : xs[i]? = some x) (hc : (partsE x 1).all chk = true) (hD : D ≥ w0.heap.size) (e : Ext w w') (hd : ∀ k ∈ D :: Ds, w'.heap[k]? = some (.deferred (some []))) (hn : (D :: Ds).Nodup) : LpI w0 xs chk (i + 1, D :: Ds) w' :=
 ⟨(List.getElem?_eq_some_iff.1 hx).1, all_take hx h.ok hc, h.ext.trans e, hn, fun k hk => ⟨hd k hk, by
  rcases List.mem_cons.1 hk with rfl | hk'
  ·exact hD
  ·exact (h.ds k hk').2⟩⟩
theorem names_ok (p : Po) (N : Nat) (w : World) (hF : FewP p) (hH : HoldP w N p) (hN : N ≤ w.heap.size) : RetsX Tryz.prog 140 [poV p] w (fun _ w' => namesB p = true ∧ Ext w w') (fun ch w' => namesB p = false ∧ StopP ch ∧ Ext w w') := by
 unfold namesB
 refine en Tryz.func140 43 fun hf_ => ?_
 refine g1 (cs := p.cells) fun B1 w1 E1 G1 Z1 => ?_
 have hFo := hF.o
 have hFk := hF.k
 have s1 := E1.size
 refine gc (free_ok p.name w1 hF.ns) ?_
 rintro _ _ ⟨rfl, rfl⟩
 have h1 : name1 p = (isFreeB p.name && (distB p.offices && distB p.kinds)) := rfl
 have hdo := dist_ok p.offices _ w1 (by omega) hF.os (hH.o.up E1)
 have hdk := dist_ok p.kinds _ w1 (by omega) hF.ks (hH.k.up E1)
 cases hf : isFreeB p.name with
 | false =>
  rw [hf] at h1
  refine g ?_
  refine RunL.exS rfl rfl rfl (OpE.call rfl (must_ok _ 201 (by decide) w1)) (fun ch w' a hx hst => FnQ.panic0 hf_ hst ⟨by rw [h1]; rfl, hx.2.1, by rw [← hx.2.2]; exact E1⟩) ?_
  rintro _ _ ⟨h, -⟩
  cases h
 | true =>
 refine gc hdo ?_
 rintro _ _ ⟨rfl, rfl⟩
 cases hd1 : distB p.offices with
 | false =>
  rw [hf, hd1] at h1
  refine g ?_
  refine RunL.exS rfl rfl rfl (OpE.call rfl (must_ok _ 201 (by decide) w1)) (fun ch w' a hx hst => FnQ.panic0 hf_ hst ⟨by rw [h1]; rfl, hx.2.1, by rw [← hx.2.2]; exact E1⟩) ?_
  rintro _ _ ⟨h, -⟩
  cases h
 | true =>
 refine gc hdk ?_
 rintro _ _ ⟨rfl, rfl⟩
 cases hd2 : distB p.kinds with
 | false =>
  rw [hf, hd1, hd2] at h1
  refine g ?_
  refine RunL.exS rfl rfl rfl (OpE.call rfl (must_ok _ 201 (by decide) w1)) (fun ch w' a hx hst => FnQ.panic0 hf_ hst ⟨by rw [h1]; rfl, hx.2.1, by rw [← hx.2.2]; exact E1⟩) ?_
  rintro _ _ ⟨h, -⟩
  cases h
 | true =>
 rw [hf, hd1, hd2] at h1
 rw [h1]
 refine g ?_
 refine RunL.exS rfl rfl rfl (OpE.call rfl (must_ok _ 201 (by decide) w1)) (fun ch w' a hx hst => by cases hx.1) ?_
 rintro _ _ ⟨-, rfl⟩
 refine gc (exprs_ok p N w1 hF (hH.up E1)) ?_
 rintro ev w2 ⟨hxs, E2⟩
 have hen := exprs_num hF
 have heh := exprs_hold (hH.up (E1.trans E2))
 have hel := exprs_len hF
 generalize exprsP p = xs at hxs hen heh hel ⊢
 obtain ⟨de, ce, rfl⟩ := isSl_slice hxs
 have s2 := E2.size
 have X2 : Ext w w2 := E1.trans E2
 refine g ?_
 refine RunE.loopD (ι := Nat × List Nat) (fun s => [(1, .pointer (some ⟨B1, 0, none⟩)), (20, .slice de xs.length ce), (21, .int .i64 (xs.length : Int)), (22, .int .i64 (s.1 : Int))]) (fun s => s.2.map markOf) (LpI w2 xs (nmP p)) (fun s => xs.length - s.1) (0, []) sb_ rfl (LpI.zero _ _ _) ?_
 rintro ⟨i, Ds⟩ w4 hI again
 have hi := hI.i
 simp only at hi
 by_cases hlt : i < xs.length
 case neg =>
  obtain rfl : i = xs.length := by omega
  have hok := hI.ok
  rw [List.take_length] at hok
  simp only
  refine g ?_
  refine RunE.fallFnM Ds hf_ (fun D hD => (hI.ds D hD).1) hI.nd fun w' e => ⟨_, .nil, by rw [hok]; rfl, (X2.trans hI.ext).write e (by intro k hk hlt; have := (hI.ds k hk).2; omega)⟩
 obtain ⟨x, hx⟩ : ∃ x, xs[i]? = some x := ⟨_, List.getElem?_eq_getElem hlt⟩
 have hxm := List.mem_of_getElem? hx
 obtain ⟨b, o, cap, hve, hr, -⟩ := isL_held hxs hlt
 cases hve
 have hrx := flat_row encEx hr hx
 have X4 := hI.ext
 have s4 := X4.size
 simp only
 refine g1 (cs := x.cells) fun B3 w5 E5 G5 Z5 => ?_
 refine gc (parts_call x 1 w5) ?_
 rintro _ w6 ⟨⟨c1, c2, rfl, gb1, gb2, V1, V2⟩, E6⟩
 have E46 : Ext w4 w6 := E5.trans E6
 have s46 := E46.size
 refine g ?_
 refine rangeParts hf_ x N c1 c2 w6 Ds (nmP p) (fun _ => False) (fun _ u => Ext w6 u) (fun _ => False) (hen x hxm) ((heh x hxm).up (X4.trans E46)) (by omega) V1 V2 rfl rfl (fun D hD => obj_ext (hI.ds D hD).1 E46 id) hI.nd (fun _ h => h.elim) (ExtB.refl _ _) (fun q u u' h e => h.write e (by intro k hk hlt; have hk : w6.heap.size ≤ k := hk; omega)) (fun _ _ h _ => h) ?_ ?_ (fun _ _ h => h.elim) ?_
 ·intro q y u lp hyq hJ hXu hHy hL hs hsu
  have hyn : y.1.name = y.1.name := rfl
  refine g1 (cs := partC y) fun B4 u2 XA G4 Z4 => ?_
  refine RunE.beginR (hL.up XA) hs (by omega) fun u3 t3 hL3 => ?_
  have sA := XA.size
  have Z4' : Blk u3 B4 (partC y) 226 := Z4.ext t3 (by omega)
  have e3 : ExtB (fun k => False ∨ k = w6.heap.size + 1) u u3 := (ExtB.of_ext XA).trans (t3.mono fun k _ h => .inr h)
  have X3 : Ext w6 u3 := (hJ.trans XA).write t3 (by intro k hk hlt; have hk : k = _ := hk; omega)
  have Zr : Row u3 B4 0 y.1.cells := Z4'.sub [] [.int .i64 y.2] rfl
  have U1 := Z1.up (E2.trans ((X4.trans E46).trans X3))
  have ho := hH.o.up (X2.trans ((X4.trans E46).trans X3))
  clear Z4 XA t3 hL
  have hchk : nmP p y = (!namedX y.1 || decide (0 ≤ idxS p.offices y.1.name)) := rfl
  cases hnm : namedX y.1 with
  | false =>
   rw [hnm] at hchk
   refine gx fun u4 EE => ?_
   refine RunL.exS rfl rfl rfl (OpE.call rfl (must_ok _ 201 (by decide) u4)) (fun ch w' a hx hst => by cases hx.1) ?_
   rintro _ _ ⟨-, rfl⟩
   refine g ?_
   exact RunE.endX ⟨⟨by rw [hchk]; rfl, X3.trans EE⟩, e3.trans (ExtB.of_ext EE)⟩ (hL3.up EE)
  | true =>
   rw [hnm] at hchk
   refine gx fun u4 EE => ?_
   refine gc (hasS_ok p.offices _ y.1.name u4 (by omega) (ho.up EE)) ?_
   rintro _ _ ⟨rfl, rfl⟩
   cases hid : decide (0 ≤ idxS p.offices y.1.name) with
   | true =>
    rw [hid] at hchk
    refine g ?_
    refine RunL.exS rfl rfl rfl (OpE.call rfl (must_ok _ 201 (by decide) u4)) (fun ch w' a hx hst => by cases hx.1) ?_
    rintro _ _ ⟨-, rfl⟩
    refine g ?_
    exact RunE.endX ⟨⟨by rw [hchk]; rfl, X3.trans EE⟩, e3.trans (ExtB.of_ext EE)⟩ (hL3.up EE)
   | false =>
    rw [hid] at hchk
    refine g ?_
    refine RunL.exS rfl rfl rfl (OpE.call rfl (must_ok _ 201 (by decide) u4)) (fun ch w' a hx hst => ⟨by rw [hst.defers], ⟨⟨by rw [hchk]; rfl, hx.2.1⟩, by rw [← hx.2.2]; exact e3.trans (ExtB.of_ext EE)⟩, by rw [← hx.2.2]; exact (hL3.up EE).d⟩) ?_
    rintro _ _ ⟨h, -⟩
    cases h
 ·intro hall w7 hJ e7 hd hn
  refine g ?_
  exact RunE.weaken sb_ (again (i + 1, w6.heap.size :: Ds) w7 (by simp only; omega) (hI.next hx hall (by omega) (E46.trans hJ) hd hn))
 ·intro hall ch w7 w8 hst e7 e8
  refine ⟨?_, hst, ?_⟩
  ·rw [Bool.true_and]; exact all_bad hx hall
  ·exact ((X2.trans (X4.trans E46)).trans e7).write e8 (by
    intro k hk hlt
    rcases List.mem_cons.1 hk with rfl | hk
    ·omega
    ·have := (hI.ds k hk).2; omega)
end Go.Sg
end
section
set_option maxRecDepth 4000
namespace Go.Pol
def empS (s : ByteArray) : Bool := s.toList == (⟨#[]⟩ : ByteArray).toList
def kindB (x : Ex) : Bool :=
 if x.kind = 1 then decide (x.n = 0) && decide (x.l.length = 0)
 else if x.kind = 2 then decide (1 ≤ x.n ∧ x.n ≤ 4096) && decide (x.l.length = 0)
 else if x.kind = 3 then empS x.name && (decide (1 ≤ x.l.length ∧ x.l.length ≤ 16) && decide (1 ≤ x.n ∧ x.n ≤ (x.l.length : Int)))
 else if x.kind = 4 then empS x.name && (decide (x.l.length = 2) && decide (0 ≤ x.n ∧ x.n ≤ 1099511627776))
 else false
abbrev fnV (g : Nat) : Value := .func (.func g) #[] #[]
abbrev kindsC : List Value := [fnV 244, fnV 245, fnV 246, fnV 247, fnV 248]
end Go.Pol
namespace Go.Sg
open Go.Rn Go.Proofs Go.Rec Go.RowKit Go.Pol
attribute [local irreducible] Go.Rn.RetsX Go.Rn.RunLN Go.Rn.AsyN Go.Rn.RunL Go.Rn.RunE Go.Rn.Asy Go.Rn.OpV Go.Rn.OpE Go.Rn.ExecE
theorem kind2_ok (x : Ex) (w : World) (hl : x.l.length ≤ 1000) (hk : x.kind = 1) : Rets Tryz.prog 245 [exV x] w fun r w' => r = .bool (kindB x) ∧ Ext w w' := by
 unfold kindB
 rw [if_pos hk]
 refine en Tryz.func245 12 fun hf_ => ?_
 refine g1 (cs := x.cells) fun B1 w1 E1 G1 Z1 => ?_
 by_cases h1 : x.n = 0
 ·rw [decide_eq_true h1, Bool.true_and]
  by_cases h2 : x.l.length = 0
  ·rw [decide_eq_true h2]
   refine rt ?_
   exact ⟨rfl, xt⟩
  ·rw [decide_eq_false h2]
   refine rt ?_
   exact ⟨rfl, xt⟩
 ·rw [decide_eq_false h1, Bool.false_and]
  refine rt ?_
  exact ⟨rfl, xt⟩
theorem kind3_ok (x : Ex) (w : World) (hl : x.l.length ≤ 1000) (hk : x.kind = 2) : Rets Tryz.prog 246 [exV x] w fun r w' => r = .bool (kindB x) ∧ Ext w w' := by
 unfold kindB
 rw [if_neg (by omega), if_pos hk]
 refine en Tryz.func246 12 fun hf_ => ?_
 refine g1 (cs := x.cells) fun B1 w1 E1 G1 Z1 => ?_
 by_cases h1 : 1 ≤ x.n ∧ x.n ≤ 4096
 ·rw [decide_eq_true h1, Bool.true_and]
  by_cases h2 : x.l.length = 0
  ·rw [decide_eq_true h2]
   refine rt ?_
   exact ⟨rfl, xt⟩
  ·rw [decide_eq_false h2]
   refine rt ?_
   exact ⟨rfl, xt⟩
 ·rw [decide_eq_false h1, Bool.false_and]
  refine rt ?_
  exact ⟨rfl, xt⟩
theorem kind4_ok (x : Ex) (w : World) (hl : x.l.length ≤ 1000) (hk : x.kind = 3) : Rets Tryz.prog 247 [exV x] w fun r w' => r = .bool (kindB x) ∧ Ext w w' := by
 unfold kindB empS
 rw [if_neg (by omega), if_neg (by omega), if_pos hk]
 refine en Tryz.func247 20 fun hf_ => ?_
 refine g1 (cs := x.cells) fun B1 w1 E1 G1 Z1 => ?_
 cases h0 : x.name.toList == (⟨#[]⟩ : ByteArray).toList with
 | false =>
  refine rt ?_
  exact ⟨rfl, xt⟩
 | true =>
 rw [Bool.true_and]
 by_cases h1 : 1 ≤ x.l.length ∧ x.l.length ≤ 16
 ·rw [decide_eq_true h1, Bool.true_and]
  by_cases h2 : 1 ≤ x.n ∧ x.n ≤ (x.l.length : Int)
  ·rw [decide_eq_true h2]
   refine rt ?_
   exact ⟨rfl, xt⟩
  ·rw [decide_eq_false h2]
   refine rt ?_
   exact ⟨rfl, xt⟩
 ·rw [decide_eq_false h1, Bool.false_and]
  refine rt ?_
  exact ⟨rfl, xt⟩
theorem kind5_ok (x : Ex) (w : World) (hl : x.l.length ≤ 1000) (hk : x.kind = 4) : Rets Tryz.prog 248 [exV x] w fun r w' => r = .bool (kindB x) ∧ Ext w w' := by
 unfold kindB empS
 rw [if_neg (by omega), if_neg (by omega), if_neg (by omega), if_pos hk]
 refine en Tryz.func248 17 fun hf_ => ?_
 refine g1 (cs := x.cells) fun B1 w1 E1 G1 Z1 => ?_
 cases h0 : x.name.toList == (⟨#[]⟩ : ByteArray).toList with
 | false =>
  refine rt ?_
  exact ⟨rfl, xt⟩
 | true =>
 rw [Bool.true_and]
 by_cases h1 : x.l.length = 2
 ·rw [decide_eq_true h1, Bool.true_and]
  by_cases h2 : 0 ≤ x.n ∧ x.n ≤ 1099511627776
  ·rw [decide_eq_true h2]
   refine rt ?_
   exact ⟨rfl, xt⟩
  ·rw [decide_eq_false h2]
   refine rt ?_
   exact ⟨rfl, xt⟩
 ·rw [decide_eq_false h1, Bool.false_and]
  refine rt ?_
  exact ⟨rfl, xt⟩
theorem sizes_ok (p : Po) (N : Nat) (w : World) (hF : FewP p) (hH : HoldP w N p) (hN : N ≤ w.heap.size) : RetsX Tryz.prog 139 [poV p] w (fun _ w' => sizesB p = true ∧ Ext w w') (fun ch w' => sizesB p = false ∧ StopP ch ∧ Ext w w') := by
 unfold sizesB
 refine en Tryz.func139 44 fun hf_ => ?_
 refine g1 (cs := p.cells) fun B1 w1 E1 G1 Z1 => ?_
 have hFo := hF.o
 have hFk := hF.k
 have hFr := hF.r
 have s1 := E1.size
 have h1 : size1 p = (decide (p.offices.length ≤ 32) && (decide (p.kinds.length ≤ 16) && decide (p.rules.length ≤ 16))) := rfl
 by_cases q1 : p.offices.length ≤ 32
 case neg =>
  rw [decide_eq_false q1] at h1
  refine g ?_
  refine RunL.exS rfl rfl rfl (OpE.call rfl (must_ok _ 2 (by decide) w1)) (fun ch w' a hx hst => FnQ.panic0 hf_ hst ⟨by rw [h1]; rfl, hx.2.1, by rw [← hx.2.2]; exact E1⟩) ?_
  rintro _ _ ⟨h, -⟩
  cases h
 by_cases q2 : p.kinds.length ≤ 16
 case neg =>
  rw [decide_eq_true q1, decide_eq_false q2] at h1
  refine g ?_
  refine RunL.exS rfl rfl rfl (OpE.call rfl (must_ok _ 2 (by decide) w1)) (fun ch w' a hx hst => FnQ.panic0 hf_ hst ⟨by rw [h1]; rfl, hx.2.1, by rw [← hx.2.2]; exact E1⟩) ?_
  rintro _ _ ⟨h, -⟩
  cases h
 by_cases q3 : p.rules.length ≤ 16
 case neg =>
  rw [decide_eq_true q1, decide_eq_true q2, decide_eq_false q3] at h1
  refine g ?_
  refine RunL.exS rfl rfl rfl (OpE.call rfl (must_ok _ 2 (by decide) w1)) (fun ch w' a hx hst => FnQ.panic0 hf_ hst ⟨by rw [h1]; rfl, hx.2.1, by rw [← hx.2.2]; exact E1⟩) ?_
  rintro _ _ ⟨h, -⟩
  cases h
 rw [decide_eq_true q1, decide_eq_true q2, decide_eq_true q3] at h1
 rw [h1]
 refine g ?_
 refine RunL.exS rfl rfl rfl (OpE.call rfl (must_ok _ 2 (by decide) w1)) (fun ch w' a hx hst => by cases hx.1) ?_
 rintro _ _ ⟨-, rfl⟩
 refine gc (exprs_ok p N w1 hF (hH.up E1)) ?_
 rintro ev w2 ⟨hxs, E2⟩
 have hen := exprs_num hF
 have heh := exprs_hold (hH.up (E1.trans E2))
 have hel := exprs_len hF
 generalize exprsP p = xs at hxs hen heh hel ⊢
 obtain ⟨de, ce, rfl⟩ := isSl_slice hxs
 have s2 := E2.size
 have X2 : Ext w w2 := E1.trans E2
 refine g ?_
 refine RunE.loopD (ι := Nat × List Nat) (fun s => [(1, .pointer (some ⟨B1, 0, none⟩)), (24, .slice de xs.length ce), (25, .int .i64 (xs.length : Int)), (26, .int .i64 (s.1 : Int))]) (fun s => s.2.map markOf) (LpI w2 xs szP) (fun s => xs.length - s.1) (0, []) sb_ rfl (LpI.zero _ _ _) ?_
 rintro ⟨i, Ds⟩ w4 hI again
 have hi := hI.i
 simp only at hi
 by_cases hlt : i < xs.length
 case neg =>
  obtain rfl : i = xs.length := by omega
  have hok := hI.ok
  rw [List.take_length] at hok
  simp only
  refine g ?_
  refine RunE.fallFnM Ds hf_ (fun D hD => (hI.ds D hD).1) hI.nd fun w' e => ⟨_, .nil, by rw [hok]; rfl, (X2.trans hI.ext).write e (by intro k hk hlt; have := (hI.ds k hk).2; omega)⟩
 obtain ⟨x, hx⟩ : ∃ x, xs[i]? = some x := ⟨_, List.getElem?_eq_getElem hlt⟩
 have hxm := List.mem_of_getElem? hx
 have hxn := hen x hxm
 obtain ⟨b, o, cap, hve, hr, -⟩ := isL_held hxs hlt
 cases hve
 have hrx := flat_row encEx hr hx
 have X4 := hI.ext
 have s4 := X4.size
 simp only
 refine g1 (cs := x.cells) fun B3 w5 E5 G5 Z5 => ?_
 refine g1 (cs := [.int .i64 0]) fun B4 w5b E5b G5b Z5b => ?_
 refine gc (parts_call x 1 w5b) ?_
 rintro _ w6 ⟨⟨c1, c2, rfl, gb1, gb2, V1, V2⟩, E6⟩
 have E46 : Ext w4 w6 := (E5.trans E5b).trans E6
 have s46 := E46.size
 have s5 := E5.size
 have s6 := E6.size
 have l4 := Z5b.lt
 refine g ?_
 refine rangeParts hf_ x N c1 c2 w6 Ds szP (fun k => k = B4) (fun q u => Blk u B4 [.int .i64 (q : Int)] 3 ∧ ExtB (fun k => k = B4) w6 u) (fun _ => False) hxn ((heh x hxm).up (X4.trans E46)) (by omega) V1 V2 rfl rfl (fun D hD => obj_ext (hI.ds D hD).1 E46 id) hI.nd (fun k hk => ?_) ⟨Z5b.up E6, ExtB.refl _ _⟩ (fun q u u' h e => ⟨h.1.ext e (by omega), h.2.write e (by intro k hk hlt; have hk : w6.heap.size ≤ k := hk; omega)⟩) (fun _ _ h _ => h) ?_ ?_ (fun _ _ h => h.elim) ?_
 ·have hk : k = B4 := hk
  subst hk
  refine ⟨by omega, by omega, by omega, by omega, fun hD => ?_⟩
  have := lt_of_get (hI.ds _ hD).1
  omega
 ·intro q y u lp hyq hJ hXu hHy hL hs hsu
  have hq40 : q < 40 := by have := (List.getElem?_eq_some_iff.1 hyq).1; rw [partsE_len] at this; omega
  refine g1 (cs := partC y) fun B5 u2 XA G4 Z4 => ?_
  refine RunE.beginR (hL.up XA) hs (by omega) fun u3 t3 hL3 => ?_
  have sA := XA.size
  have sT := t3.size
  have Z4' : Blk u3 B5 (partC y) 226 := Z4.ext t3 (by omega)
  have hN4 : Blk u3 B4 [.int .i64 (q : Int)] 3 := (hJ.1.up XA).ext t3 (by omega)
  have e3 : ExtB (fun k => k = B4 ∨ k = w6.heap.size + 1) u u3 := (ExtB.of_ext XA).trans (t3.mono fun k _ h => .inr h)
  have X3 : ExtB (fun k => k = B4) w6 u3 := (hJ.2.trans (ExtB.of_ext XA)).write t3 (by intro k hk hlt; have hk : k = _ := hk; omega)
  clear XA t3 hL Z4 hJ
  refine g ?_
  refine RunL.store Tryz.tOk rfl rfl rfl rfl rfl hN4 rfl rfl fun u4 t4 => ?_
  have T4 : ExtB (fun k => k = B4) u3 u4 := t4.ext
  have hN4' : Blk u4 B4 [.int .i64 ((q : Int) + 1)] 3 := t4.at_
  have Z44 := Z4'.ext T4 (by omega)
  have hL4 := hL3.ext T4 (by omega) (by omega)
  have e4 := e3.trans (T4.mono fun k _ h => (.inl h : k = B4 ∨ k = w6.heap.size + 1))
  have hcast : ((q + 1 : Nat) : Int) = (q : Int) + 1 := by omega
  clear t4
  by_cases hd : y.2 ≤ 16
  ·refine g ?_
   refine RunL.exS rfl rfl rfl (OpE.call rfl (must_ok _ 2 (by decide) u4)) (fun ch w' a hx hst => by cases hx.1) ?_
   rintro _ _ ⟨-, rfl⟩
   refine g ?_
   exact RunE.endX ⟨⟨decide_eq_true hd, by rw [hcast]; exact hN4', X3.trans T4⟩, e4⟩ hL4
  ·refine g ?_
   refine RunL.exS rfl rfl rfl (OpE.call rfl (must_ok _ 2 (by decide) u4)) (fun ch w' a hx hst => ⟨by rw [hst.defers], ⟨⟨decide_eq_false hd, hx.2.1⟩, by rw [← hx.2.2]; exact e4⟩, by rw [← hx.2.2]; exact hL4.d⟩) ?_
   rintro _ _ ⟨h, -⟩
   cases h
 ·intro hall w7 hJ e7 hd hn
  refine g ?_
  refine RunE.weaken sb_ (again (i + 1, w6.heap.size :: Ds) w7 (by simp only; omega) (hI.next hx hall (by omega) (E46.write e7 ?_) hd hn))
  intro k hk hlt
  have hk : k = B4 := hk
  omega
 ·intro hall ch w7 w8 hst e7 e8
  refine ⟨?_, hst, ?_⟩
  ·rw [Bool.true_and]; exact all_bad hx hall
  ·refine ((X2.trans (X4.trans E46)).write e7 ?_).write e8 ?_
   ·intro k hk hlt
    have hk : k = B4 := hk
    omega
   ·intro k hk hlt
    rcases List.mem_cons.1 hk with rfl | hk
    ·omega
    ·have := (hI.ds k hk).2; omega
end Go.Sg
end
section
set_option maxRecDepth 4000
namespace Go.Pol
open Go.Rn Go.Rec
def form1 (p : Po) : Bool := decide (0 < p.kinds.length) && (decide (p.rules.length = p.kinds.length) && decide (1 ≤ p.mode ∧ p.mode ≤ 4))
def ruleB (p : Po) (i : Nat) : Bool := match p.rules[i]?, p.kinds[i]? with
 | some r, some k => (r.kind.toList == k.toList) && decide (0 ≤ r.think ∧ r.think ≤ 1099511627775)
 | _, _ => false
def formP (last : Bool) (y : Ex × Int) : Bool := decide (1 ≤ y.1.kind ∧ y.1.kind ≤ 4) && (kindB y.1 && (!last || decide (y.1.kind ≠ 4)))
def exB (xs : List Ex) (j : Nat) : Bool := match xs[j]? with
 | some x => (partsE x 1).all (formP (decide (xs.length ≤ j + 1)))
 | none => true
def formB (p : Po) : Bool := form1 p && ((List.range p.rules.length).all (ruleB p) && (List.range (exprsP p).length).all (exB (exprsP p)))
structure LpJ (w0 : World) (n : Nat) (f : Nat → Bool) (s : Nat × List Nat) (w : World) : Prop where
 i : s.1 ≤ n
 ok : (List.range s.1).all f = true
 ext : Ext w0 w
 nd : s.2.Nodup
 ds : ∀ D ∈ s.2, w.heap[D]? = some (.deferred (some [])) ∧ w0.heap.size ≤ D
theorem LpJ.zero (w0 : World) (n : Nat) (f : Nat → Bool) : LpJ w0 n f (0, []) w0 := ⟨Nat.zero_le _, by simp, ExtB.refl _ _, List.nodup_nil, by simp⟩
theorem range_all {f : Nat → Bool} {i : Nat} (h : (List.range i).all f = true) (hf : f i = true) : (List.range (i + 1)).all f = true := by
 rw [List.range_succ, List.all_append, h]; simp [hf]
theorem range_bad {f : Nat → Bool} {i n : Nat} (h : i < n) (hf : f i = false) : (List.range n).all f = false := by
 rw [List.all_eq_false]; exact ⟨i, List.mem_range.2 h, by simp [hf]⟩
theorem LpJ.next {w0 w w' : World} {n : Nat} {f : Nat → Bool} {i D : Nat} {Ds : List Nat} (h : LpJ w0 n f (i, Ds) w) (hi : i < n) (hc : f i = true) (hD : D ≥ w0.heap.size) (e : Ext w w') (hd : ∀ k ∈ D :: Ds, w'.heap[k]? = some (.deferred (some []))) (hn : (D :: Ds).Nodup) : LpJ w0 n f (i + 1, D :: Ds) w' :=
 ⟨hi, range_all h.ok hc, h.ext.trans e, hn, fun k hk => ⟨hd k hk, by
  rcases List.mem_cons.1 hk with rfl | hk'
  ·exact hD
  ·exact (h.ds k hk').2⟩⟩
end Go.Pol
namespace Go.Sg
open Go.Rn Go.Proofs Go.Rec Go.RowKit Go.Pol
attribute [local irreducible] Go.Rn.RetsX Go.Rn.RunLN Go.Rn.AsyN Go.Rn.RunL Go.Rn.RunE Go.Rn.Asy Go.Rn.OpV Go.Rn.OpE Go.Rn.ExecE
theorem form_ok (p : Po) (N : Nat) (w : World) (hF : FewP p) (hH : HoldP w N p) (hN : N ≤ w.heap.size) (hK : Row w 0 0 kindsC) : RetsX Tryz.prog 141 [poV p] w (fun _ w' => formB p = true ∧ Ext w w') (fun ch w' => formB p = false ∧ StopP ch ∧ Ext w w') := by
 unfold formB
 refine en Tryz.func141 90 fun hf_ => ?_
 refine g1 (cs := p.cells) fun B1 w1 E1 G1 Z1 => ?_
 have hFk := hF.k
 have hFr := hF.r
 have s1 := E1.size
 have h1 : form1 p = (decide (0 < p.kinds.length) && (decide (p.rules.length = p.kinds.length) && decide (1 ≤ p.mode ∧ p.mode ≤ 4))) := rfl
 by_cases q1 : 0 < p.kinds.length
 case neg =>
  rw [decide_eq_false q1] at h1
  refine g ?_
  refine RunL.exS rfl rfl rfl (OpE.call rfl (must_ok _ 200 (by decide) w1)) (fun ch w' a hx hst => FnQ.panic0 hf_ hst ⟨by rw [h1]; rfl, hx.2.1, by rw [← hx.2.2]; exact E1⟩) ?_
  rintro _ _ ⟨h, -⟩
  cases h
 by_cases q2 : p.rules.length = p.kinds.length
 case neg =>
  rw [decide_eq_true q1, decide_eq_false q2] at h1
  refine g ?_
  refine RunL.exS rfl rfl rfl (OpE.call rfl (must_ok _ 200 (by decide) w1)) (fun ch w' a hx hst => FnQ.panic0 hf_ hst ⟨by rw [h1]; rfl, hx.2.1, by rw [← hx.2.2]; exact E1⟩) ?_
  rintro _ _ ⟨h, -⟩
  cases h
 by_cases q3 : 1 ≤ p.mode ∧ p.mode ≤ 4
 case neg =>
  rw [decide_eq_true q1, decide_eq_true q2, decide_eq_false q3] at h1
  refine g ?_
  refine RunL.exS rfl rfl rfl (OpE.call rfl (must_ok _ 200 (by decide) w1)) (fun ch w' a hx hst => FnQ.panic0 hf_ hst ⟨by rw [h1]; rfl, hx.2.1, by rw [← hx.2.2]; exact E1⟩) ?_
  rintro _ _ ⟨h, -⟩
  cases h
 rw [decide_eq_true q1, decide_eq_true q2, decide_eq_true q3] at h1
 rw [h1]
 refine g ?_
 refine RunL.exS rfl rfl rfl (OpE.call rfl (must_ok _ 200 (by decide) w1)) (fun ch w' a hx hst => by cases hx.1) ?_
 rintro _ _ ⟨-, rfl⟩
 have hr := hH.r.up E1
 refine g ?_
 refine rangeL hr encRu 28 29 30 (fun _ : Unit => [(1, .pointer (some ⟨B1, 0, none⟩))]) (fun i _ w' => (List.range i).all (ruleB p) = true ∧ Ext w1 w') () sb_ ⟨rfl, ExtB.refl _ _⟩ ?_ ?_
 ·rintro i ⟨⟩ x w4 hx ⟨ha, X4⟩ b o cap hve hrx hlt again
  rw [hve] at again ⊢
  obtain ⟨kk, hkk⟩ : ∃ kk, p.kinds[i]? = some kk := ⟨_, List.getElem?_eq_getElem (by omega)⟩
  have hk4 := hH.k.up (E1.trans X4)
  obtain ⟨bk, ok, capk, hvk, hrk, -⟩ := isL_held hk4 (show i < p.kinds.length by omega)
  have hrkk := flat_row encStr hrk hkk
  have U1 : Blk w4 B1 [.string p.name, .slice (some ⟨bk, ok, none⟩) p.kinds.length capk, .slice p.ou p.offices.length p.oc, .slice p.ru p.rules.length p.rc, .int .i64 p.change.kind, .int .i64 p.change.n, .int .i64 p.change.no, .string p.change.name, .slice p.change.u p.change.l.length p.change.c, .int .i64 p.mode] 80 := by
   rw [← hvk]; exact Z1.up X4
  have hrb : ruleB p i = ((x.kind.toList == kk.toList) && decide (0 ≤ x.think ∧ x.think ≤ 1099511627775)) := by unfold ruleB; rw [hx, hkk]
  refine g1 (cs := x.cells) fun B3 w5 E5 G5 Z5 => ?_
  cases hke : x.kind.toList == kk.toList with
  | false =>
   rw [hke] at hrb
   refine gx fun we Xe => ?_
   refine RunL.exS rfl rfl rfl (OpE.call rfl (must_ok _ 200 (by decide) we)) (fun ch w' a hx' hst => FnQ.panic0 hf_ hst ⟨by rw [range_bad hlt (by rw [hrb]; rfl)]; rfl, hx'.2.1, by rw [← hx'.2.2]; exact xt⟩) ?_
   rintro _ _ ⟨h, -⟩
   cases h
  | true =>
   rw [hke, Bool.true_and] at hrb
   by_cases ht : 0 ≤ x.think ∧ x.think ≤ 1099511627775
   ·rw [decide_eq_true ht] at hrb
    refine gx fun we Xe => ?_
    refine RunL.exS rfl rfl rfl (OpE.call rfl (must_ok _ 200 (by decide) we)) (fun ch w' a hx hst => by cases hx.1) ?_
    rintro _ _ ⟨-, rfl⟩
    refine g ?_
    exact RunE.weaken sb_ (again () we ⟨range_all ha hrb, xt⟩)
   ·rw [decide_eq_false ht] at hrb
    refine gx fun we Xe => ?_
    refine RunL.exS rfl rfl rfl (OpE.call rfl (must_ok _ 200 (by decide) we)) (fun ch w' a hx' hst => FnQ.panic0 hf_ hst ⟨by rw [range_bad hlt hrb]; rfl, hx'.2.1, by rw [← hx'.2.2]; exact xt⟩) ?_
    rintro _ _ ⟨h, -⟩
    cases h
 rintro ⟨⟩ wr ⟨hra, Xr⟩
 rw [hra]
 have Er : Ext w wr := E1.trans Xr
 have sr := Xr.size
 refine gc (exprs_ok p N wr hF (hH.up Er)) ?_
 rintro ev w2 ⟨hxs, E2⟩
 have hen := exprs_num hF
 have heh := exprs_hold (hH.up (Er.trans E2))
 have hel := exprs_len hF
 generalize exprsP p = xs at hxs hen heh hel ⊢
 obtain ⟨de, ce, rfl⟩ := isSl_slice hxs
 refine g1 (cs := [.slice de xs.length ce]) fun B4 w3 E3 G3 Z4 => ?_
 have s2 := E2.size
 have s3 := E3.size
 have X3' : Ext w w3 := (Er.trans E2).trans E3
 refine g ?_
 refine RunE.loopD (ι := Nat × List Nat) (fun s => [(4, .pointer (some ⟨B4, 0, none⟩)), (52, .slice de xs.length ce), (53, .int .i64 (xs.length : Int)), (54, .int .i64 (s.1 : Int))]) (fun s => s.2.map markOf) (LpJ w3 xs.length (exB xs)) (fun s => xs.length - s.1) (0, []) sb_ rfl (LpJ.zero _ _ _) ?_
 rintro ⟨i, Ds⟩ w4 hI again
 have hi := hI.i
 simp only at hi
 by_cases hlt : i < xs.length
 case neg =>
  obtain rfl : i = xs.length := by omega
  have hok := hI.ok
  simp only at hok ⊢
  refine g ?_
  refine RunE.fallFnM Ds hf_ (fun D hD => (hI.ds D hD).1) hI.nd fun w' e => ⟨_, .nil, by rw [hok]; rfl, (X3'.trans hI.ext).write e (by intro k hk hlt; have := (hI.ds k hk).2; omega)⟩
 obtain ⟨x, hx⟩ : ∃ x, xs[i]? = some x := ⟨_, List.getElem?_eq_getElem hlt⟩
 have hxm := List.mem_of_getElem? hx
 have hxn := hen x hxm
 have hexb : exB xs i = (partsE x 1).all (formP (decide (xs.length ≤ i + 1))) := by unfold exB; rw [hx]
 obtain ⟨b, o, cap, hve, hr', -⟩ := isL_held hxs hlt
 cases hve
 have hrx := flat_row encEx hr' hx
 have X4 := hI.ext
 have s4 := X4.size
 simp only
 refine g ?_
 refine RunL.alloc Tryz.tOk rfl rfl rfl fun B5 w5 a5 => ?_
 refine g ?_
 refine RunL.alloc Tryz.tOk rfl rfl rfl fun B6 w5b a6 => ?_
 have e5 := a5.ext
 have e6 := a6.ext
 have n5 := a5.eq
 have n6 := a6.eq
 have n5' := a5.size
 refine g ?_
 refine RunL.store Tryz.tOk rfl rfl rfl rfl rfl (Blk.up (show Blk w5 B5 _ _ from a5.at_) e6) rfl rfl fun w5c t5 => ?_
 have Z5 : Blk w5c B5 [.int .i64 (i : Int)] 3 := t5.at_
 have T5 : ExtB (fun k => k = B5) w5b w5c := t5.ext
 refine g ?_
 refine RunL.storeW (vs := x.cells) Tryz.tOk rfl rfl rfl rfl rfl (Blk.ext (show Blk w5b B6 _ _ from a6.at_) T5 (by omega)) rfl rfl fun w5d t6 => ?_
 have Z6 : Blk w5d B6 x.cells 78 := t6.at_
 have T6 : ExtB (fun k => k = B6) w5c w5d := t6.ext
 replace Z5 := Z5.ext T6 (by omega)
 have E5 : Ext w4 w5d := (((e5.trans e6).write T5 (by intro k hk hlt; have hk : k = B5 := hk; omega))).write T6 (by intro k hk hlt; have hk : k = B6 := hk; have := e5.size; omega)
 clear a5 a6 e5 e6 t5 t6 T5 T6
 refine gc (parts_call x 1 w5d) ?_
 rintro _ w6 ⟨⟨c1, c2, rfl, gb1, gb2, V1, V2⟩, E6⟩
 have E46 : Ext w4 w6 := E5.trans E6
 have s46 := E46.size
 have Z56 := Z5.up E6
 refine g ?_
 refine rangeParts hf_ x N c1 c2 w6 Ds (formP (decide (xs.length ≤ i + 1))) (fun _ => False) (fun _ u => Ext w6 u) (fun _ => False) hxn ((heh x hxm).up (E3.trans (X4.trans E46))) (by omega) V1 V2 rfl rfl (fun D hD => obj_ext (hI.ds D hD).1 E46 id) hI.nd (fun _ h => h.elim) (ExtB.refl _ _) (fun q u u' h e => h.write e (by intro k hk hlt; have hk : w6.heap.size ≤ k := hk; omega)) (fun _ _ h _ => h) ?_ ?_ (fun _ _ h => h.elim) ?_
 ·intro q y u lp hyq hJ hXu hHy hL hs hsu
  have hyn := (parts_hold 40 hxn ((heh x hxm).up (E3.trans (X4.trans E46))) y (List.mem_of_getElem? hyq)).2
  have hyl := numE_len y.1
  refine g1 (cs := partC y) fun B7 u2 XA G4 Z4' => ?_
  refine RunE.beginR (hL.up XA) hs (by omega) fun u3 t3 hL3 => ?_
  have sA := XA.size
  have Z7 : Blk u3 B7 (partC y) 226 := Z4'.ext t3 (by omega)
  have e3 : ExtB (fun k => False ∨ k = w6.heap.size + 1) u u3 := (ExtB.of_ext XA).trans (t3.mono fun k _ h => .inr h)
  have X3 : Ext w6 u3 := (hJ.trans XA).write t3 (by intro k hk hlt; have hk : k = _ := hk; omega)
  have Zr : Row u3 B7 0 y.1.cells := Z7.sub [] [.int .i64 y.2] rfl
  have Xw3 : Ext w3 u3 := (X4.trans E46).trans X3
  have U4 := Z4.up Xw3
  have U5 := Z56.up X3
  have UK : Row u3 0 0 kindsC := hK.up (X3'.trans Xw3)
  clear Z4' XA t3 hL
  have hchk : formP (decide (xs.length ≤ i + 1)) y = (decide (1 ≤ y.1.kind ∧ y.1.kind ≤ 4) && (kindB y.1 && (!decide (xs.length ≤ i + 1) || decide (y.1.kind ≠ 4)))) := rfl
  by_cases hkk : 1 ≤ y.1.kind ∧ y.1.kind ≤ 4
  case neg =>
   rw [decide_eq_false hkk] at hchk
   refine gx fun we EE => ?_
   refine RunL.exS rfl rfl rfl (OpE.call rfl (must_ok _ 200 (by decide) we)) (fun ch w' a hx hst => ⟨by rw [hst.defers], ⟨⟨hchk.trans rfl, hx.2.1⟩, by rw [← hx.2.2]; exact e3.trans (ExtB.of_ext EE)⟩, by rw [← hx.2.2]; exact (hL3.up EE).d⟩) ?_
   rintro _ _ ⟨h, -⟩
   cases h
  rw [decide_eq_true hkk, Bool.true_and] at hchk
  obtain h1 | h2 | h3 | h4 : y.1.kind = 1 ∨ y.1.kind = 2 ∨ y.1.kind = 3 ∨ y.1.kind = 4 := by omega
  ·have hcall := fun w' => kind2_ok y.1 w' (by omega) h1
   refine g ?_
   refine RunE.draw (fun _ => False) mix' ?_
   intro wd Xd
   refine ga ?_
   refine Asy.evV rfl rfl rfl rfl (fun _ _ => OpV.indexA Tryz.tOk 1 rfl rfl rfl (by omega) (by decide)) ?_
   refine ga ?_
   refine Asy.val rfl rfl rfl rfl (fun w' X_ => OpE.callV rfl rfl (RetsX.v (fi := []) (args := [exV y.1]) (ca := []) (hcall w'))) ?_
   refine Asy.tail (by decide +kernel) fun we Xe => ?_
   simp only [satsAll]
   have EE : Ext u3 we := Xd.trans Xe
   cases hkb : kindB y.1 with
   | false =>
    rw [hkb] at hchk
    refine g ?_
    refine RunL.exS rfl rfl rfl (OpE.call rfl (must_ok _ 200 (by decide) we)) (fun ch w' a hx hst => ⟨by rw [hst.defers], ⟨⟨hchk.trans rfl, hx.2.1⟩, by rw [← hx.2.2]; exact e3.trans (ExtB.of_ext EE)⟩, by rw [← hx.2.2]; exact (hL3.up EE).d⟩) ?_
    rintro _ _ ⟨h, -⟩
    cases h
   | true =>
    rw [hkb, Bool.true_and] at hchk
    refine g ?_
    refine RunL.exS rfl rfl rfl (OpE.call rfl (must_ok _ 200 (by decide) we)) (fun ch w' a hx hst => by cases hx.1) ?_
    rintro _ _ ⟨-, rfl⟩
    by_cases hlast : xs.length ≤ i + 1
    ·by_cases h4 : y.1.kind = 4
     ·exfalso; omega
     ·replace hchk : formP (decide (xs.length ≤ i + 1)) y = true := by rw [hchk, decide_eq_true hlast, decide_eq_true h4]; rfl
      refine g ?_
      refine RunL.exS rfl rfl rfl (OpE.call rfl (must_ok _ 200 (by decide) we)) (fun ch w' a hx hst => by cases hx.1) ?_
      rintro _ _ ⟨-, rfl⟩
      refine g ?_
      exact RunE.endX ⟨⟨hchk, X3.trans EE⟩, e3.trans (ExtB.of_ext EE)⟩ (hL3.up EE)
    ·replace hchk : formP (decide (xs.length ≤ i + 1)) y = true := by rw [hchk, decide_eq_false hlast]; rfl
     refine g ?_
     refine RunL.exS rfl rfl rfl (OpE.call rfl (must_ok _ 200 (by decide) we)) (fun ch w' a hx hst => by cases hx.1) ?_
     rintro _ _ ⟨-, rfl⟩
     refine g ?_
     exact RunE.endX ⟨⟨hchk, X3.trans EE⟩, e3.trans (ExtB.of_ext EE)⟩ (hL3.up EE)
  ·have hcall := fun w' => kind3_ok y.1 w' (by omega) h2
   refine g ?_
   refine RunE.draw (fun _ => False) mix' ?_
   intro wd Xd
   refine ga ?_
   refine Asy.evV rfl rfl rfl rfl (fun _ _ => OpV.indexA Tryz.tOk 2 rfl rfl rfl (by omega) (by decide)) ?_
   refine ga ?_
   refine Asy.val rfl rfl rfl rfl (fun w' X_ => OpE.callV rfl rfl (RetsX.v (fi := []) (args := [exV y.1]) (ca := []) (hcall w'))) ?_
   refine Asy.tail (by decide +kernel) fun we Xe => ?_
   simp only [satsAll]
   have EE : Ext u3 we := Xd.trans Xe
   cases hkb : kindB y.1 with
   | false =>
    rw [hkb] at hchk
    refine g ?_
    refine RunL.exS rfl rfl rfl (OpE.call rfl (must_ok _ 200 (by decide) we)) (fun ch w' a hx hst => ⟨by rw [hst.defers], ⟨⟨hchk.trans rfl, hx.2.1⟩, by rw [← hx.2.2]; exact e3.trans (ExtB.of_ext EE)⟩, by rw [← hx.2.2]; exact (hL3.up EE).d⟩) ?_
    rintro _ _ ⟨h, -⟩
    cases h
   | true =>
    rw [hkb, Bool.true_and] at hchk
    refine g ?_
    refine RunL.exS rfl rfl rfl (OpE.call rfl (must_ok _ 200 (by decide) we)) (fun ch w' a hx hst => by cases hx.1) ?_
    rintro _ _ ⟨-, rfl⟩
    by_cases hlast : xs.length ≤ i + 1
    ·by_cases h4 : y.1.kind = 4
     ·exfalso; omega
     ·replace hchk : formP (decide (xs.length ≤ i + 1)) y = true := by rw [hchk, decide_eq_true hlast, decide_eq_true h4]; rfl
      refine g ?_
      refine RunL.exS rfl rfl rfl (OpE.call rfl (must_ok _ 200 (by decide) we)) (fun ch w' a hx hst => by cases hx.1) ?_
      rintro _ _ ⟨-, rfl⟩
      refine g ?_
      exact RunE.endX ⟨⟨hchk, X3.trans EE⟩, e3.trans (ExtB.of_ext EE)⟩ (hL3.up EE)
    ·replace hchk : formP (decide (xs.length ≤ i + 1)) y = true := by rw [hchk, decide_eq_false hlast]; rfl
     refine g ?_
     refine RunL.exS rfl rfl rfl (OpE.call rfl (must_ok _ 200 (by decide) we)) (fun ch w' a hx hst => by cases hx.1) ?_
     rintro _ _ ⟨-, rfl⟩
     refine g ?_
     exact RunE.endX ⟨⟨hchk, X3.trans EE⟩, e3.trans (ExtB.of_ext EE)⟩ (hL3.up EE)
  ·have hcall := fun w' => kind4_ok y.1 w' (by omega) h3
   refine g ?_
   refine RunE.draw (fun _ => False) mix' ?_
   intro wd Xd
   refine ga ?_
   refine Asy.evV rfl rfl rfl rfl (fun _ _ => OpV.indexA Tryz.tOk 3 rfl rfl rfl (by omega) (by decide)) ?_
   refine ga ?_
   refine Asy.val rfl rfl rfl rfl (fun w' X_ => OpE.callV rfl rfl (RetsX.v (fi := []) (args := [exV y.1]) (ca := []) (hcall w'))) ?_
   refine Asy.tail (by decide +kernel) fun we Xe => ?_
   simp only [satsAll]
   have EE : Ext u3 we := Xd.trans Xe
   cases hkb : kindB y.1 with
   | false =>
    rw [hkb] at hchk
    refine g ?_
    refine RunL.exS rfl rfl rfl (OpE.call rfl (must_ok _ 200 (by decide) we)) (fun ch w' a hx hst => ⟨by rw [hst.defers], ⟨⟨hchk.trans rfl, hx.2.1⟩, by rw [← hx.2.2]; exact e3.trans (ExtB.of_ext EE)⟩, by rw [← hx.2.2]; exact (hL3.up EE).d⟩) ?_
    rintro _ _ ⟨h, -⟩
    cases h
   | true =>
    rw [hkb, Bool.true_and] at hchk
    refine g ?_
    refine RunL.exS rfl rfl rfl (OpE.call rfl (must_ok _ 200 (by decide) we)) (fun ch w' a hx hst => by cases hx.1) ?_
    rintro _ _ ⟨-, rfl⟩
    by_cases hlast : xs.length ≤ i + 1
    ·by_cases h4 : y.1.kind = 4
     ·exfalso; omega
     ·replace hchk : formP (decide (xs.length ≤ i + 1)) y = true := by rw [hchk, decide_eq_true hlast, decide_eq_true h4]; rfl
      refine g ?_
      refine RunL.exS rfl rfl rfl (OpE.call rfl (must_ok _ 200 (by decide) we)) (fun ch w' a hx hst => by cases hx.1) ?_
      rintro _ _ ⟨-, rfl⟩
      refine g ?_
      exact RunE.endX ⟨⟨hchk, X3.trans EE⟩, e3.trans (ExtB.of_ext EE)⟩ (hL3.up EE)
    ·replace hchk : formP (decide (xs.length ≤ i + 1)) y = true := by rw [hchk, decide_eq_false hlast]; rfl
     refine g ?_
     refine RunL.exS rfl rfl rfl (OpE.call rfl (must_ok _ 200 (by decide) we)) (fun ch w' a hx hst => by cases hx.1) ?_
     rintro _ _ ⟨-, rfl⟩
     refine g ?_
     exact RunE.endX ⟨⟨hchk, X3.trans EE⟩, e3.trans (ExtB.of_ext EE)⟩ (hL3.up EE)
  ·have hcall := fun w' => kind5_ok y.1 w' (by omega) h4
   refine g ?_
   refine RunE.draw (fun _ => False) mix' ?_
   intro wd Xd
   refine ga ?_
   refine Asy.evV rfl rfl rfl rfl (fun _ _ => OpV.indexA Tryz.tOk 4 rfl rfl rfl (by omega) (by decide)) ?_
   refine ga ?_
   refine Asy.val rfl rfl rfl rfl (fun w' X_ => OpE.callV rfl rfl (RetsX.v (fi := []) (args := [exV y.1]) (ca := []) (hcall w'))) ?_
   refine Asy.tail (by decide +kernel) fun we Xe => ?_
   simp only [satsAll]
   have EE : Ext u3 we := Xd.trans Xe
   cases hkb : kindB y.1 with
   | false =>
    rw [hkb] at hchk
    refine g ?_
    refine RunL.exS rfl rfl rfl (OpE.call rfl (must_ok _ 200 (by decide) we)) (fun ch w' a hx hst => ⟨by rw [hst.defers], ⟨⟨hchk.trans rfl, hx.2.1⟩, by rw [← hx.2.2]; exact e3.trans (ExtB.of_ext EE)⟩, by rw [← hx.2.2]; exact (hL3.up EE).d⟩) ?_
    rintro _ _ ⟨h, -⟩
    cases h
   | true =>
    rw [hkb, Bool.true_and] at hchk
    refine g ?_
    refine RunL.exS rfl rfl rfl (OpE.call rfl (must_ok _ 200 (by decide) we)) (fun ch w' a hx hst => by cases hx.1) ?_
    rintro _ _ ⟨-, rfl⟩
    by_cases hlast : xs.length ≤ i + 1
    ·by_cases h4 : y.1.kind = 4
     ·replace hchk : formP (decide (xs.length ≤ i + 1)) y = false := by rw [hchk, decide_eq_true hlast, decide_eq_false (by simpa using h4)]; rfl
      refine g ?_
      refine RunL.exS rfl rfl rfl (OpE.call rfl (must_ok _ 200 (by decide) we)) (fun ch w' a hx hst => ⟨by rw [hst.defers], ⟨⟨hchk.trans rfl, hx.2.1⟩, by rw [← hx.2.2]; exact e3.trans (ExtB.of_ext EE)⟩, by rw [← hx.2.2]; exact (hL3.up EE).d⟩) ?_
      rintro _ _ ⟨h, -⟩
      cases h
     ·replace hchk : formP (decide (xs.length ≤ i + 1)) y = true := by rw [hchk, decide_eq_true hlast, decide_eq_true h4]; rfl
      refine g ?_
      refine RunL.exS rfl rfl rfl (OpE.call rfl (must_ok _ 200 (by decide) we)) (fun ch w' a hx hst => by cases hx.1) ?_
      rintro _ _ ⟨-, rfl⟩
      refine g ?_
      exact RunE.endX ⟨⟨hchk, X3.trans EE⟩, e3.trans (ExtB.of_ext EE)⟩ (hL3.up EE)
    ·replace hchk : formP (decide (xs.length ≤ i + 1)) y = true := by rw [hchk, decide_eq_false hlast]; rfl
     refine g ?_
     refine RunL.exS rfl rfl rfl (OpE.call rfl (must_ok _ 200 (by decide) we)) (fun ch w' a hx hst => by cases hx.1) ?_
     rintro _ _ ⟨-, rfl⟩
     refine g ?_
     exact RunE.endX ⟨⟨hchk, X3.trans EE⟩, e3.trans (ExtB.of_ext EE)⟩ (hL3.up EE)
 ·intro hall w7 hJ e7 hd hn
  refine g ?_
  exact RunE.weaken sb_ (again (i + 1, w6.heap.size :: Ds) w7 (by simp only; omega) (hI.next hlt (by rw [hexb]; exact hall) (by omega) (E46.trans hJ) hd hn))
 ·intro hall ch w7 w8 hst e7 e8
  refine ⟨?_, hst, ?_⟩
  ·rw [Bool.true_and, Bool.true_and]; exact range_bad hlt (by rw [hexb]; exact hall)
  ·exact ((X3'.trans (X4.trans E46)).trans e7).write e8 (by
    intro k hk hlt
    rcases List.mem_cons.1 hk with rfl | hk
    ·omega
    ·have := (hI.ds k hk).2; omega)
end Go.Sg
end
section
set_option maxRecDepth 4000
namespace Go.Rn
open Go.RowKit
section
variable {P : Program} {c : Ctx} {k : List Item} {Q : Out → Act → World → Prop} {w : World} {n : Nat} {ds : List Deferred} {env : Env}
variable {ops : Array Oper} {d : Tmp} {dst : Option Tmp} {op : Op} {ty : TypeId} {pos : String} {after : Array Edge} {guard : Option (Nat × Bool)} {rest : List Oper}
def defC (g : FuncId) (ca : List Value) : Deferred := { target := .fn (.func g) ca.toArray, args := #[] }
theorem RunL.deferC {g : FuncId} {f : Operand} {ts : Array TypeId} {ca : List Value} (hr : c.round = none)
  (hw : wantE ops.toList env ⟨none, .defer ⟨.value f, #[], ts⟩, ty, pos, after, guard⟩ = some true) (hf : evO env f = some (.func (.func g) #[] ca.toArray))
  (h : RunL P c n (defC g ca :: ds) ops rest k Q env w) : RunL P c n ds ops (⟨none, .defer ⟨.value f, #[], ts⟩, ty, pos, after, guard⟩ :: rest) k Q env w := fun i hi a hst => by
 obtain ⟨h1, h2⟩ := drop_cons hi
 have ho : ops[i]? = some ⟨none, .defer ⟨.value f, #[], ts⟩, ty, pos, after, guard⟩ := by simpa using h1
 have hwa := wantE_ok hst hw
 rw [List.length_cons, List.range'_succ]
 have hrun : (execOp a.eval ⟨none, .defer ⟨.value f, #[], ts⟩, ty, pos, after, guard⟩).run P w = .ok (.defer (defC g ca)) w := by
  have := hst.ev hf
  simp [execOp, resolve, Deferred.ofValue, this, defC, Pure.pure, Sem.run, bind, Sem.bind]
 refine Run.step (fun cs => .one (step_lone_go ?_)) (h (i + 1) h2 { a with defers := defC g ca :: a.defers } ⟨hst.size, by rw [hst.defers], hst.get⟩)
 have he := c.fr_eval a (.inRegion ops (i :: List.range' (i + 1) rest.length) :: k)
 simp only [Ctx.fr] at he
 have hf := Ctx.fr_finish c { a with defers := defC g ca :: a.defers } ops i (List.range' (i + 1) rest.length) k undef
 rw [ho] at hf
 simp only [Option.bind_some, Act.put, Ctx.fr] at hf
 rw [hr] at he hf
 simp [stepG, stepG.exec, stepG.oper, Frame.oper?, Ctx.fr, ho, hwa, hr]
 rw [he]
 simp only [stepG.apply, Sem.runT_eq, hrun, GStep.bare_after]
 exact congrArg (fun fr => GStep.go { frame := fr, callers := cs, status := .running, dying := none } w) hf
theorem leaves_oneC {fn : Func} {tmps : Array Value} {g : FuncId} {ca : List Value} {u : FrameMode} {R : Value → World → Prop} {X : List PanicEntry → World → Prop} (hg : Body P g) (hu : u ≠ .run)
  (h : Mends P g ca u w fun u' w' => u' = .returning ∧ ∃ v, (results fn tmps).run P w' = .ok v w' ∧ R v w') : Go.Leaves P fn tmps (endP R X) [defC g ca] u w := by
 refine ⟨hu, .func g, ca.toArray, g, ca.toArray, rfl, ?_, fun c0 cs hc => ?_⟩
 ·have := run_callFunc (P := P) (w := w) hg ca.toArray
  simpa [invoke, defC] using this
 ·obtain ⟨e, u', w', fr, ⟨⟨v, rfl⟩, h1, v', h2, h3⟩, h4⟩ := h c0 cs hc
  refine ⟨.returned v, u', w', fr, ?_, h4⟩
  simp only
  rw [h1]
  exact ⟨v', h2, h3⟩
theorem RunE.retC {g : FuncId} {fn : Func} {q : FuncId} {vs : List Value} {R : Value → World → Prop} {X : List PanicEntry → World → Prop} (hf : P.funcs[g]? = some fn) (hq : Body P q)
  (h : Mends P q vs .returning w fun u' w' => u' = .returning ∧ ∃ rs, ResOk P w' env fn.results.toList rs ∧ R (oneOr rs) w') : RunE P c n [defC q vs] (.code .ret :: k) (FnQ P g R X) env w :=
 .ret fun a ha todo => leaves_kit hf rfl (by
  simp only
  rw [ha.defers]
  refine leaves_oneC hq (by simp) fun c0 cs hc => ?_
  obtain ⟨e, u', w', fr, ⟨h0, h1, rs, h2, h3⟩, h4⟩ := h c0 cs hc
  exact ⟨e, u', w', fr, ⟨h0, h1, _, h2.resultsRun ha, h3⟩, h4⟩)
theorem FnQ.panicC {g : FuncId} {fn : Func} {q : FuncId} {vs : List Value} {ch : List PanicEntry} {a : Act} {R : Value → World → Prop} {X : List PanicEntry → World → Prop} (hf : P.funcs[g]? = some fn) (hq : Body P q) (ha : St n [defC q vs] env a)
  (h : Mends P q vs (.panicking ch) w fun u' w' => u' = .returning ∧ ∃ rs, ResOk P w' env fn.results.toList rs ∧ R (oneOr rs) w') : FnQ P g R X (.panic ch) a w :=
 fun todo => leaves_kit hf rfl (by
  simp only
  rw [ha.defers]
  refine leaves_oneC hq (by simp) fun c0 cs hc => ?_
  obtain ⟨e, u', w', fr, ⟨h0, h1, rs, h2, h3⟩, h4⟩ := h c0 cs hc
  exact ⟨e, u', w', fr, ⟨h0, h1, _, h2.resultsRun ha, h3⟩, h4⟩)
theorem Mends.monoX {g : FuncId} {vs : List Value} {u : FrameMode} {R R' : FrameMode → World → Prop} (h : Mends P g vs u w R) (hr : ∀ u' w', R u' w' → R' u' w') : Mends P g vs u w R' := fun c0 cs hc => by
 obtain ⟨e, u', w', fr, ⟨h0, h1⟩, h2⟩ := h c0 cs hc
 exact ⟨e, u', w', fr, ⟨h0, hr _ _ h1⟩, h2⟩
theorem OpV.assertTX {t u : TypeId} {x : Operand} {v : Value} {d : TypeDesc} (hx : evO env x = some (.iface u v)) (hu : P.underlying u = some d) (hd : isIfaceD d = false) :
  OpV P env w ⟨dst, .typeAssert x t u true, ty, pos, after, guard⟩ (.tuple #[v, .bool true]) := .of_run fun ρ hρ => by
 refine ⟨_, by simp only [execOp, hρ _ _ hx]; rfl, ?_⟩
 unfold Instr.typeAssert
 rw [run_bind _ _ (run_underlying hu)]
 cases d <;> first | (simp [isIfaceD] at hd; done) | simp [Pure.pure, Sem.run]
end
end Go.Rn
namespace Go.Sg
open Go.Rn Go.Proofs Go.Rec Go.RowKit Go.Pol
theorem att_body : Body Tryz.prog 176 := ⟨_, Tryz.func176, by kernel_rfl, rfl⟩
attribute [local irreducible] Go.Rn.RetsX Go.Rn.RunLN Go.Rn.AsyN Go.Rn.RunL Go.Rn.RunE Go.Rn.Asy Go.Rn.OpV Go.Rn.OpE Go.Rn.ExecE
theorem att_ret (b : Nat) (w : World) : Mends Tryz.prog 176 [.pointer (some ⟨b, 0, none⟩)] .returning w fun u w' => u = .returning ∧ w' = w := by
 unfold Mends
 refine callsD_of (args := [.pointer (some ⟨b, 0, none⟩)]) Tryz.func176 rfl fun c0 cs hm => ?_
 refine RunAt.seq ?_
 refine RunAt.region ?_
 refine RunAt.recov (v := .nilIface) (cs' := c0 :: cs) rfl rfl rfl (.inr ⟨?_, rfl, rfl⟩) ?_
 ·simp [recoverD, hm]
 refine RunAt.body (i := 1) (n := 17) (ds := []) (env := [(4, .nilIface), (0, .pointer (some ⟨b, 0, none⟩))]) ((argSt (nm := Tryz.f176.ntmps) (nt := 17) (args := [.pointer (some ⟨b, 0, none⟩)]) rfl (by simp)).put (d := 4) (by decide) _) rfl ?_
 refine g ?_
 refine RunL.evV rfl rfl rfl (OpV.neNilN Tryz.underlying20 rfl) ?_
 refine g ?_
 exact RunE.nil fun a ha => ⟨.inl rfl, ha.defers, .returning, by rw [← hm], _, (ResOk.nil (P := Tryz.prog) (w := w)).resultsRun (fn := Tryz.f176) ha, ⟨_, rfl⟩, rfl, rfl⟩
theorem att_pan (b : Nat) (x e : Int) (w : World) (hb : Blk w b [.int .i64 x] 35) : Mends Tryz.prog 176 [.pointer (some ⟨b, 0, none⟩)] (.panicking (panOf 264 (.agg #[.int .i64 e]))) w fun u w' => u = .returning ∧ ExtB (fun k => k = b) w w' ∧ Blk w' b [.int .i64 e] 35 := by
 unfold Mends
 refine callsD_of (args := [.pointer (some ⟨b, 0, none⟩)]) Tryz.func176 rfl fun c0 cs hm => ?_
 refine RunAt.seq ?_
 refine RunAt.region ?_
 refine RunAt.recov (v := .iface 264 (.agg #[.int .i64 e])) (cs' := { c0 with mode := .panicking [{ v := .iface 264 (.agg #[.int .i64 e]), recovered := true }] } :: cs) rfl rfl rfl (.inl ?_) ?_
 ·simp [recoverD, hm, panOf]
 refine RunAt.body (i := 1) (n := 17) (ds := []) (env := [(4, .iface 264 (.agg #[.int .i64 e])), (0, .pointer (some ⟨b, 0, none⟩))]) ((argSt (nm := Tryz.f176.ntmps) (nt := 17) (args := [.pointer (some ⟨b, 0, none⟩)]) rfl (by simp)).put (d := 4) (by decide) _) rfl ?_
 refine g ?_
 refine RunL.evV rfl rfl rfl (OpV.neNilI Tryz.underlying20 rfl rfl) ?_
 refine g ?_
 refine RunL.evV rfl rfl rfl (OpV.assertTX rfl Tryz.underlying264 rfl) ?_
 refine g1 (cs := [.int .i64 e]) fun B2 w1 E1 G1 Z2 => ?_
 refine g ?_
 refine RunL.store Tryz.tOk rfl rfl rfl rfl rfl (hb.up E1) rfl rfl fun w2 t2 => ?_
 refine g ?_
 exact RunE.nil fun a ha => ⟨.inl rfl, ha.defers, _, rfl, _, (ResOk.nil (P := Tryz.prog) (w := w2)).resultsRun (fn := Tryz.f176) ha, ⟨_, rfl⟩, rfl, (ExtB.of_ext E1).trans t2.ext, t2.at_⟩
end Go.Sg
end
section
set_option maxRecDepth 4000
namespace Go.Sg
open Go.Rn Go.Proofs Go.Rec Go.RowKit Go.Pol
attribute [local irreducible] Go.Rn.RetsX Go.Rn.RunLN Go.Rn.AsyN Go.Rn.RunL Go.Rn.RunE Go.Rn.Asy Go.Rn.OpV Go.Rn.OpE Go.Rn.ExecE
def ExA (r : Value) : Prop := ∃ (k n no : Int) (s : ByteArray) (d : Option Addr) (a c : Nat), r = .agg #[.int .i64 k, .int .i64 n, .int .i64 no, .string s, .slice d a c]
theorem resolve_ok : ∀ (n : Nat) (x : Ex), numE x ≤ n → n ≤ 1000 → ∀ (os : List ByteArray) (ov : Value) (N : Nat) (w : World), os.length ≤ 100000 → IsL w strC 1 ov os → HoldE w N x →
  Rets Tryz.prog 142 [ov, exV x] w fun r w' => ExA r ∧ Ext w w' := by
 intro n
 induction n with
 | zero => intro x h; have := numE_pos x; omega
 | succ n ih =>
 intro x hnx hn os ov N w hol hov hH
 obtain ⟨d, cp, rfl⟩ := isSl_slice hov
 have hxl := numE_len x
 refine en Tryz.func142 35 fun hf_ => ?_
 refine g1 (cs := x.cells) fun B3 w1 E1 G3 Z3 => ?_
 refine g ?_
 refine RunL.alloc Tryz.tOk rfl rfl rfl fun B4 w2 a4 => ?_
 have E2 := a4.ext
 have n4 := a4.eq
 have l3 := Z3.lt
 have Z4 : Blk w2 B4 [.int .i64 0, .int .i64 0, .int .i64 0, .string ⟨#[]⟩, .slice none 0 0] 78 := a4.at_
 clear a4
 refine g ?_
 refine RunL.store Tryz.tOk rfl rfl rfl rfl rfl (Z3.up E2) rfl rfl fun w3 t3 => ?_
 have Z3' : Blk w3 B3 [.int .i64 x.kind, .int .i64 x.n, .int .i64 0, .string x.name, .slice x.u x.l.length x.c] 78 := t3.at_
 have T3 : ExtB (fun k => k = B3) w2 w3 := t3.ext
 have Z4' := Z4.ext T3 (by omega)
 have X3 : Ext w w3 := (E1.trans E2).write T3 (by intro k hk hlt; have hk : k = B3 := hk; omega)
 clear t3 T3 Z3 Z4 E1 E2
 have hnm : namedX (.mk x.kind x.n 0 x.name x.u x.c x.l) = namedX x := rfl
 have s3 := X3.size
 refine gc (named_ok (.mk x.kind x.n 0 x.name x.u x.c x.l) w3) ?_
 rintro _ w4 ⟨rfl, E4⟩
 rw [hnm]
 have Z34 := Z3'.up E4
 have Z44 := Z4'.up E4
 have X4 : Ext w w4 := X3.trans E4
 have s4 := E4.size
 have hz : (0 : Int) = 0 := rfl
 have hst : ∀ (k : Int) (w5 : World), Ext w w5 → Blk w5 B3 [.int .i64 x.kind, .int .i64 x.n, .int .i64 k, .string x.name, .slice x.u x.l.length x.c] 78 → Blk w5 B4 [.int .i64 0, .int .i64 0, .int .i64 0, .string ⟨#[]⟩, .slice none 0 0] 78 → True := fun _ _ _ _ _ => trivial
 clear hst
 cases hb : namedX x
 case' true =>
  refine gc (idx_ok os _ x.name w4 hol (hov.up X4)) ?_
  rintro _ _ ⟨rfl, rfl⟩
  generalize idxS os x.name = k
  refine g ?_
  refine RunL.store Tryz.tOk rfl rfl rfl rfl rfl Z34 rfl rfl fun w5 t5 => ?_
  have Zk : Blk w5 B3 [.int .i64 x.kind, .int .i64 x.n, .int .i64 k, .string x.name, .slice x.u x.l.length x.c] 78 := t5.at_
  have Zq := Z44.ext t5.ext (fun h => by have h : B4 = B3 := h; omega)
  have X5 : Ext w w5 := X4.write t5.ext (by intro k hk hlt; have hk : k = B3 := hk; omega)
  clear t5 Z34 Z44 X4 E4 s4
 case' false =>
  obtain ⟨w5, hw5⟩ : ∃ w5, w5 = w4 := ⟨_, rfl⟩
  subst hw5
  rename World => w5
  obtain ⟨k, hk⟩ : ∃ k : Int, k = 0 := ⟨0, rfl⟩
  have Zk : Blk w5 B3 [.int .i64 x.kind, .int .i64 x.n, .int .i64 k, .string x.name, .slice x.u x.l.length x.c] 78 := by rw [hk]; exact Z34
  have Zq := Z44
  have X5 := X4
  clear Z34 Z44 X4 E4 s4
 all_goals
  refine g ?_
  refine RunL.store Tryz.tOk rfl rfl rfl rfl rfl Zk rfl rfl fun w6 t6 => ?_
  have Z6 : Blk w6 B3 [.int .i64 x.kind, .int .i64 x.n, .int .i64 k, .string x.name, .slice none 0 0] 78 := t6.at_
  have Q6 := Zq.ext t6.ext (fun h => by have h : B4 = B3 := h; omega)
  have X6 : Ext w w6 := X5.write t6.ext (by intro k hk hlt; have hk : k = B3 := hk; omega)
  clear t6 Zk Zq X5
  have l6 := Z6.lt
  have lq := Q6.lt
  refine g ?_
  refine rangeL hH.list encEx 19 20 21 (fun _ : Unit => [(0, .slice d os.length cp), (3, .pointer (some ⟨B3, 0, none⟩)), (4, .pointer (some ⟨B4, 0, none⟩))])
   (fun i _ w' => (∃ s xs, Blk w' B3 [.int .i64 x.kind, .int .i64 x.n, .int .i64 k, .string x.name, s] 78 ∧ w'.ownsRow w6.heap.size 78 5 s i xs) ∧ Blk w' B4 [.int .i64 0, .int .i64 0, .int .i64 0, .string ⟨#[]⟩, .slice none 0 0] 78 ∧ Ext w w' ∧ w6.heap.size ≤ w'.heap.size) () sb_ ⟨⟨_, _, Z6, World.ownsRow_nil _ _ _ _⟩, Q6, X6, Nat.le_refl _⟩ ?_ ?_
  ·rintro i ⟨⟩ c w7 hc ⟨⟨s, xs, Z7, O7⟩, Q7, X7, s7⟩ b o cap hve hrx hlt again
   rw [hve] at again ⊢
   have hcm := List.mem_of_getElem? hc
   have hcn := numE_kid hcm
   obtain ⟨ds, cs, rfl⟩ := isSl_slice (isSl_own O7)
   refine g1 (cs := c.cells) fun B7 w8 E8 G8 Z8 => ?_
   have V7 := Z7.up E8
   have O8 := ownsRow_ext O7 E8 fun _ _ h => h
   have s8 := E8.size
   refine g ?_
   refine RunE.draw (fun _ => False) mix' ?_
   intro wd Xd
   refine ga ?_
   refine Asy.sat0 (fun a _ => ExA a) rfl rfl rfl rfl (fun _ _ _ _ _ h => h) (fun w' e => ?_) ?_
   ·refine OpE.mono (OpE.call rfl (ih c (by omega) (by omega) os _ N w' hol (hov.up (X7.trans (E8.trans (Xd.trans e)))) ((hH.kids c hcm).up (X7.trans (E8.trans (Xd.trans e)))))) ?_ fun _ _ h => h
    rintro r w'' ⟨h1, h2⟩; exact ⟨h2, h1⟩
   refine Asy.sat1 0 (fun u w' => ∃ B ys, u = .slice (some ⟨B, 0, none⟩) 1 1 ∧ IsSl w' 5 u 1 ys ∧ ys.all plainV = true) rfl rfl rfl rfl rfl rfl (fun u w' w'' _ e h => ?_) (fun w' y e hy => ?_) ?_
   ·obtain ⟨B, ys, h1, h2, h3⟩ := h; exact ⟨B, ys, h1, h2.up e, h3⟩
   ·obtain ⟨k', n', no', s', d', a', c', rfl⟩ := hy
    refine OpE.mono (OpE.buildSl Tryz.tOk [.agg #[.int .i64 k', .int .i64 n', .int .i64 no', .string s', .slice d' a' c']] rfl rfl rfl rfl rfl rfl (by simp [Value.cells])) ?_ fun _ _ h => h
    rintro _ w'' ⟨B, rfl, a⟩
    exact ⟨a.ext, B, _, rfl, isSl_added (n := 1) (sz := 5) a rfl, rfl⟩
   refine Asy.tail (by decide +kernel) fun we Xe => ?_
   simp only [satsAll]
   rintro _ ⟨B, ys, rfl, hys, hpl⟩ x1 -
   have EE : Ext w8 we := Xd.trans Xe
   have Oe := ownsRow_ext O8 EE fun _ _ h => h
   have sE := EE.size
   refine RunL.ex rfl rfl rfl (OpE.append' Tryz.tOk rfl rfl rfl rfl rfl rfl Oe hys hpl (by show _ * 64 ≤ _; omega) (by omega) (by omega)) ?_
   rintro y' w9 ⟨O9, E9, -⟩
   have hne : ∀ k, (Value.slice ds i cs).ownBlock = some k → w6.heap.size ≤ k := fun k hk => ownsRow_ge Oe hk
   have Z9 := (V7.up EE).ext E9 (fun h => by have := hne _ h; omega)
   have Q9 := (Q7.up (E8.trans EE)).ext E9 (fun h => by have := hne _ h; omega)
   have X9 : Ext w w9 := (X7.trans (E8.trans EE)).write E9 (by intro k hk hlt; have := hne _ hk; have := X6.size; omega)
   have s9 := E9.size
   obtain ⟨dy, cy, rfl⟩ := isSl_slice (isSl_own O9)
   refine g ?_
   refine RunL.store Tryz.tOk rfl rfl rfl rfl rfl Z9 rfl rfl fun w10 t10 => ?_
   have T10 : ExtB (fun k => k = B3) w9 w10 := t10.ext
   refine g ?_
   exact RunE.weaken sb_ (again () w10 ⟨⟨_, _, t10.at_, ownsRow_ext O9 T10 (fun k hk h => by have := ownsRow_ge O9 hk; omega)⟩, Q9.ext T10 (by omega), X9.write T10 (by intro k hk hlt; have hk : k = B3 := hk; omega), by have := T10.size; omega⟩)
  ·rintro ⟨⟩ w7 ⟨⟨s, xs, Z7, O7⟩, Q7, X7, s7⟩
   obtain ⟨ds, cs, rfl⟩ := isSl_slice (isSl_own O7)
   refine g ?_
   refine RunL.storeW (vs := [.int .i64 x.kind, .int .i64 x.n, .int .i64 k, .string x.name, .slice ds x.l.length cs]) Tryz.tOk rfl rfl rfl rfl rfl Q7 rfl rfl fun w8 t8 => ?_
   have Q8 : Blk w8 B4 [.int .i64 x.kind, .int .i64 x.n, .int .i64 k, .string x.name, .slice ds x.l.length cs] 78 := t8.at_
   refine g ?_
   exact RunE.retFn hf_ (.cell rfl (Loads.agg Tryz.tOk rfl rfl rfl Q8.row) .nil) ⟨⟨_, _, _, _, _, _, _, rfl⟩, X7.write t8.ext (by intro k hk hlt; have hk : k = B4 := hk; omega)⟩
end Go.Sg
end
section
set_option maxRecDepth 4000
namespace Go.Sg
open Go.Rn Go.Proofs Go.Rec Go.RowKit Go.Pol
attribute [local irreducible] Go.Rn.RetsX Go.Rn.RunLN Go.Rn.AsyN Go.Rn.RunL Go.Rn.RunE Go.Rn.Asy Go.Rn.OpV Go.Rn.OpE Go.Rn.ExecE
theorem rangePartsG {Sp : List PanicEntry → Prop} {g : FuncId} {fn : Func} {R : Value → World → Prop} {X : List PanicEntry → World → Prop} {n : Nat} {k : List Item} {env : Env} {f : Operand} {param : Tmp} {assign body : Code} (hf : Tryz.prog.funcs[g]? = some fn)
  (x : Ex) (N c1 c2 : Nat) (w : World) (Ds : List Nat) (chk : Ex × Int → Bool) (S0 : Nat → Prop) (Jx : Nat → World → Prop) (Zx : World → Prop)
  (hx40 : numE x ≤ 40) (hH : HoldE w N x) (hN : N ≤ w.heap.size) (V1 : Blk w c1 x.cells 78) (V2 : Blk w c2 [.int .i64 1] 3)
  (hfv : evO env f = some (partsV c1 c2)) (hp : Nat.blt param n = true)
  (hDs : ∀ D ∈ Ds, w.heap[D]? = some (.deferred (some []))) (hnd : Ds.Nodup) (hS0 : ∀ k, S0 k → N ≤ k ∧ k < w.heap.size ∧ k ≠ c1 ∧ k ≠ c2 ∧ k ∉ Ds)
  (hJ0 : Jx 0 w) (hJup : ∀ q u u', Jx q u → ExtB (fun k => w.heap.size ≤ k) u u' → Jx q u') (hZup : ∀ u u', Zx u → ExtB (fun k => w.heap.size ≤ k) u u' → Zx u')
  (hb : ∀ q p u lp, (partsE x 1)[q]? = some p → Jx q u → ExtB S0 w u → HoldE u N p.1 → LoopAt u (w.heap.size + 1) w.heap.size lp → lp.state = .ready → w.heap.size + 2 ≤ u.heap.size →
   RunE Tryz.prog ⟨g, .normal, some (w.heap.size + 1)⟩ n [] [.code assign, .beginRound, .code body]
    (RoundX (w.heap.size + 1) w.heap.size lp (fun u' => (chk p = true ∧ Jx (q + 1) u') ∧ ExtB (fun k => S0 k ∨ k = w.heap.size + 1) u u') (fun u' => (chk p = false ∧ Zx u') ∧ ExtB (fun k => S0 k ∨ k = w.heap.size + 1) u u') (fun _ u' => False ∧ ExtB (fun k => S0 k ∨ k = w.heap.size + 1) u u') (fun ch u' => (chk p = false ∧ Sp ch) ∧ ExtB (fun k => S0 k ∨ k = w.heap.size + 1) u u')) ((param, partV p) :: env) u)
  (h : (partsE x 1).all chk = true → ∀ w', Jx (numE x) w' → ExtB S0 w w' → (∀ D ∈ w.heap.size :: Ds, w'.heap[D]? = some (.deferred (some []))) → (w.heap.size :: Ds).Nodup → RunE Tryz.prog ⟨g, .normal, none⟩ n ((w.heap.size :: Ds).map markOf) k (FnQ Tryz.prog g R X) env w')
  (h' : (partsE x 1).all chk = false → ∀ w', Zx w' → ExtB S0 w w' → (∀ D ∈ w.heap.size :: Ds, w'.heap[D]? = some (.deferred (some []))) → (w.heap.size :: Ds).Nodup → RunE Tryz.prog ⟨g, .normal, none⟩ n ((w.heap.size :: Ds).map markOf) (.code .ret :: k) (FnQ Tryz.prog g R X) env w')
  (h3 : (partsE x 1).all chk = false → ∀ ch w1 w', Sp ch → ExtB S0 w w1 → ExtB (· ∈ w.heap.size :: Ds) w1 w' → X ch w') :
  RunE Tryz.prog ⟨g, .normal, none⟩ n (Ds.map markOf) (.code (.rangeFunc f #[param] assign body) :: k) (FnQ Tryz.prog g R X) env w := by
 have hDlt : ∀ D ∈ Ds, D < w.heap.size := fun D hD => lt_of_get (hDs D hD)
 have hnd' : (w.heap.size :: Ds).Nodup := List.nodup_cons.2 ⟨fun h => by have := hDlt _ h; omega, hnd⟩
 have hall : ∀ w', ExtB S0 w w' → w'.heap[w.heap.size]? = some (.deferred (some [])) → ∀ D ∈ w.heap.size :: Ds, w'.heap[D]? = some (.deferred (some [])) := fun w' e h D hD => by
  rcases List.mem_cons.1 hD with rfl | hD
  ·exact h
  ·exact obj_ext (hDs D hD) e fun hs => (hS0 D hs).2.2.2.2 hD
 have l1 := V1.lt
 have l2 := V2.lt
 refine RunE.rangeGivesX (w0 := w) (F := fun k => k = c1 ∨ k = c2 ∨ k < N) rfl ⟨_, hf⟩ hfv (parts_gives 40 x hx40 1 N c1 c2 w (by decide) (by decide) (by decide) hH hN V1 V2) S0 (fun k hk => ?_) (fun k hk => (hS0 k hk).2.1) (ExtB.refl _ _) (fun ys hx => ?_) (by simpa using hp)
  (fun q u => ((partsE x 1).take q).all chk = true ∧ Jx q u) (fun u => (partsE x 1).all chk = false ∧ Zx u) (fun _ _ => False) (fun ch _ => (partsE x 1).all chk = false ∧ Sp ch) ⟨rfl, hJ0⟩ (fun q u u' h e => ⟨h.1, hJup q u u' h.2 e⟩) (fun u u' h e => ⟨h.1, hZup u u' h.2 e⟩) (fun _ _ _ h _ => h) (fun _ _ _ h _ => h) ?_ ?_ ?_ (fun _ _ h => h.elim) ?_
 ·rcases hk with rfl | rfl | hk
  ·exact ⟨fun h => (hS0 _ h).2.2.1 rfl, l1⟩
  ·exact ⟨fun h => (hS0 _ h).2.2.2.1 rfl, l2⟩
  ·exact ⟨fun h => by have := (hS0 _ h).1; omega, by omega⟩
 ·obtain ⟨a, -, rfl⟩ := List.mem_map.1 hx; rfl
 ·intro q ys u lp hx hJq hXu hL hs hsu
  obtain ⟨p, hpq, rfl⟩ : ∃ p, (partsE x 1)[q]? = some p ∧ ys = [partV p] := by
   simp only [List.getElem?_map, Option.map_eq_some_iff] at hx
   obtain ⟨a, h, rfl⟩ := hx; exact ⟨a, h, rfl⟩
  have hHp := (parts_hold 40 hx40 (hH.ext hXu fun k hk => (hS0 k hk).1) p (List.mem_of_getElem? hpq)).1
  refine RunE.monoQ (hb q p u lp hpq hJq.2 hXu hHp hL hs hsu) fun o a1 u1 hq => ?_
  cases o with
  | fall => exact ⟨⟨⟨all_take hpq hJq.1 hq.1.1.1, hq.1.1.2⟩, hq.1.2⟩, hq.2⟩
  | ret => exact ⟨⟨⟨all_bad hpq hq.1.1.1, hq.1.1.2⟩, hq.1.2⟩, hq.2⟩
  | exit id => exact hq.1.1.elim
  | panic ch => exact ⟨hq.1, ⟨⟨all_bad hpq hq.2.1.1.1, hq.2.1.1.2⟩, hq.2.1.2⟩, hq.2.2⟩
 ·rintro w' ⟨ha, hJ⟩ e hD
  rw [List.length_map] at ha hJ
  rw [List.take_length] at ha
  rw [partsE_len] at hJ
  exact h ha w' hJ e (hall w' e hD) hnd'
 ·rintro w' ⟨ha, hZ⟩ e hD
  exact h' ha w' hZ e (hall w' e hD) hnd'
 ·rintro ch w' a ⟨ha, hs⟩ e hD hst
  exact FnQ.panicM (w.heap.size :: Ds) hf hst.defers (hall w' e hD) hnd' fun w2 e2 => h3 ha ch w' w2 hs e e2
end Go.Sg
end
section
set_option maxRecDepth 4000
namespace Go.Pol
open Go.Rn Go.Rec
def okP (p : Po) : Bool := sizesB p && (namesB p && formB p)
def rsP (os : List ByteArray) (y : Ex × Int) : Bool := decide (y.1.no = if namedX y.1 then idxS os y.1.name else 0)
def resB (os : List ByteArray) (x : Ex) : Bool := (partsE x 1).all (rsP os)
end Go.Pol
namespace Go.Sg
open Go.Rn Go.Proofs Go.Rec Go.RowKit Go.Pol
attribute [local irreducible] Go.Rn.RetsX Go.Rn.RunLN Go.Rn.AsyN Go.Rn.RunL Go.Rn.RunE Go.Rn.Asy Go.Rn.OpV Go.Rn.OpE Go.Rn.ExecE
theorem res1_ok (p : Po) (N b1 : Nat) (w : World) (hF : FewP p) (hH : HoldP w N p) (hN : N ≤ w.heap.size) (hK : Row w 0 0 kindsC) (Z : Blk w b1 p.cells 80) :
  RetsX Tryz.prog 138 [.pointer (some ⟨b1, 0, none⟩)] w (fun _ w' => okP p = true ∧ Ext w w') (fun ch w' => okP p = false ∧ StopP ch ∧ Ext w w') := by
 unfold okP
 refine en Tryz.func138 7 fun hf_ => ?_
 refine g ?_
 refine RunL.exS rfl rfl rfl (OpE.call rfl (sizes_ok p N w hF hH hN)) (fun ch w' a hx hst => FnQ.panic0 hf_ hst ⟨by rw [hx.1]; rfl, hx.2.1, hx.2.2⟩) ?_
 rintro _ w1 ⟨h1, E1⟩
 have s1 := E1.size
 refine g ?_
 refine RunL.exS rfl rfl rfl (OpE.call rfl (names_ok p N w1 hF (hH.up E1) (by omega))) (fun ch w' a hx hst => FnQ.panic0 hf_ hst ⟨by rw [h1, hx.1]; rfl, hx.2.1, E1.trans hx.2.2⟩) ?_
 rintro _ w2 ⟨h2, E2⟩
 have s2 := E2.size
 refine g ?_
 refine RunL.exS rfl rfl rfl (OpE.call rfl (form_ok p N w2 hF (hH.up (E1.trans E2)) (by omega) (hK.up (E1.trans E2)))) (fun ch w' a hx hst => FnQ.panic0 hf_ hst ⟨by rw [h1, h2, hx.1]; rfl, hx.2.1, (E1.trans E2).trans hx.2.2⟩) ?_
 rintro _ w3 ⟨h3, E3⟩
 refine g ?_
 exact RunE.fallFn hf_ .nil ⟨by rw [h1, h2, h3]; rfl, (E1.trans E2).trans E3⟩
theorem attempt_ok (p : Po) (N b1 : Nat) (w : World) (hF : FewP p) (hH : HoldP w N p) (hN : N ≤ w.heap.size) (hK : Row w 0 0 kindsC) (Z : Blk w b1 p.cells 80) :
  Rets Tryz.prog 137 [.func (.func 138) #[] #[.pointer (some ⟨b1, 0, none⟩)]] w fun r w' => (∃ e : Int, r = .int .i64 e ∧ ((e = 0) ↔ okP p = true)) ∧ Ext w w' := by
 refine en Tryz.func137 6 fun hf_ => ?_
 refine g ?_
 refine RunL.alloc Tryz.tOk rfl rfl rfl fun B2 w1 a2 => ?_
 have E1 := a2.ext
 have n2 := a2.eq
 have Z2 : Blk w1 B2 [.int .i64 0] 35 := a2.at_
 clear a2
 have s1 := E1.size
 refine g ?_
 refine RunL.deferC (ca := [.pointer (some ⟨B2, 0, none⟩)]) rfl rfl rfl ?_
 refine g ?_
 refine RunL.exS rfl rfl rfl (OpE.callV rfl rfl (RetsX.v (fi := []) (args := []) (ca := [.pointer (some ⟨b1, 0, none⟩)]) (res1_ok p N b1 w1 hF (hH.up E1) (by omega) (hK.up E1) (Z.up E1)))) (fun ch w' a hx hst => ?_) ?_
 ·obtain ⟨h1, ⟨e, he, rfl⟩, E⟩ := hx
  refine FnQ.panicC hf_ att_body hst ((att_pan B2 0 e w' (Z2.up E)).monoX fun u' w'' h => ⟨h.1, _, .cell rfl (.scalar Tryz.tOk rfl rfl (h.2.2.cell (i := 0) rfl)) .nil, ⟨e, rfl, ?_⟩, (E1.trans E).write h.2.1 (by intro k hk hlt; have hk : k = B2 := hk; omega)⟩)
  rw [h1]; simp [he]
 ·rintro _ w2 ⟨h1, E2⟩
  have Z22 := Z2.up E2
  refine g ?_
  refine RunL.store Tryz.tOk rfl rfl rfl rfl rfl Z22 rfl rfl fun w3 t3 => ?_
  have Z3 : Blk w3 B2 [.int .i64 0] 35 := t3.at_
  have X3 : Ext w w3 := (E1.trans E2).write t3.ext (by intro k hk hlt; have hk : k = B2 := hk; omega)
  refine g ?_
  exact RunE.retC hf_ att_body ((att_ret B2 w3).monoX fun u' w'' h => ⟨h.1, _, .cell rfl (.scalar Tryz.tOk rfl rfl (Blk.cell (i := 0) (h.2 ▸ Z3) rfl)) .nil, ⟨0, rfl, by rw [h1]; simp⟩, h.2 ▸ X3⟩)
theorem resolved_ok (os : List ByteArray) (ov : Value) (x : Ex) (N : Nat) (w : World) (hol : os.length ≤ 100000) (hov : IsL w strC 1 ov os) (hx : numE x ≤ 40) (hH : HoldE w N x) (hN : N ≤ w.heap.size) :
  Rets Tryz.prog 92 [ov, exV x] w fun r w' => r = .bool (resB os x) ∧ Ext w w' := by
 obtain ⟨d, cp, rfl⟩ := isSl_slice hov
 unfold resB
 refine en Tryz.func92 23 fun hf_ => ?_
 refine g1 (cs := [.slice d os.length cp]) fun B2 w1 E1 G2 Z2 => ?_
 refine g1 (cs := x.cells) fun B3 w2 E2 G3 Z3 => ?_
 refine g ?_
 refine RunL.alloc Tryz.tOk rfl rfl rfl fun B4 w3 a4 => ?_
 have E3 := a4.ext
 have n4 := a4.eq
 have Z4 : Blk w3 B4 [.bool false] 4 := a4.at_
 clear a4
 have s1 := E1.size
 have s2 := E2.size
 have s3 := E3.size
 have l4 := Z4.lt
 have X3 : Ext w w3 := (E1.trans E2).trans E3
 refine gc (parts_call x 1 w3) ?_
 rintro _ w6 ⟨⟨c1, c2, rfl, gb1, gb2, V1, V2⟩, E6⟩
 have s6 := E6.size
 have X6 : Ext w w6 := X3.trans E6
 have l2 := Z2.lt
 have l3 := Z3.lt
 refine g ?_
 refine rangePartsG (Sp := fun _ => False) hf_ x N c1 c2 w6 [] (rsP os) (fun k => k = B4) (fun _ u => Blk u B4 [.bool false] 4 ∧ ExtB (fun k => k = B4) w6 u) (fun u => Blk u B4 [.bool false] 4 ∧ ExtB (fun k => k = B4) w6 u) hx (hH.up X6) (by omega) V1 V2 rfl rfl (by simp) List.nodup_nil (fun k hk => ?_) ⟨Z4.up E6, ExtB.refl _ _⟩ (fun q u u' h e => ⟨h.1.ext e (by omega), h.2.write e (by intro k hk hlt; have hk : w6.heap.size ≤ k := hk; omega)⟩) (fun u u' h e => ⟨h.1.ext e (by omega), h.2.write e (by intro k hk hlt; have hk : w6.heap.size ≤ k := hk; omega)⟩) ?_ ?_ ?_ ?_
 ·have hk : k = B4 := hk
  subst hk
  exact ⟨by omega, by omega, by omega, by omega, by simp⟩
 ·intro q y u lp hyq hJ hXu hHy hL hs hsu
  refine g1 (cs := partC y) fun B5 u2 XA G5 Z5 => ?_
  refine RunE.beginR (hL.up XA) hs (by omega) fun u3 t3 hL3 => ?_
  have sA := XA.size
  have sT := t3.size
  have Z5' : Blk u3 B5 (partC y) 226 := Z5.ext t3 (by omega)
  have H4 : Blk u3 B4 [.bool false] 4 := (hJ.1.up XA).ext t3 (by omega)
  have e3 : ExtB (fun k => k = B4 ∨ k = w6.heap.size + 1) u u3 := (ExtB.of_ext XA).trans (t3.mono fun k _ h => .inr h)
  have XB : ExtB (fun k => k = B4) w6 u3 := (hJ.2.trans (ExtB.of_ext XA)).write t3 (by intro k hk hlt; have hk : k = _ := hk; omega)
  have Zr : Row u3 B5 0 y.1.cells := Z5'.sub [] [.int .i64 y.2] rfl
  have U2 : Blk u3 B2 [.slice d os.length cp] 74 := (Z2.up ((E2.trans E3).trans E6)).ext XB (by omega)
  have ho : IsL u3 strC 1 (.slice d os.length cp) os := isL_ext (hov.up X6) XB fun hne k hk h => by have := isL_own hov (by decide) hne hk; have h : k = B4 := h; omega
  clear XA t3 hL Z5 hJ
  have hchk : rsP os y = decide (y.1.no = if namedX y.1 then idxS os y.1.name else 0) := rfl
  refine g ?_
  refine gc (named_ok y.1 u3) ?_
  rintro _ u4 ⟨rfl, E4⟩
  cases hnm : namedX y.1
  case' true =>
   rw [hnm, if_pos rfl] at hchk
   refine gc (idx_ok os _ y.1.name u4 hol (ho.up E4)) ?_
   rintro _ _ ⟨rfl, rfl⟩
  case' false =>
   rw [hnm, if_neg (by simp)] at hchk
  case true =>
   generalize idxS os y.1.name = k at hchk
   by_cases hc : y.1.no = k
   ·rw [decide_eq_true hc] at hchk
    refine g ?_
    exact RunE.endX ⟨⟨hchk, H4.up E4, XB.trans (ExtB.of_ext E4)⟩, e3.trans (ExtB.of_ext E4)⟩ (hL3.up E4)
   ·rw [decide_eq_false hc] at hchk
    have H44 := H4.up E4
    refine g ?_
    refine RunL.store Tryz.tOk rfl rfl rfl rfl rfl H44 rfl rfl fun u5 t5 => ?_
    have T5 : ExtB (fun k => k = B4) u4 u5 := t5.ext
    refine g ?_
    exact RunE.stopX ⟨⟨hchk, t5.at_, (XB.trans (ExtB.of_ext E4)).trans T5⟩, (e3.trans (ExtB.of_ext E4)).trans (T5.mono fun k _ h => .inl h)⟩ ((hL3.up E4).ext T5 (by omega) (by omega))
  case false =>
   by_cases hc : y.1.no = 0
   ·rw [decide_eq_true hc] at hchk
    refine g ?_
    exact RunE.endX ⟨⟨hchk, H4.up E4, XB.trans (ExtB.of_ext E4)⟩, e3.trans (ExtB.of_ext E4)⟩ (hL3.up E4)
   ·rw [decide_eq_false hc] at hchk
    have H44 := H4.up E4
    refine g ?_
    refine RunL.store Tryz.tOk rfl rfl rfl rfl rfl H44 rfl rfl fun u5 t5 => ?_
    have T5 : ExtB (fun k => k = B4) u4 u5 := t5.ext
    refine g ?_
    exact RunE.stopX ⟨⟨hchk, t5.at_, (XB.trans (ExtB.of_ext E4)).trans T5⟩, (e3.trans (ExtB.of_ext E4)).trans (T5.mono fun k _ h => .inl h)⟩ ((hL3.up E4).ext T5 (by omega) (by omega))
 ·intro hall w7 hJ e7 hd hn
  rw [hall]
  have H7 := hJ.1
  refine g ?_
  refine RunL.store Tryz.tOk rfl rfl rfl rfl rfl H7 rfl rfl fun w8 t8 => ?_
  have H8 : Blk w8 B4 [.bool true] 4 := t8.at_
  have X8 : Ext w w8 := (X6.write e7 (by intro k hk hlt; have hk : k = B4 := hk; omega)).write t8.ext (by intro k hk hlt; have hk : k = B4 := hk; omega)
  refine g ?_
  refine RunE.retFnM [w6.heap.size] hf_ (fun D hD => obj_ext (hd D hD) t8.ext ?_) hn fun w9 e9 => ⟨_, .cell rfl (Loads.scalar Tryz.tOk rfl rfl ((H8.ext e9 ?_).cell (i := 0) rfl)) .nil, rfl, X8.write e9 ?_⟩
  ·intro h; have h : D = B4 := h; have hD' : D = w6.heap.size := by simpa using hD
   omega
  ·intro h; have h : B4 = w6.heap.size := by simpa using h
   omega
  ·intro k hk hlt; have hk : k = w6.heap.size := by simpa using hk
   omega
 ·intro hall w7 hZ e7 hd hn
  rw [hall]
  have X7 : Ext w w7 := X6.write e7 (by intro k hk hlt; have hk : k = B4 := hk; omega)
  refine RunE.retFnM [w6.heap.size] hf_ hd hn fun w9 e9 => ⟨_, .cell rfl (Loads.scalar Tryz.tOk rfl rfl ((hZ.1.ext e9 ?_).cell (i := 0) rfl)) .nil, rfl, X7.write e9 ?_⟩
  ·intro h; have h : B4 = w6.heap.size := by simpa using h
   omega
  ·intro k hk hlt; have hk : k = w6.heap.size := by simpa using hk
   omega
 ·intro _ ch w1 w' h; exact h.elim
end Go.Sg
end
section
set_option maxRecDepth 4000
namespace Go.Pol
open Go.Rn Go.Rec
def exOf (k n no : Int) (s : ByteArray) (d : Option Addr) (a c : Nat) : Ex := .mk k n no s d c (List.replicate a (.mk 0 0 0 ⟨#[]⟩ none 0 []))
theorem exOf_cells (k n no : Int) (s : ByteArray) (d : Option Addr) (a c : Nat) : (exOf k n no s d a c).cells = [.int .i64 k, .int .i64 n, .int .i64 no, .string s, .slice d a c] := by
 show [Value.int .i64 k, .int .i64 n, .int .i64 no, .string s, .slice d (List.replicate a _).length c] = _
 rw [List.length_replicate]
def ruOk (p : Po) (i : Nat) : Bool := match p.rules[i]? with
 | some r => decide (r.kindNo = (i : Int)) && resB p.offices r.ex
 | none => true
def checkP (p : Po) : Bool := okP p && ((List.range p.rules.length).all (ruOk p) && resB p.offices p.change)
end Go.Pol
namespace Go.Sg
open Go.Rn Go.Proofs Go.Rec Go.RowKit Go.Pol
attribute [local irreducible] Go.Rn.RetsX Go.Rn.RunLN Go.Rn.AsyN Go.Rn.RunL Go.Rn.RunE Go.Rn.Asy Go.Rn.OpV Go.Rn.OpE Go.Rn.ExecE
abbrev prules (p : Po) (s : Value) : List Value := [.string p.name, .slice p.ku p.kinds.length p.kc, .slice p.ou p.offices.length p.oc, s, .int .i64 p.change.kind, .int .i64 p.change.n, .int .i64 p.change.no, .string p.change.name, .slice p.change.u p.change.l.length p.change.c, .int .i64 p.mode]
theorem Resolve_ok (p : Po) (N : Nat) (w : World) (hF : FewP p) (hH : HoldP w N p) (hN : N ≤ w.heap.size) (hK : Row w 0 0 kindsC) :
  Rets Tryz.prog 91 [poV p] w fun r w' => (∃ (q : Value) (e : Int), r = .tuple #[q, .int .i64 e] ∧ ((e = 0) ↔ okP p = true)) ∧ Ext w w' := by
 refine en Tryz.func91 44 fun hf_ => ?_
 refine g1 (cs := p.cells) fun B1 w1 E1 G1 Z1 => ?_
 refine g ?_
 refine RunL.alloc Tryz.tOk rfl rfl rfl fun B2 w2 a2 => ?_
 have E2 := a2.ext
 have n2 := a2.eq
 have Z2 : Blk w2 B2 [.string ⟨#[]⟩, .slice none 0 0, .slice none 0 0, .slice none 0 0, .int .i64 0, .int .i64 0, .int .i64 0, .string ⟨#[]⟩, .slice none 0 0, .int .i64 0] 80 := a2.at_
 clear a2
 have s1 := E1.size
 have s2 := E2.size
 have l1 := Z1.lt
 have X2 : Ext w w2 := E1.trans E2
 have hFo := hF.o
 have hFr := hF.r
 refine g ?_
 refine gc (attempt_ok p N B1 w2 hF (hH.up X2) (by omega) (hK.up X2) (Z1.up E2)) ?_
 rintro _ w3 ⟨⟨e, rfl, he⟩, E3⟩
 have s3 := E3.size
 have Z13 := Z1.up (E2.trans E3)
 have Z23 := Z2.up E3
 have X3 : Ext w w3 := X2.trans E3
 by_cases h0 : e = 0
 case neg =>
  refine g ?_
  refine RunL.storeW (vs := [.string ⟨#[]⟩, .slice none 0 0, .slice none 0 0, .slice none 0 0, .int .i64 0, .int .i64 0, .int .i64 0, .string ⟨#[]⟩, .slice none 0 0, .int .i64 0]) Tryz.tOk rfl rfl rfl rfl rfl Z23 rfl rfl fun w4 t4 => ?_
  have Z4 : Blk w4 B2 [.string ⟨#[]⟩, .slice none 0 0, .slice none 0 0, .slice none 0 0, .int .i64 0, .int .i64 0, .int .i64 0, .string ⟨#[]⟩, .slice none 0 0, .int .i64 0] 80 := t4.at_
  refine g ?_
  exact RunE.retFn hf_ (.cell rfl (Loads.agg Tryz.tOk rfl rfl rfl Z4.row) (.tmp rfl .nil)) ⟨⟨_, e, rfl, he⟩, X3.write t4.ext (by intro k hk hlt; have hk : k = B2 := hk; omega)⟩
 subst h0
 refine g ?_
 refine RunL.storeW (vs := p.cells) Tryz.tOk rfl rfl rfl rfl rfl Z23 rfl rfl fun w4 t4 => ?_
 have Z4 : Blk w4 B2 p.cells 80 := t4.at_
 have T4 : ExtB (fun k => k = B2) w3 w4 := t4.ext
 have Z14 := Z13.ext T4 (by omega)
 have X4 : Ext w w4 := X3.write T4 (by intro k hk hlt; have hk : k = B2 := hk; omega)
 clear t4
 refine g ?_
 refine RunL.store Tryz.tOk rfl rfl rfl rfl rfl Z4 rfl rfl fun w5 t5 => ?_
 have Z5 : Blk w5 B2 (prules p (.slice none 0 0)) 80 := t5.at_
 have T5 : ExtB (fun k => k = B2) w4 w5 := t5.ext
 have Z15 := Z14.ext T5 (by omega)
 have X5 : Ext w w5 := X4.write T5 (by intro k hk hlt; have hk : k = B2 := hk; omega)
 clear t5 T4 T5 Z13 Z23 Z14 Z4 Z1 Z2
 have l5 := Z5.lt
 have l15 := Z15.lt
 refine g ?_
 refine rangeL hH.r encRu 15 16 17 (fun _ : Unit => [(1, .pointer (some ⟨B1, 0, none⟩)), (2, .pointer (some ⟨B2, 0, none⟩)), (3, .int .i64 0)])
  (fun i _ w' => (∃ (s : Value) (acc : List Ru), acc.length = i ∧ Blk w' B2 (prules p s) 80 ∧ w'.ownsRow w5.heap.size 121 8 s acc.length (flat Ru.cells acc)) ∧ Blk w' B1 p.cells 80 ∧ Ext w w' ∧ w5.heap.size ≤ w'.heap.size) () sb_ ⟨⟨_, [], rfl, Z5, World.ownsRow_nil _ _ _ _⟩, Z15, X5, Nat.le_refl _⟩ ?_ ?_
 ·rintro i ⟨⟩ x w7 hx ⟨⟨s, acc, hal, Z7, O7⟩, Y7, X7, s7⟩ b o cap hve hrx hlt again
  rw [hve] at again ⊢
  have hxm := List.mem_of_getElem? hx
  obtain ⟨ds, cs, rfl⟩ := isSl_slice (isSl_own O7)
  refine g1 (cs := x.cells) fun B5 w8 E8 G8 Z8 => ?_
  have s8 := E8.size
  have l8 := Z8.lt
  have Zr : Row w8 B5 3 x.ex.cells := Z8.sub [.string x.kind, .int .i64 x.kindNo, .int .i64 x.think] [] rfl
  have X8 : Ext w w8 := X7.trans E8
  refine g ?_
  refine gc (resolve_ok 40 x.ex (hF.e x hxm) (by decide) p.offices _ N w8 (by omega) (hH.o.up X8) ((hH.re x hxm).up X8)) ?_
  rintro _ w9 ⟨⟨ek, en, eno, es, ed, ea, ec, rfl⟩, E9⟩
  have s9 := E9.size
  have V8 := Z8.up E9
  refine g ?_
  refine RunL.store Tryz.tOk rfl rfl rfl rfl rfl V8 rfl rfl fun w10 t10 => ?_
  have Z10 : Blk w10 B5 [.string x.kind, .int .i64 (i : Int), .int .i64 x.think, .int .i64 x.ex.kind, .int .i64 x.ex.n, .int .i64 x.ex.no, .string x.ex.name, .slice x.ex.u x.ex.l.length x.ex.c] 121 := t10.at_
  have T10 : ExtB (fun k => k = B5) w9 w10 := t10.ext
  refine g ?_
  refine RunL.store Tryz.tOk rfl rfl rfl rfl rfl Z10 rfl rfl fun w11 t11 => ?_
  have Z11 : Blk w11 B5 (Ru.cells ⟨x.kind, i, x.think, exOf ek en eno es ed ea ec⟩) 121 := by
   have h : Ru.cells ⟨x.kind, i, x.think, exOf ek en eno es ed ea ec⟩ = [.string x.kind, .int .i64 (i : Int), .int .i64 x.think, .int .i64 ek, .int .i64 en, .int .i64 eno, .string es, .slice ed ea ec] := by
    show [Value.string x.kind, .int .i64 (i : Int), .int .i64 x.think] ++ (exOf ek en eno es ed ea ec).cells = _
    rw [exOf_cells]; rfl
   rw [h]; exact t11.at_
  have T11 : ExtB (fun k => k = B5) w10 w11 := t11.ext
  have EA : Ext w7 w11 := ((E8.trans E9).write T10 (by intro k hk hlt; have hk : k = B5 := hk; omega)).write T11 (by intro k hk hlt; have hk : k = B5 := hk; omega)
  clear t10 t11 T10 T11 Z10 V8 Z8 Zr
  have V2 := Z7.up EA
  have sA := EA.size
  generalize hru : (⟨x.kind, i, x.think, exOf ek en eno es ed ea ec⟩ : Ru) = ru at Z11
  refine g ?_
  refine ap1 encRu ru O7 EA (by omega) (by omega) rfl rfl rfl rfl rfl rfl rfl rfl rfl rfl (fun _ => rfl) rfl (fun _ => rfl) fun q1 y' w12 O12 E12 _ => ?_
  have hne : ∀ k, (Value.slice ds acc.length cs).ownBlock = some k → w5.heap.size ≤ k := fun k hk => ownsRow_ge O7 hk
  have E12' : ExtB (fun k => w5.heap.size ≤ k) w7 w12 := E12.mono fun k _ hk => hne k hk
  have V12 := Z7.ext E12' (by omega)
  have Y12 := Y7.ext E12' (by omega)
  have X12 : Ext w w12 := X7.write E12' (by intro k hk hlt; have hk : w5.heap.size ≤ k := hk; have := X5.size; omega)
  have s12 := E12.size
  obtain ⟨dy, cy, rfl⟩ := isSl_slice (isSl_own O12)
  refine g ?_
  refine RunL.store Tryz.tOk rfl rfl rfl rfl rfl V12 rfl rfl fun w13 t13 => ?_
  have T13 : ExtB (fun k => k = B2) w12 w13 := t13.ext
  refine g ?_
  exact RunE.weaken sb_ (again () w13 ⟨⟨_, acc ++ [ru], by simp [hal], t13.at_, by
   rw [flat_append, flat_one, List.length_append]
   exact ownsRow_ext O12 T13 (fun k hk h => by have := ownsRow_ge O12 hk; have h : k = B2 := h; omega)⟩, Y12.ext T13 (by omega), X12.write T13 (by intro k hk hlt; have hk : k = B2 := hk; omega), by have := T13.size; omega⟩)
 ·rintro ⟨⟩ w7 ⟨⟨s, acc, hal, Z7, O7⟩, Y7, X7, s7⟩
  obtain ⟨ds, cs, rfl⟩ := isSl_slice (isSl_own O7)
  have Zr : Row w7 B1 4 p.change.cells := Y7.sub [.string p.name, .slice p.ku p.kinds.length p.kc, .slice p.ou p.offices.length p.oc, .slice p.ru p.rules.length p.rc] [.int .i64 p.mode] rfl
  refine g ?_
  refine gc (resolve_ok 40 p.change hF.c (by decide) p.offices _ N w7 (by omega) (hH.o.up X7) (hH.ch.up X7)) ?_
  rintro _ w8 ⟨⟨ek, en, eno, es, ed, ea, ec, rfl⟩, E8⟩
  have V7 := Z7.up E8
  refine g ?_
  refine RunL.store Tryz.tOk rfl rfl rfl rfl rfl V7 rfl rfl fun w9 t9 => ?_
  have Z9 : Blk w9 B2 [.string p.name, .slice p.ku p.kinds.length p.kc, .slice p.ou p.offices.length p.oc, .slice ds acc.length cs, .int .i64 ek, .int .i64 en, .int .i64 eno, .string es, .slice ed ea ec, .int .i64 p.mode] 80 := t9.at_
  have X9 : Ext w w9 := (X7.trans E8).write t9.ext (by intro k hk hlt; have hk : k = B2 := hk; omega)
  clear t9
  refine g ?_
  refine RunL.storeW (vs := [.string p.name, .slice p.ku p.kinds.length p.kc, .slice p.ou p.offices.length p.oc, .slice ds acc.length cs, .int .i64 ek, .int .i64 en, .int .i64 eno, .string es, .slice ed ea ec, .int .i64 p.mode]) Tryz.tOk rfl rfl rfl rfl rfl Z9 rfl rfl fun w10 t10 => ?_
  have Z10 : Blk w10 B2 [.string p.name, .slice p.ku p.kinds.length p.kc, .slice p.ou p.offices.length p.oc, .slice ds acc.length cs, .int .i64 ek, .int .i64 en, .int .i64 eno, .string es, .slice ed ea ec, .int .i64 p.mode] 80 := t10.at_
  refine g ?_
  exact RunE.retFn hf_ (.cell rfl (Loads.agg Tryz.tOk rfl rfl rfl Z10.row) (.tmp rfl .nil)) ⟨⟨_, 0, rfl, he⟩, X9.write t10.ext (by intro k hk hlt; have hk : k = B2 := hk; omega)⟩
theorem pcheck_ok (p : Po) (N : Nat) (w : World) (hF : FewP p) (hH : HoldP w N p) (hN : N ≤ w.heap.size) (hK : Row w 0 0 kindsC) :
  Rets Tryz.prog 57 [poV p] w fun r w' => (∃ e : Int, r = .int .i64 e ∧ ((e = 0) ↔ checkP p = true)) ∧ Ext w w' := by
 unfold checkP
 refine en Tryz.func57 40 fun hf_ => ?_
 refine g1 (cs := p.cells) fun B1 w1 E1 G1 Z1 => ?_
 have s1 := E1.size
 have hFo := hF.o
 have hFr := hF.r
 refine gc (Resolve_ok p N w1 hF (hH.up E1) (by omega) (hK.up E1)) ?_
 rintro _ w2 ⟨⟨q, e, rfl, he⟩, E2⟩
 by_cases h0 : e = 0
 case neg =>
  refine rt ?_
  refine ⟨⟨e, rfl, ?_⟩, xt⟩
  have : okP p = false := by cases h : okP p; rfl; exact absurd (he.2 h) h0
  rw [this]; simp [h0]
 subst h0
 rw [he.1 rfl, Bool.true_and]
 have X2 : Ext w w2 := E1.trans E2
 have s2 := E2.size
 refine g ?_
 refine rangeL (hH.r.up X2) encRu 14 15 16 (fun _ : Unit => [(1, .pointer (some ⟨B1, 0, none⟩))]) (fun i _ w' => (List.range i).all (ruOk p) = true ∧ Ext w2 w') () sb_ ⟨rfl, ExtB.refl _ _⟩ ?_ ?_
 ·rintro i ⟨⟩ x w4 hx ⟨ha, X4⟩ b o cap hve hrx hlt again
  rw [hve] at again ⊢
  have hxm := List.mem_of_getElem? hx
  have s4 := X4.size
  have hru : ruOk p i = (decide (x.kindNo = (i : Int)) && resB p.offices x.ex) := by unfold ruOk; rw [hx]
  refine g1 (cs := x.cells) fun B5 w8 E8 G8 Z8 => ?_
  have s8 := E8.size
  have Zr : Row w8 B5 3 x.ex.cells := Z8.sub [.string x.kind, .int .i64 x.kindNo, .int .i64 x.think] [] rfl
  have X8 : Ext w w8 := X2.trans (X4.trans E8)
  by_cases hk : x.kindNo = (i : Int)
  ·rw [decide_eq_true hk, Bool.true_and] at hru
   refine g ?_
   refine gc (resolved_ok p.offices _ x.ex N w8 (by omega) (hH.o.up X8) (hF.e x hxm) ((hH.re x hxm).up X8) (by omega)) ?_
   rintro _ w9 ⟨rfl, E9⟩
   cases hrs : resB p.offices x.ex with
   | true =>
    rw [hrs] at hru
    refine g ?_
    exact RunE.weaken sb_ (again () w9 ⟨range_all ha hru, X4.trans (E8.trans E9)⟩)
   | false =>
    rw [hrs] at hru
    rw [range_bad hlt hru]
    refine rt ?_
    exact ⟨⟨200, rfl, by simp⟩, xt⟩
  ·rw [decide_eq_false hk, Bool.false_and] at hru
   rw [range_bad hlt hru]
   refine rt ?_
   exact ⟨⟨200, rfl, by simp⟩, xt⟩
 ·rintro ⟨⟩ w4 ⟨ha, X4⟩
  rw [ha, Bool.true_and]
  have s4 := X4.size
  have Y4 := Z1.up (E2.trans X4)
  have Zr : Row w4 B1 4 p.change.cells := Y4.sub [.string p.name, .slice p.ku p.kinds.length p.kc, .slice p.ou p.offices.length p.oc, .slice p.ru p.rules.length p.rc] [.int .i64 p.mode] rfl
  have X5 : Ext w w4 := X2.trans X4
  refine g ?_
  refine gc (resolved_ok p.offices _ p.change N w4 (by omega) (hH.o.up X5) hF.c (hH.ch.up X5) (by omega)) ?_
  rintro _ w9 ⟨rfl, E9⟩
  cases hrs : resB p.offices p.change with
  | true =>
   refine rt ?_
   exact ⟨⟨0, rfl, by simp⟩, xt⟩
  | false =>
   refine rt ?_
   exact ⟨⟨200, rfl, by simp⟩, xt⟩
end Go.Sg
end
section
set_option maxRecDepth 4000
namespace Go.Pol
open Go.Rn Go.Rec Go.Und
def timeB (t : Int) : Bool := decide (0 ≤ t ∧ t ≤ 1099511627775)
def goodV : Int → List Vs → Bool
 | _, [] => true
 | last, x :: r => decide (last + 1 ≤ x.no ∧ x.no ≤ 1048576) && (timeB x.at_ && (timeB x.known && (checkP x.pol && goodV x.no r)))
def ckAll (l : List Vs) : Bool := decide (l.length ≤ 256) && goodV (-1) l
abbrev stdV (t kn : Int) (l : List Vs) : Option Vs := standV Vs.at_ Vs.known t kn l
structure HoldVs (w : World) (N : Nat) (l : List Vs) : Prop where
 few : ∀ x ∈ l, FewP x.pol
 hold : ∀ x ∈ l, HoldP w N x.pol
 n : N ≤ w.heap.size
theorem HoldVs.up {w w' : World} {N : Nat} {l : List Vs} (h : HoldVs w N l) (e : Ext w w') : HoldVs w' N l := ⟨h.few, fun x hx => (h.hold x hx).up e, Nat.le_trans h.n e.size⟩
end Go.Pol
namespace Go.Sg
open Go.Rn Go.Proofs Go.Rec Go.RowKit Go.Pol Go.Und
attribute [local irreducible] Go.Rn.RetsX Go.Rn.RunLN Go.Rn.AsyN Go.Rn.RunL Go.Rn.RunE Go.Rn.Asy Go.Rn.OpV Go.Rn.OpE Go.Rn.ExecE
theorem ckall_ok (l : List Vs) (v : Value) (N : Nat) (w : World) (hl : l.length ≤ 100000) (hv : IsL w Vs.cells 13 v l) (hH : HoldVs w N l) (hK : Row w 0 0 kindsC) :
  Rets Tryz.prog 24 [v] w fun r w' => (∃ e : Int, r = .int .i64 e ∧ ((e = 0) ↔ ckAll l = true)) ∧ Ext w w' := by
 obtain ⟨d, cp, rfl⟩ := isSl_slice hv
 unfold ckAll
 refine en Tryz.func24 42 fun hf_ => ?_
 by_cases h256 : l.length ≤ 256
 case neg =>
  rw [decide_eq_false h256, Bool.false_and]
  refine rt ?_
  exact ⟨⟨2, rfl, by simp⟩, xt⟩
 rw [decide_eq_true h256, Bool.true_and]
 refine g ?_
 refine rangeL hv encVs 9 10 11 (fun last : Int => [(0, .slice d l.length cp), (3, .int .i64 last)]) (fun i last w' => (goodV (-1) l = goodV last (l.drop i) ∧ -1 ≤ last ∧ last ≤ 1048576) ∧ Ext w w') (-1) sb_ ⟨⟨rfl, by decide, by decide⟩, ExtB.refl _ _⟩ ?_ ?_
 ·rintro i last x w4 hx ⟨⟨hg, hl1, hl2⟩, X4⟩ b o cap hve hrx hlt again
  cases hve
  have hd : l.drop i = x :: l.drop (i + 1) := by
   obtain ⟨hi, e⟩ := List.getElem?_eq_some_iff.1 hx
   rw [List.drop_eq_getElem_cons hi, e]
  rw [hd] at hg
  simp only [goodV] at hg
  have hxm := List.mem_of_getElem? hx
  refine g1 (cs := x.cells) fun B5 w5 E5 G5 Z5 => ?_
  have bad : goodV (-1) l = false → ∀ w', Ext w w' → ((∃ e : Int, Value.int .i64 200 = .int .i64 e ∧ ((e = 0) ↔ goodV (-1) l = true)) ∧ Ext w w') := fun h w' e => ⟨⟨200, rfl, by rw [h]; simp⟩, e⟩
  by_cases q1 : last + 1 ≤ x.no ∧ x.no ≤ 1048576
  case neg =>
   rw [decide_eq_false q1, Bool.false_and] at hg
   refine rt ?_
   exact bad hg _ xt
  rw [decide_eq_true q1, Bool.true_and] at hg
  by_cases q2 : 0 ≤ x.at_ ∧ x.at_ ≤ 1099511627775
  case neg =>
   rw [show timeB x.at_ = false from decide_eq_false q2, Bool.false_and] at hg
   refine rt ?_
   exact bad hg _ xt
  rw [show timeB x.at_ = true from decide_eq_true q2, Bool.true_and] at hg
  by_cases q3 : 0 ≤ x.known ∧ x.known ≤ 1099511627775
  case neg =>
   rw [show timeB x.known = false from decide_eq_false q3, Bool.false_and] at hg
   refine rt ?_
   exact bad hg _ xt
  rw [show timeB x.known = true from decide_eq_true q3, Bool.true_and] at hg
  have Zr : Row w5 B5 3 x.pol.cells := Z5.sub [.int .i64 x.no, .int .i64 x.at_, .int .i64 x.known] [] rfl
  have X5 : Ext w w5 := X4.trans E5
  refine gc (pcheck_ok x.pol N w5 (hH.few x hxm) ((hH.hold x hxm).up X5) (by have := hH.n; have := X5.size; omega) (hK.up X5)) ?_
  rintro _ w6 ⟨⟨e, rfl, he⟩, E6⟩
  by_cases h0 : e = 0
  ·rw [he.1 h0, Bool.true_and] at hg
   refine g ?_
   exact RunE.weaken sb_ (again x.no w6 ⟨⟨hg, by omega, by omega⟩, X5.trans E6⟩)
  ·have hb : checkP x.pol = false := by cases h : checkP x.pol; rfl; exact absurd (he.2 h) h0
   rw [hb, Bool.false_and] at hg
   refine rt ?_
   exact bad hg _ xt
 ·rintro last w4 ⟨⟨hg, -, -⟩, X4⟩
  rw [List.drop_length] at hg
  refine rt ?_
  exact ⟨⟨0, rfl, by rw [hg]; simp [goodV]⟩, X4⟩
def sNo : Option Vs → Int | none => 0 | some x => x.no
def sAt : Option Vs → Int | none => 0 | some x => x.at_
theorem pstand_ok (l : List Vs) (v : Value) (t kn : Int) (N : Nat) (w : World) (hl : l.length ≤ 100000) (hv : IsL w Vs.cells 13 v l) (hH : HoldVs w N l) (hK : Row w 0 0 kindsC) (hc : ckAll l = true) (ht : 0 ≤ t ∧ t ≤ 1099511627775) (hkn : 0 ≤ kn ∧ kn ≤ 1099511627775) :
  Rets Tryz.prog 7 [v, .int .i64 t, .int .i64 kn] w fun r w' => r = .tuple #[.int .i64 (sNo (stdV t kn l)), .bool (stdV t kn l).isSome, .int .i64 0] ∧ Ext w w' := by
 obtain ⟨d, cp, rfl⟩ := isSl_slice hv
 refine en Tryz.func7 58 fun hf_ => ?_
 refine gc (ckall_ok l _ N w hl hv hH hK) ?_
 rintro _ w1 ⟨⟨e, rfl, he⟩, E1⟩
 have h0 := he.2 hc
 subst h0
 refine g ?_
 refine rangeL hv encVs 25 26 27 (fun s : Option Vs => [(0, .slice d l.length cp), (1, .int .i64 t), (2, .int .i64 kn), (6, .int .i64 (sNo s)), (7, .bool s.isSome), (8, .int .i64 0), (9, .int .i64 (sAt s))])
  (fun i s w' => s = stdV t kn (l.take i) ∧ Ext w w') none sb_ ⟨rfl, E1⟩ ?_ ?_
 ·rintro i s x w4 hx ⟨hs, X4⟩ b o cap hve hrx hlt again
  cases hve
  have hstep : stdV t kn (l.take (i + 1)) = standStep Vs.at_ Vs.known t kn s x := by
   unfold stdV standV at hs ⊢
   rw [List.take_add_one, hx, List.foldl_append, ← hs]; rfl
  refine g1 (cs := x.cells) fun B5 w5 E5 G5 Z5 => ?_
  by_cases q1 : x.at_ ≤ t
  case neg =>
   have nx := again s w5 ⟨by rw [hstep]; unfold standStep; rw [if_neg (fun h => q1 h.1)], X4.trans E5⟩
   refine g ?_
   exact RunE.weaken sb_ nx
  by_cases q2 : x.known ≤ kn
  case neg =>
   have nx := again s w5 ⟨by rw [hstep]; unfold standStep; rw [if_neg (fun h => q2 h.2)], X4.trans E5⟩
   refine g ?_
   exact RunE.weaken sb_ nx
  cases s with
  | none =>
   have nx := fun w6 (e : Ext w5 w6) => again (some x) w6 ⟨by rw [hstep]; unfold standStep; rw [if_pos ⟨q1, q2⟩], X4.trans (E5.trans e)⟩
   refine gx fun w6 E6 => ?_
   exact RunE.weaken sb_ (nx w6 E6)
  | some y =>
   by_cases q3 : y.at_ ≤ x.at_
   ·have nx := fun w6 (e : Ext w5 w6) => again (some x) w6 ⟨by rw [hstep]; unfold standStep; rw [if_pos ⟨q1, q2⟩]; simp only; rw [if_pos q3], X4.trans (E5.trans e)⟩
    simp only [sNo, sAt, Option.isSome_some]
    refine gx fun w6 E6 => ?_
    exact RunE.weaken sb_ (nx w6 E6)
   ·have nx := again (some y) w5 ⟨by rw [hstep]; unfold standStep; rw [if_pos ⟨q1, q2⟩]; simp only; rw [if_neg q3], X4.trans E5⟩
    simp only [sNo, sAt, Option.isSome_some] at nx ⊢
    refine g ?_
    exact RunE.weaken sb_ nx
 ·rintro s w4 ⟨hs, X4⟩
  rw [List.take_length] at hs
  subst hs
  refine rt ?_
  exact ⟨rfl, X4⟩
end Go.Sg
end
