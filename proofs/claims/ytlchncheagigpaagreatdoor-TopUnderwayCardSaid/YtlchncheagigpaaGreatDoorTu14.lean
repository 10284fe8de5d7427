/- Parts of this project: SortN, UndK, SrtN, UndA, UndT, UndB, UndC, UndD. -/
import Derived.Test.YtlchncheagigpaaGreatDoorTu02
import Derived.Shelf.SortM.Plain
import Derived.Shelf.SortM.SortNone
import Derived.Test.YtlchncheagigpaaGreatDoorTu12
import Derived.Test.YtlchncheagigpaaGreatDoorTu03
import Derived.Test.YtlchncheagigpaaGreatDoorTu04
import Derived.Test.YtlchncheagigpaaGreatDoorTu11
import Derived.Test.YtlchncheagigpaaGreatDoorTu09
set_option maxHeartbeats 32000000
set_option linter.unusedSimpArgs false
set_option linter.unusedVariables false
set_option linter.unusedSectionVars false
section
set_option maxRecDepth 4000
namespace Go.Proofs
open Go.Shelf Go.RowKit Go.Lib Go.Sort
def Tryz.srtI_ren : Go.Shelf.Ren := ⟨fun | 5 => 28 | 8 => 65 | 7 => 64 | 19 => 104 | 20 => 105 | 10 => 95 | 11 => 96 | 12 => 97 | 13 => 98 | 14 => 99 | 15 => 100 | 16 => 101 | 17 => 102 | 18 => 103 | 30 => 147 | 31 => 148 | 32 => 149 | 33 => 150 | 34 => 151 | 35 => 152 | 40 => 183 | n => n, fun | 23 => 31 | 25 => 3 | 3 => 3 | 32 => 129 | 22 => 31 | 0 => 0 | 44 => 192 | 46 => 194 | 4 => 4 | 36 => 184 | 35 => 183 | 41 => 189 | 5 => 5 | 9 => 9 | 53 => 229 | 57 => 233 | 63 => 273 | 64 => 99 | n => n, fun | n => n⟩
theorem Tryz.srtI : Go.Proofs.SlLaysM.n5 Tryz.prog Tryz.srtI_ren where
 mixed := by kernel_rfl
 f5 := ⟨Tryz.f28.name, by kernel_rfl, Tryz.func28.trans (congrArg some (by kernel_rfl))⟩
 f7 := ⟨Tryz.f64.name, by kernel_rfl, Tryz.func64.trans (congrArg some (by kernel_rfl))⟩
 f8 := Tryz.func65.trans (congrArg some (by kernel_rfl))
 f10 := ⟨Tryz.f95.name, by kernel_rfl, Tryz.func95.trans (congrArg some (by kernel_rfl))⟩
 f11 := ⟨Tryz.f96.name, by kernel_rfl, Tryz.func96.trans (congrArg some (by kernel_rfl))⟩
 f12 := ⟨Tryz.f97.name, by kernel_rfl, Tryz.func97.trans (congrArg some (by kernel_rfl))⟩
 f13 := ⟨Tryz.f98.name, by kernel_rfl, Tryz.func98.trans (congrArg some (by kernel_rfl))⟩
 f14 := ⟨Tryz.f99.name, by kernel_rfl, Tryz.func99.trans (congrArg some (by kernel_rfl))⟩
 f15 := ⟨Tryz.f100.name, by kernel_rfl, Tryz.func100.trans (congrArg some (by kernel_rfl))⟩
 f16 := ⟨Tryz.f101.name, by kernel_rfl, Tryz.func101.trans (congrArg some (by kernel_rfl))⟩
 f17 := ⟨Tryz.f102.name, by kernel_rfl, Tryz.func102.trans (congrArg some (by kernel_rfl))⟩
 f18 := ⟨Tryz.f103.name, by kernel_rfl, Tryz.func103.trans (congrArg some (by kernel_rfl))⟩
 f19 := Tryz.func104.trans (congrArg some (by kernel_rfl))
 f20 := Tryz.func105.trans (congrArg some (by kernel_rfl))
 f30 := ⟨Tryz.f147.name, by kernel_rfl, Tryz.func147.trans (congrArg some (by kernel_rfl))⟩
 f31 := Tryz.func148.trans (congrArg some (by kernel_rfl))
 f32 := Tryz.func149.trans (congrArg some (by kernel_rfl))
 f33 := ⟨Tryz.f150.name, by kernel_rfl, Tryz.func150.trans (congrArg some (by kernel_rfl))⟩
 f34 := ⟨Tryz.f151.name, by kernel_rfl, Tryz.func151.trans (congrArg some (by kernel_rfl))⟩
 f35 := ⟨Tryz.f152.name, by kernel_rfl, Tryz.func152.trans (congrArg some (by kernel_rfl))⟩
 f40 := ⟨Tryz.f183.name, by kernel_rfl, Tryz.func183.trans (congrArg some (by kernel_rfl))⟩
 t0 := Tryz.underlying0
 a0 := Tryz.isAgg0
 z0 := Tryz.sizeOf0
 v0 := Tryz.zeroValue0
 t3 := Tryz.underlying3
 a3 := Tryz.isAgg3
 z3 := Tryz.sizeOf3
 v3 := Tryz.zeroValue3
 t4 := Tryz.underlying4
 a4 := Tryz.isAgg4
 z4 := Tryz.sizeOf4
 v4 := Tryz.zeroValue4
 t5 := Tryz.underlying5
 a5 := Tryz.isAgg5
 z5 := Tryz.sizeOf5
 v5 := Tryz.zeroValue5
 t9 := Tryz.underlying9
 a9 := Tryz.isAgg9
 z9 := Tryz.sizeOf9
 v9 := Tryz.zeroValue9
 t22 := Tryz.underlying31
 a22 := Tryz.isAgg31
 z22 := Tryz.sizeOf31
 v22 := Tryz.zeroValue31
 t23 := Tryz.underlying31
 a23 := Tryz.isAgg31
 z23 := Tryz.sizeOf31
 v23 := Tryz.zeroValue31
 t25 := Tryz.underlying3
 a25 := Tryz.isAgg3
 z25 := Tryz.sizeOf3
 v25 := Tryz.zeroValue3
 t32 := Tryz.underlying129
 a32 := Tryz.isAgg129
 z32 := Tryz.sizeOf129
 v32 := Tryz.zeroValue129
 t35 := Tryz.underlying183
 a35 := Tryz.isAgg183
 z35 := Tryz.sizeOf183
 v35 := Tryz.zeroValue183
 t36 := Tryz.underlying184
 a36 := Tryz.isAgg184
 z36 := Tryz.sizeOf184
 v36 := Tryz.zeroValue184
 t41 := Tryz.underlying189
 a41 := Tryz.isAgg189
 z41 := Tryz.sizeOf189
 v41 := Tryz.zeroValue189
 t44 := Tryz.underlying192
 a44 := Tryz.isAgg192
 z44 := Tryz.sizeOf192
 v44 := Tryz.zeroValue192
 t46 := Tryz.underlying194
 a46 := Tryz.isAgg194
 z46 := Tryz.sizeOf194
 v46 := Tryz.zeroValue194
 t53 := Tryz.underlying229
 a53 := Tryz.isAgg229
 z53 := Tryz.sizeOf229
 v53 := Tryz.zeroValue229
 t57 := Tryz.underlying233
 a57 := Tryz.isAgg233
 z57 := Tryz.sizeOf233
 v57 := Tryz.zeroValue233
 t63 := Tryz.underlying273
 a63 := Tryz.isAgg273
 z63 := Tryz.sizeOf273
 v63 := Tryz.zeroValue273
 t64 := Tryz.underlying99
 a64 := Tryz.isAgg99
 z64 := Tryz.sizeOf99
 v64 := Tryz.zeroValue99
end Go.Proofs
end
section
set_option maxRecDepth 4000
namespace Go.Rn
theorem IterAt.moveX {α : Type} [DecidableEq α] {kv : α → Value} {good : α → Prop} {w w' : World} {it r : Nat} {m ys : List (α × Value)} (h : IterAt kv good w it r m ys) (h1 : w'.heap[it]? = w.heap[it]?) (h2 : w'.heap[r]? = w.heap[r]?) : IterAt kv good w' it r m ys := by
 obtain ⟨es, clock, since, seen, js, a, b, rest⟩ := h
 exact ⟨es, clock, since, seen, js, by rw [h1]; exact a, by rw [h2]; exact b, rest⟩
end Go.Rn
namespace Go.Pol
def zeroEx : Ex := .mk 0 0 0 ⟨#[]⟩ none 0 []
def zeroPo : Po := ⟨⟨#[]⟩, [], none, 0, [], none, 0, [], none, 0, zeroEx, 0⟩
def zeroVs : Vs := ⟨0, 0, 0, zeroPo⟩
end Go.Pol
namespace Go.Sg
open Go.Rn Go.Proofs Go.Rec Go.RowKit Go.Pol Go.Und
attribute [local irreducible] Go.Rn.RetsX Go.Rn.RunLN Go.Rn.AsyN Go.Rn.RunL Go.Rn.RunE Go.Rn.Asy Go.Rn.OpV Go.Rn.OpE Go.Rn.ExecE
abbrev kvU : Int → Value := Value.int .i64
instance mapVs : MapA 124 kvU vsV zeroVs := ⟨⟨_, _, Tryz.underlying124, keyOk_int Tryz.underlying3, by kernel_rfl⟩⟩
abbrev vkeysV (b : Nat) : Value := .func (.func 94) #[] #[.pointer (some ⟨b, 0, none⟩)]
abbrev mapU (m : List (Int × Vs)) : List (Int × Value) := m.map fun x => (x.1, vsV x.2)
theorem vkeys_gives (m : List (Int × Vs)) (R b : Nat) (w0 : World) (hM : MapW w0 R kvU vsV m) (Y : Blk w0 b [.map (some R)] 124) :
  GivesK Tryz.prog (vkeysV b) (fun ys => ys.Perm (m.map (·.1))) (fun s => [.int .i64 s]) w0 (fun k => k = b ∨ k = R) := by
 intro S J y w hS hX hJ0 hJX hJup hy
 refine RetsX.v (fi := []) (args := [y]) (ca := [.pointer (some ⟨b, 0, none⟩)]) ?_
 change RetsX Tryz.prog 94 [y, .pointer (some ⟨b, 0, none⟩)] _ _ _
 refine en Tryz.func94 14 fun hf_ => ?_
 have U := Y.ext hX (hS _ (.inl rfl))
 have hMw := hM.ext hX (hS _ (.inr rfl))
 refine g ?_
 refine RunL.ex rfl rfl rfl (OpE.rangeMap (kv := kvU) (good := fun _ => True) Tryz.underlying124 rfl hMw) ?_
 rintro _ w1 ⟨it, rfl, hit, hsz, e1, hI⟩
 have hJ := hJ0 (· = it) w1 e1 (fun k hk => by omega)
 refine g ?_
 refine RunE.loop (ι := List (Int × Value)) (fun _ => [(0, y), (1, .pointer (some ⟨b, 0, none⟩)), (5, .pointer (some ⟨it, 0, none⟩))])
  (fun ys w' => IterAt kvU (fun _ => True) w' it R (mapU m) ys ∧ J (· = it) (ys.map (·.1)) w') (fun ys => (mapU m).length - ys.length) [] sb_ ⟨hI, hJ⟩ ?_
 clear hI hJ U hMw e1
 rintro ys w3 ⟨hI, hJ⟩ again
 have hmf : (mapU m).map (·.1) = m.map (·.1) := by simp [mapU]
 refine g ?_
 refine RunL.ex rfl rfl rfl (OpE.nextMap rfl hI) ?_
 rintro v w4 (⟨rfl, rfl, hp⟩ | ⟨⟨s, a⟩, rfl, -, hI4, e4, hsz4⟩)
 ·refine g ?_
  refine RunE.fallFn hf_ .nil ?_
  exact ⟨(· = it), _, by rw [← hmf]; exact hp.map _, hJ⟩
 ·have hJ4 := hJup _ _ _ _ hJ e4
  obtain ⟨zs, hzs⟩ := hI4.sub
  have hlen := hzs.length_eq
  simp only [List.length_append, List.length_singleton] at hlen
  have hperm : (ys.map (·.1) ++ s :: zs.map (·.1)).Perm (m.map (·.1)) := by rw [← hmf]; simpa using hzs.map (·.1)
  refine g ?_
  refine RunL.evV rfl rfl rfl (OpV.entryMap rfl hI4) ?_
  refine g ?_
  refine RunL.ex rfl rfl rfl (OpE.callV rfl rfl (hy (· = it) _ s _ _ hperm hJ4)) ?_
  rintro _ w5 ⟨rfl, hJ5, hk5⟩
  have hR : ∀ u, J (· = it) (ys.map (·.1)) u ∨ J (· = it) (ys.map (·.1) ++ [s]) u → u.heap[R]? = w0.heap[R]? := fun u hu => by
   have e : ExtB S w0 u := by
    rcases hu with hu | hu
    ·exact hJX _ _ _ hu
    ·exact hJX _ _ _ hu
   exact e.block R hM.lt (hS _ (.inr rfl))
  have hI5 := hI4.moveX (hk5 it rfl) ((hR _ (.inr hJ5)).trans (hR _ (.inl hJ4)).symm)
  refine g ?_
  refine RunE.weaken sb_ (again (ys ++ [(s, a)]) _ (by simp only [List.length_append, List.length_singleton]; omega) ⟨hI5, by simpa using hJ5⟩)
theorem vkeys_ok (m : List (Int × Vs)) (R : Nat) (w : World) (hM : MapW w R kvU vsV m) :
  Rets Tryz.prog 60 [.map (some R)] w fun r w' => (∃ F : Nat → Prop, GivesK Tryz.prog r (fun ys => ys.Perm (m.map (·.1))) (fun s => [.int .i64 s]) w' F ∧ ∀ k, F k → k < w'.heap.size) ∧ Ext w w' := by
 refine en Tryz.func60 4 fun hf_ => ?_
 refine g1 (cs := [.map (some R)]) fun B1 w1 E1 G1 Z1 => ?_
 refine rt ?_
 refine ⟨⟨_, vkeys_gives m R B1 _ (hM.up E1) Z1, fun k hk => ?_⟩, E1⟩
 rcases hk with rfl | rfl
 ·exact Z1.lt
 ·exact (hM.up E1).lt
theorem iappK_ok (ok : List Int → Prop) (f : Value) (F : Nat → Prop) (w : World) (hG : GivesK Tryz.prog f ok (fun s => [.int .i64 s]) w F) (hF : ∀ k, F k → k < w.heap.size) (hl : ∀ ys, ok ys → ys.length ≤ 100000) :
  Rets Tryz.prog 146 [.slice none 0 0, f] w fun r w' => (∃ ys : List Int, ok ys ∧ w'.ownsRow w.heap.size 3 1 r ys.length (flat intC ys)) ∧ Ext w w' := by
 refine en Tryz.func146 13 fun hf_ => ?_
 refine g1 (cs := [.slice none 0 0]) fun B2 w2_ X G2 Z2 => ?_
 have hl2 := Z2.lt
 refine g ?_
 refine RunE.rangeGivesK (w0 := w) (F := F) rfl ⟨_, hf_⟩ rfl hG (fun k => k = B2) (fun k hk => ?_) (ExtB.of_ext X) (fun _ => rfl) rfl
  (fun G ys w' => (∃ u, Blk w' B2 [u] 31 ∧ w'.ownsRow (w2_.heap.size + 2) 3 1 u ys.length (flat intC ys) ∧ ∀ k, u.ownBlock = some k → ¬ G k) ∧ (∀ k, G k → w2_.heap.size + 2 ≤ k ∧ k < w'.heap.size) ∧ ExtB (fun k => k = B2) w2_ w') ?_ ?_ ?_ ?_ ?_ ?_
 ·have h1 := hF k hk
  have h2 := X.size
  exact ⟨by omega, by omega⟩
 ·intro G w2 e h1; exact ⟨⟨_, Z2.up e, World.ownsRow_nil _ _ _ _, fun k hk => by simp [Value.ownBlock] at hk⟩, h1, ExtB.of_ext e⟩
 ·rintro G ys u ⟨-, -, h⟩; exact h
 ·rintro G ys u ⟨-, h, -⟩ k hk; exact (h k hk).1
 ·rintro G ys u u' ⟨⟨y, h2, ho, hn⟩, h1, e1⟩ e2
  exact ⟨⟨y, h2.ext e2 (fun h => by rcases h with h | h | h; omega; omega; have := h1 _ h; omega), ownsRow_ext ho e2 (fun k hk h => by have := ownsRow_ge ho hk; have := hn k hk; rcases h with h | h | h; omega; omega; exact this h), hn⟩, fun k hk => by have := e2.size; have := h1 k hk; omega, e1.write e2 (by intro k hk hlt; rcases hk with h | h | h; omega; omega; have := h1 _ h; omega)⟩
 ·rintro G ys x zs u lp hx ⟨⟨y, h2, ho, hn⟩, hit, e1⟩ hL hs
  have hlen := hl _ hx
  simp only [List.length_append, List.length_cons] at hlen
  have hLl := lt_of_get hL.l
  obtain ⟨dy, cy, rfl⟩ := isSl_slice (isSl_own ho)
  simp only [parEnv]
  refine g ?_
  refine RunE.beginR hL hs (by omega) fun u3 t3 hL3 => ?_
  have Y2 := h2.ext t3 (by omega)
  have hO := ownsRow_ext ho t3 (fun k hk h => by have := ownsRow_ge ho hk; omega)
  have XB : ExtB (fun k => k = B2) w2_ u3 := e1.write t3 (by intro k hk hlt; omega)
  have sT := t3.size
  have hk3 : ∀ it, G it → u3.heap[it]? = u.heap[it]? := fun it hg => t3.block it (by have := hit it hg; omega) (by have := hit it hg; omega)
  clear h2 ho t3 hL e1
  refine g ?_
  refine ap1 encI x hO (ExtB.refl _ _) (by omega) (by omega) rfl rfl rfl rfl rfl rfl rfl rfl rfl rfl (fun _ => rfl) rfl (fun _ => rfl) fun q1 y' u5 O5 E5 hown => ?_
  obtain ⟨b5, c5, rfl⟩ := isSl_slice (isSl_own O5)
  have hne : ∀ k, (Value.slice dy ys.length cy).ownBlock = some k → w2_.heap.size + 2 ≤ k := fun k hk => ownsRow_ge hO hk
  have hk5 : ∀ it, G it → u5.heap[it]? = u.heap[it]? := fun it hg => (E5.block it (by have := hit it hg; omega) (fun h => hn it h hg)).trans (hk3 it hg)
  have hn5 : ∀ k, (Value.slice b5 (ys.length + 1) c5).ownBlock = some k → ¬ G k := fun k hk e => hn _ (hown _ hk (by have := hit k e; omega)) e
  replace Y2 := Y2.ext E5 (fun h => by have := hne _ h; omega)
  replace hL3 := hL3.ext E5 (fun h => by have := hne _ h; omega) (fun h => by have := hne _ h; omega)
  replace XB : ExtB (fun k => k = B2) w2_ u5 := XB.write E5 (by intro k hk hlt; have := hne k hk; omega)
  have s5 := E5.size
  refine g ?_
  refine RunL.store Tryz.tOk rfl rfl rfl rfl rfl Y2 rfl rfl fun u6 t6 => ?_
  have T6 : ExtB (fun k => k = B2) u5 u6 := t6.ext
  have Y6 : Blk u6 B2 [.slice b5 (ys.length + 1) c5] 31 := t6.at_
  replace hL3 := hL3.ext T6 (by omega) (by omega)
  replace XB : ExtB (fun k => k = B2) w2_ u6 := XB.trans T6
  replace O5 := ownsRow_ext O5 T6 (fun k hk h => by have := ownsRow_ge O5 hk; omega)
  refine g ?_
  refine RunE.endR ⟨⟨⟨_, Y6, ?_, hn5⟩, fun k hk => ⟨(hit k hk).1, by have := T6.size; have := hit k hk; omega⟩, XB⟩, fun it hg => (T6.block it (by have := hit it hg; omega) (by have := hit it hg; omega)).trans (hk5 it hg)⟩ hL3
  rw [List.length_append, flat_append, flat_one]
  exact O5
 ·rintro G ys w' hp ⟨⟨y, h2, ho, hn⟩, hit, e1⟩ hD
  have X8 : Ext w w' := X.write e1 (by intro k hk hlt; omega)
  obtain ⟨dy, cy, rfl⟩ := isSl_slice (isSl_own ho)
  refine g ?_
  refine RunE.retFn1 hf_ hD fun w9 t9 => ?_
  have hX := X.size
  exact ⟨_, .tmp rfl .nil, ⟨ys, hp, ownsRow_base (ownsRow_ext ho t9.ext (fun k hk h => by have := ownsRow_ge ho hk; omega)) (by omega)⟩, X8.write t9.ext (by intro k hk hlt; omega)⟩
theorem icollK_ok (ok : List Int → Prop) (f : Value) (F : Nat → Prop) (w : World) (hG : GivesK Tryz.prog f ok (fun s => [.int .i64 s]) w F) (hF : ∀ k, F k → k < w.heap.size) (hl : ∀ ys, ok ys → ys.length ≤ 100000) :
  Rets Tryz.prog 93 [f] w fun r w' => (∃ ys : List Int, ok ys ∧ w'.ownsRow w.heap.size 3 1 r ys.length (flat intC ys)) ∧ Ext w w' := by
 refine en Tryz.func93 5 fun hf_ => ?_
 refine gc (iappK_ok ok f F w hG hF hl) ?_
 rintro r w1 ⟨h1, h2⟩
 refine rt ?_
 exact ⟨h1, h2⟩
end Go.Sg
end
section
set_option maxRecDepth 4000
namespace Go.Und
def srtI (l : List Int) : List Int := l.mergeSort fun x y => decide (x ≤ y)
theorem srtI_perm (l : List Int) : (srtI l).Perm l := List.mergeSort_perm _ _
theorem srtI_len (l : List Int) : (srtI l).length = l.length := (srtI_perm l).length_eq
theorem srtI_srt (l : List Int) : (srtI l).Pairwise (· ≤ ·) := by
 have := List.pairwise_mergeSort (le := fun x y : Int => decide (x ≤ y)) (fun a b c h1 h2 => by simp at *; omega) (fun a b => by simp; omega) l
 exact this.imp fun h => by simpa using h
theorem srt_uniq : ∀ {a b : List Int}, a.Pairwise (· ≤ ·) → b.Pairwise (· ≤ ·) → a.Perm b → a = b
 | [], b, _, _, h => by have := h.length_eq; exact (List.length_eq_zero_iff.1 (by simpa using this.symm)).symm
 | x :: a, [], _, _, h => by have := h.length_eq; simp at this
 | x :: a, y :: b, ha, hb, h => by
  obtain ⟨h1, h2⟩ := List.pairwise_cons.1 ha
  obtain ⟨h3, h4⟩ := List.pairwise_cons.1 hb
  have hxy : x = y := by
   have e1 : x ∈ y :: b := h.mem_iff.1 List.mem_cons_self
   have e2 : y ∈ x :: a := h.mem_iff.2 List.mem_cons_self
   rcases List.mem_cons.1 e1 with e | e
   ·exact e
   ·rcases List.mem_cons.1 e2 with e' | e'
    ·exact e'.symm
    ·have := h3 x e; have := h1 y e'; omega
  subst hxy
  rw [srt_uniq h2 h4 (List.perm_cons x |>.1 h)]
theorem srtI_of_perm {a b : List Int} (h : a.Perm b) : srtI a = srtI b := srt_uniq (srtI_srt a) (srtI_srt b) (((srtI_perm a).trans h).trans (srtI_perm b).symm)
end Go.Und
namespace Go.Rn
open Go.RowKit Go.Sort Go.Proofs Go.Rec
theorem flatK_int (d : Array Int) {t : Nat} (ht : t < d.size) : (flatK Go.Sg.intC 1 d)[t]! = Value.int .i64 d[t]! := by
 rw [get_flatK Go.Sg.intC 1 d t (by omega), Nat.div_one, Nat.mod_one]; rfl
theorem holds_int {w : World} {g : Nat} {d : Array Int} (h : HoldsK Go.Sg.intC 1 w g 0 d) : Holds (Value.int .i64) w g 0 d := fun j hj => by
 have := h j (by rw [size_flatK]; omega)
 rw [flatK_int d hj] at this
 exact this
theorem holds_int' {w : World} {g : Nat} {d : Array Int} (h : Holds (Value.int .i64) w g 0 d) : HoldsK Go.Sg.intC 1 w g 0 d := fun j hj => by
 rw [size_flatK] at hj
 have := h j (by omega)
 rw [flatK_int d (by omega)]
 exact this
theorem ext_sortI {w : World} {blk off m : Nat} {d : Array Int} {os : Array Obj} : ExtB (· = blk) w (sortWorld (Value.int .i64) w blk off m d os) := by
 unfold sortWorld putRow mapBlock
 refine ⟨?_, rfl, rfl, rfl, ?_, fun i hi hn => ?_⟩
 ·show w.drawn ≤ w.drawn + m; omega
 ·show w.heap.size ≤ (w.heap.modify _ _ ++ os).size
  simp
 ·rw [get_grow (by simpa [Sort.ahead] using hi)]
  simp only [Sort.ahead]
  rw [Array.getElem?_modify, if_neg (fun h => hn h.symm)]
end Go.Rn
namespace Go.Sg
open Go.Rn Go.Proofs Go.Rec Go.Sort Go.RowKit Go.Und
theorem srt_ok (l : List Int) (v : Value) (base : Nat) (w : World) (hl : l.length ≤ 100000) (hO : w.ownsRow base 3 1 v l.length (flat intC l)) :
  Rets Tryz.prog 28 [v] w fun _ w' => IsL w' intC 1 v (srtI l) ∧ ExtB (fun k => base ≤ k) w w' := by
 have body : Body Tryz.prog 28 := ⟨_, Tryz.func28, by kernel_rfl, by kernel_rfl⟩
 by_cases h0 : l.length = 0
 ·obtain rfl := List.length_eq_zero_iff.1 h0
  have hIs : IsL w intC 1 v [] := isSl_own hO
  obtain ⟨d, c, rfl⟩ := isSl_slice hIs
  refine ⟨body, (AnyM.slices_Sort_int_none Tryz.srtI d c w).mono ?_⟩
  rintro e w' ⟨rfl, rfl⟩
  exact ⟨by rw [show srtI [] = [] from List.length_eq_zero_iff.1 (srtI_len [])]; exact hIs, ExtB.refl _ _⟩
 ·rcases hO.2 with ⟨-, h0'⟩ | ⟨b, cap, cur, rfl, hbg, hb, hnc, hcm, hcs, htake⟩
  ·exact absurd h0' h0
  have hbl : b < w.heap.size := lt_of_get hb
  have hH : Holds (Value.int .i64) w b 0 l.toArray := holds_int (holds_of encI (base := base) (n := l.length) (cap := cap) (e := 3) hO (by simp))
  refine ⟨body, (AnyM.slices_Sort_int Tryz.srtI b 0 cap l w hH hbl (by omega)).mono ?_⟩
  rintro e w' ⟨rfl, n, os, rfl⟩
  have S : SW (Value.int .i64) w b 0 (l.mergeSort fun x y => decide (x ≤ y)).toArray (grow (putRow (Value.int .i64) (Sort.ahead w n) b 0 (l.mergeSort fun x y => decide (x ≤ y)).toArray) os) := ⟨n, os, rfl⟩
  have hlen := srtI_len l
  have hH' := holds_int' (S.holds hbl hH (by simp))
  refine ⟨?_, (ext_sortI (w := w) (blk := b) (off := 0) (m := n) (d := (l.mergeSort fun x y => decide (x ≤ y)).toArray) (os := os)).mono fun k _ h => by subst h; exact hbg⟩
  have := isL_holds (cap := cap) encI hH' (by simp; omega)
  simpa [srtI] using this
theorem sorted_ok (m : List (Int × Go.Pol.Vs)) (R : Nat) (w : World) (hm : m.length ≤ 100000) (hM : MapW w R kvU Go.Pol.vsV m) (f : Value) (F : Nat → Prop) (hG : GivesK Tryz.prog f (fun ys => ys.Perm (m.map (·.1))) (fun s => [.int .i64 s]) w F) (hF : ∀ k, F k → k < w.heap.size) :
  Rets Tryz.prog 59 [f] w fun r w' => (IsL w' intC 1 r (srtI (m.map (·.1))) ∧ ∀ k, r.ownBlock = some k → w.heap.size ≤ k) ∧ Ext w w' := by
 refine en Tryz.func59 9 fun hf_ => ?_
 refine gc (icollK_ok _ f F w hG hF (fun ys h => by have := h.length_eq; rw [List.length_map] at this; omega)) ?_
 rintro r w1 ⟨⟨ys, hp, hO⟩, E1⟩
 have hyl : ys.length ≤ 100000 := by have := hp.length_eq; rw [List.length_map] at this; omega
 have hs := srt_ok ys r w.heap.size w1 hyl hO
 rw [srtI_of_perm hp] at hs
 obtain ⟨d, c, rfl⟩ := isSl_slice (isSl_own hO)
 refine gc hs ?_
 rintro _ w2 ⟨h2, E2⟩
 refine rt ?_
 exact ⟨⟨h2, fun k hk => ownsRow_ge hO hk⟩, E1.write E2 (by intro k hk hlt; have hk : w.heap.size ≤ k := hk; omega)⟩
end Go.Sg
end
section
set_option maxRecDepth 4000
namespace Go.Rn
open Go.RowKit
theorem MapW.same {α β : Type} [DecidableEq α] {kv : α → Value} {ev : β → Value} {w w' : World} {R : Nat} {m : List (α × β)} (h : MapW w R kv ev m) (e : w'.heap[R]? = w.heap[R]?) : MapW w' R kv ev m := by
 obtain ⟨es, c, h1, h2⟩ := h
 exact ⟨es, c, by rw [e]; exact h1, h2⟩
theorem row_same {w w' : World} {b o : Nat} {cs : List Value} (h : Row w b o cs) (e : w'.heap[b]? = w.heap[b]?) : Row w' b o cs := fun i v hv => by
 have := h i v hv
 unfold World.cell? at this ⊢
 simp only at this ⊢
 rw [e]; exact this
end Go.Rn
namespace Go.Pol
open Go.Rn Go.Und
def mapF (from_ kn : Int) (l : List Vs) : List (Int × Vs) := (forceV Vs.at_ Vs.known from_ kn l).1
def ksF (from_ kn : Int) (l : List Vs) : List Int := srtI ((mapF from_ kn l).map (·.1))
def pairF (m : List (Int × Vs)) (k : Int) : List Value := [.int .i64 k, vsV ((getM k m).getD zeroVs)]
abbrev forceVv (b1 b2 b3 : Nat) : Value := .func (.func 58) #[] #[.pointer (some ⟨b1, 0, none⟩), .pointer (some ⟨b2, 0, none⟩), .pointer (some ⟨b3, 0, none⟩)]
theorem setM_len {α β : Type} [DecidableEq α] (k : α) (v : β) : ∀ m : List (α × β), (setM k v m).length ≤ m.length + 1
 | [] => by simp [setM]
 | x :: m => by
  unfold setM
  split
  ·simp
  ·have := setM_len k v m; simp only [List.length_cons]; omega
end Go.Pol
namespace Go.Sg
open Go.Rn Go.Proofs Go.Rec Go.RowKit Go.Pol Go.Und
attribute [local irreducible] Go.Rn.RetsX Go.Rn.RunLN Go.Rn.AsyN Go.Rn.RunL Go.Rn.RunE Go.Rn.Asy Go.Rn.OpV Go.Rn.OpE Go.Rn.ExecE
theorem force_len (from_ kn : Int) : ∀ (l : List Vs) (s : List (Int × Vs) × Int), (l.foldl (forceStep Vs.at_ Vs.known from_ kn) s).1.length ≤ s.1.length + l.length
 | [], s => by simp
 | x :: l, s => by
  rw [List.foldl_cons]
  refine Nat.le_trans (force_len from_ kn l _) ?_
  have : (forceStep Vs.at_ Vs.known from_ kn s x).1.length ≤ s.1.length + 1 := by
   unfold forceStep
   split
   ·omega
   ·split
    ·split
     ·omega
     ·exact setM_len _ _ _
    ·exact setM_len _ _ _
  simp only [List.length_cons]; omega
theorem force_gives (from_ kn : Int) (l : List Vs) (v : Value) (b1 b2 b3 : Nat) (w0 : World) (hl : l.length ≤ 1000) (hv : IsL w0 Vs.cells 13 v l)
  (Y1 : Blk w0 b1 [v] 26) (Y2 : Blk w0 b2 [.int .i64 kn] 3) (Y3 : Blk w0 b3 [.int .i64 from_] 3) :
  GivesB Tryz.prog (forceVv b1 b2 b3) ((ksF from_ kn l).map (pairF (mapF from_ kn l))) w0 (fun k => k = b1 ∨ k = b2 ∨ k = b3 ∨ (l ≠ [] ∧ v.ownBlock = some k)) := by
 intro S J Z y w hS hX hJ0 hJX hJup hZup hy
 refine RetsX.v (fi := []) (args := [y]) (ca := [.pointer (some ⟨b1, 0, none⟩), .pointer (some ⟨b2, 0, none⟩), .pointer (some ⟨b3, 0, none⟩)]) ?_
 change RetsX Tryz.prog 58 [y, .pointer (some ⟨b1, 0, none⟩), .pointer (some ⟨b2, 0, none⟩), .pointer (some ⟨b3, 0, none⟩)] _ _ _
 have U1 := Y1.ext hX (hS _ (.inl rfl))
 have U2 := Y2.ext hX (hS _ (.inr (.inl rfl)))
 have U3 := Y3.ext hX (hS _ (.inr (.inr (.inl rfl))))
 have hvw := isL_ext hv hX fun hne k hk hSk => hS k (.inr (.inr (.inr ⟨hne, hk⟩))) hSk
 obtain ⟨d, cp, rfl⟩ := isSl_slice hv
 have l1 := U1.lt
 have l2 := U2.lt
 have l3 := U3.lt
 refine en Tryz.func58 53 fun hf_ => ?_
 refine g ?_
 refine RunL.ex rfl rfl rfl (mm kvU vsV) ?_
 rintro _ w1 ⟨R, rfl, gR, E1, M1⟩
 have lR := M1.lt
 have s1 := E1.size
 refine g ?_
 refine rangeL hvw encVs 13 14 15 (fun s : List (Int × Vs) × Int => [(0, y), (1, .pointer (some ⟨b1, 0, none⟩)), (2, .pointer (some ⟨b2, 0, none⟩)), (3, .pointer (some ⟨b3, 0, none⟩)), (5, .map (some R)), (6, .int .i64 s.2)])
  (fun i s w' => s = (l.take i).foldl (forceStep Vs.at_ Vs.known from_ kn) ([], -1) ∧ MapW w' R kvU vsV s.1 ∧ ExtB (fun k => k = R) w1 w') ([], -1) sb_ ⟨rfl, M1, ExtB.refl _ _⟩ ?_ ?_
 ·rintro i ⟨m, bg⟩ x w3 hx ⟨hs, hM, hE⟩ b o cap hve hrx hlt again
  cases hve
  have hstep : (l.take (i + 1)).foldl (forceStep Vs.at_ Vs.known from_ kn) ([], -1) = forceStep Vs.at_ Vs.known from_ kn (m, bg) x := by
   rw [List.take_add_one, hx, List.foldl_append, ← hs]; rfl
  simp only at hM again ⊢
  have hb : b < w.heap.size := isL_own hvw (by decide) (by intro h; rw [h] at hlt; simp at hlt) rfl
  have V1 := (U1.up E1).ext hE (by omega)
  have V2 := (U2.up E1).ext hE (by omega)
  have V3 := (U3.up E1).ext hE (by omega)
  have hrx3 : Row w3 b (o + i * 13) x.cells := (hrx.up E1).ext hE (by omega)
  refine g1 (cs := x.cells) fun B8 w4 E4 G8 Z8 => ?_
  have same : ∀ s', s' = forceStep Vs.at_ Vs.known from_ kn (m, bg) x → s' = (m, bg) → _ := fun s' h1 h2 => again (m, bg) w4 ⟨by rw [hstep, ← h1]; exact h2.symm, hM.up E4, hE.trans (ExtB.of_ext E4)⟩
  by_cases c1 : kn < x.known
  ·have nx := same _ rfl (by unfold forceStep; rw [if_pos c1])
   refine g ?_
   exact RunE.weaken sb_ nx
  by_cases c2 : x.at_ ≤ from_
  ·by_cases c3 : x.at_ < bg
   ·have nx := same _ rfl (by unfold forceStep; rw [if_neg c1, if_pos c2, if_pos c3])
    refine g ?_
    exact RunE.weaken sb_ nx
   ·have hst : forceStep Vs.at_ Vs.known from_ kn (m, bg) x = (setM from_ x m, x.at_) := by unfold forceStep; rw [if_neg c1, if_pos c2, if_neg c3]
    refine gx fun w5 E5 => ?_
    refine RunL.exN rfl rfl (ms rfl rfl rfl hM (E4.trans E5) inferInstance inferInstance (u := x) rfl) ?_
    rintro _ w6 ⟨M6, E6, -⟩
    refine g ?_
    exact RunE.weaken sb_ (again (setM from_ x m, x.at_) w6 ⟨by rw [hstep, hst], M6, (hE.trans (ExtB.of_ext (E4.trans E5))).trans E6⟩)
  ·have hst : forceStep Vs.at_ Vs.known from_ kn (m, bg) x = (setM x.at_ x m, bg) := by unfold forceStep; rw [if_neg c1, if_neg c2]
   refine g ?_
   refine RunL.exN rfl rfl (ms rfl rfl rfl hM E4 inferInstance inferInstance (u := x) rfl) ?_
   rintro _ w6 ⟨M6, E6, -⟩
   refine g ?_
   exact RunE.weaken sb_ (again (setM x.at_ x m, bg) w6 ⟨by rw [hstep, hst], M6, (hE.trans (ExtB.of_ext E4)).trans E6⟩)
 ·rintro ⟨m, bg⟩ w3 ⟨hs, hM, hE⟩
  rw [List.take_length] at hs
  simp only at hM ⊢
  have hmF : mapF from_ kn l = m := by unfold mapF forceV; rw [← hs]
  unfold ksF at hy ⊢
  rw [hmF] at hy ⊢
  have hml : m.length ≤ 1000 := by have := force_len from_ kn l ([], -1); rw [← hs] at this; simp at this; omega
  have X3 : Ext w w3 := E1.write hE (by intro k hk hlt; have hk : k = R := hk; omega)
  have s3 := hE.size
  refine g ?_
  refine gc (vkeys_ok m R w3 hM) ?_
  rintro fv w4 ⟨⟨F, hG, hF⟩, E4⟩
  refine gc (sorted_ok m R w4 (by omega) (hM.up E4) fv F hG hF) ?_
  rintro kv w5 ⟨⟨hk, hkb⟩, E5⟩
  have hkl : (srtI (m.map (·.1))).length ≤ 1000 := by rw [srtI_len, List.length_map]; exact hml
  generalize srtI (m.map (·.1)) = ks at hk hy hkl ⊢
  obtain ⟨dk, ck, rfl⟩ := isSl_slice hk
  have M5 := hM.up (E4.trans E5)
  have X5 : Ext w w5 := X3.trans (E4.trans E5)
  have s5 := (E4.trans E5).size
  have s34 := E4.size
  have hJ := hJ0 (fun k => k = R ∨ (ks ≠ [] ∧ (Value.slice dk ks.length ck).ownBlock = some k)) w5 X5 (fun k hk' => by
   rcases hk' with rfl | ⟨h2, h3⟩
   ·exact ⟨gR, by omega⟩
   ·exact ⟨by have := hkb k h3; have := X3.size; omega, isL_own hk (by decide) h2 h3⟩)
  obtain ⟨G, hGd⟩ : ∃ G : Nat → Prop, G = fun k => k = R ∨ (ks ≠ [] ∧ (Value.slice dk ks.length ck).ownBlock = some k) := ⟨_, rfl⟩
  rw [← hGd] at hJ
  have hGR : G R := by rw [hGd]; exact .inl rfl
  have hGk : ∀ b, ks ≠ [] → (Value.slice dk ks.length ck).ownBlock = some b → G b := fun b h1 h2 => by rw [hGd]; exact .inr ⟨h1, h2⟩
  clear hGd
  refine g ?_
  refine RunE.loop (ι := Nat) (fun i => [(0, y), (5, .map (some R)), (39, .slice dk ks.length ck), (40, .int .i64 (ks.length : Int)), (41, .int .i64 (i : Int))])
   (fun i w' => i ≤ ks.length ∧ J G i w' ∧ MapW w' R kvU vsV m ∧ IsL w' intC 1 (.slice dk ks.length ck) ks) (fun i => ks.length - i) 0 sb_ ⟨Nat.zero_le _, hJ, M5, hk⟩ ?_
  clear hJ M5 hk
  rintro i w6 ⟨hi, hJ, M6, hk⟩ again
  by_cases hlt : i < ks.length
  ·obtain ⟨kk, hkk⟩ : ∃ kk, ks[i]? = some kk := ⟨_, List.getElem?_eq_getElem hlt⟩
   have hne : ks ≠ [] := by intro h; rw [h] at hlt; simp at hlt
   obtain ⟨b, o, cap, hve, hr, hcp⟩ := isL_held hk hlt
   have hrx := flat_row encI hr hkk
   have hGb := hGk b hne (by rw [hve]; rfl)
   have hx : ((ks.map (pairF m))[i]?) = some (pairF m kk) := by rw [List.getElem?_map, hkk]; rfl
   rw [hve] at again ⊢
   refine g ?_
   refine RunL.ex rfl rfl rfl (OpE.callV rfl rfl (hy G i (pairF m kk) w6 hx hJ)) ?_
   rintro r w7 ⟨hr7, hk7⟩
   rcases hr7 with ⟨rfl, hJ7⟩ | ⟨rfl, hZ⟩
   ·refine g ?_
    refine RunE.weaken sb_ (again (i + 1) w7 (by omega) ⟨hlt, hJ7, M6.same (hk7 R hGR), ?_⟩)
    exact .row (row_same hr (hk7 b hGb)) (flat_length encI ks) hcp
   ·refine rt ?_
    exact .inr hZ
  ·obtain rfl : i = ks.length := by omega
   refine g ?_
   refine RunE.fallFn hf_ .nil ?_
   rw [List.length_map]
   exact .inl ⟨G, hJ⟩
theorem uforce_ok (from_ kn : Int) (l : List Vs) (v : Value) (w : World) (hl : l.length ≤ 1000) (hv : IsL w Vs.cells 13 v l) :
  Rets Tryz.prog 26 [v, .int .i64 from_, .int .i64 kn] w fun r w' => (∃ F : Nat → Prop, GivesB Tryz.prog r ((ksF from_ kn l).map (pairF (mapF from_ kn l))) w' F ∧ (∀ k, F k → k < w'.heap.size ∧ (w.heap.size ≤ k ∨ (l ≠ [] ∧ v.ownBlock = some k)))) ∧ Ext w w' := by
 obtain ⟨d, cp, rfl⟩ := isSl_slice hv
 refine en Tryz.func26 8 fun hf_ => ?_
 refine g1 (cs := [.slice d l.length cp]) fun B1 w1 E1 G1 Z1 => ?_
 refine g1 (cs := [.int .i64 from_]) fun B2 w2 E2 G2 Z2 => ?_
 refine g1 (cs := [.int .i64 kn]) fun B3 w3 E3 G3 Z3 => ?_
 refine rt ?_
 have s1 := E1.size
 have s2 := E2.size
 have X : Ext w w3 := xt
 have Z13 : Blk w3 B1 [.slice d l.length cp] 26 := Z1.up xt
 have Z23 : Blk w3 B2 [.int .i64 from_] 3 := Z2.up xt
 have l1 := Z13.lt
 have l2 := Z23.lt
 have l3 := Z3.lt
 refine ⟨⟨_, force_gives from_ kn l _ B1 B3 B2 w3 hl (hv.up X) Z13 Z3 Z23, fun k hk => ?_⟩, X⟩
 rcases hk with rfl | rfl | rfl | h
 ·exact ⟨l1, .inl G1⟩
 ·exact ⟨l3, .inl (by omega)⟩
 ·exact ⟨l2, .inl (by omega)⟩
 ·exact ⟨isL_own (hv.up X) (by decide) h.1 h.2, .inr h⟩
end Go.Sg
end
section
set_option maxRecDepth 4000
namespace Go.Pol
open Go.Rn Go.Und
theorem setM_keys {β : Type} (k : Int) (v : β) : ∀ m : List (Int × β), (m.map (·.1)).Nodup → ((setM k v m).map (·.1)).Nodup ∧ ∀ j, j ∈ (setM k v m).map (·.1) ↔ j = k ∨ j ∈ m.map (·.1)
 | [], _ => by simp [setM]
 | (a, b) :: m, h => by
  simp only [List.map_cons, List.nodup_cons] at h
  obtain ⟨h1, h2⟩ := setM_keys k v m h.2
  unfold setM
  by_cases hk : k = a
  ·subst hk
   simp only [if_true, List.map_cons]
   exact ⟨List.nodup_cons.2 h, fun j => by simp⟩
  ·simp only [hk, if_false, List.map_cons]
   refine ⟨List.nodup_cons.2 ⟨fun hm => ?_, h1⟩, fun j => ?_⟩
   ·rcases (h2 a).1 hm with h3 | h3
    ·exact hk h3.symm
    ·exact h.1 h3
   ·rw [List.mem_cons, h2 j, List.mem_cons]
    constructor
    ·rintro (h | h | h)
     ·exact .inr (.inl h)
     ·exact .inl h
     ·exact .inr (.inr h)
    ·rintro (h | h | h)
     ·exact .inr (.inl h)
     ·exact .inl h
     ·exact .inr (.inr h)
theorem getM_keys {β : Type} (k : Int) : ∀ m : List (Int × β), k ∈ m.map (·.1) ↔ (getM k m).isSome = true
 | [] => by simp [getM]
 | (a, b) :: m => by
  unfold getM
  by_cases h : k = a
  ·simp [h]
  ·simp only [h, if_false, List.map_cons, List.mem_cons]
   rw [← getM_keys k m]
   constructor
   ·rintro (h' | h')
    ·exact h'.elim
    ·exact h'
   ·exact .inr
theorem mapF_nodup (from_ kn : Int) (l : List Vs) : ((mapF from_ kn l).map (·.1)).Nodup := by
 unfold mapF forceV
 have key : ∀ (l : List Vs) (s : List (Int × Vs) × Int), (s.1.map (·.1)).Nodup → ((l.foldl (forceStep Vs.at_ Vs.known from_ kn) s).1.map (·.1)).Nodup := by
  intro l
  induction l with
  | nil => intro s h; exact h
  | cons x l ih =>
   intro s h
   rw [List.foldl_cons]
   refine ih _ ?_
   unfold forceStep
   split
   ·exact h
   ·split
    ·split
     ·exact h
     ·exact (setM_keys _ _ _ h).1
    ·exact (setM_keys _ _ _ h).1
 exact key l _ (by simp)
theorem keysF (from_ kn : Int) (l : List Vs) : Keys (mapF from_ kn l) (ksF from_ kn l) := by
 have hp := srtI_perm ((mapF from_ kn l).map (·.1))
 refine ⟨?_, fun k => ?_⟩
 ·have h1 := srtI_srt ((mapF from_ kn l).map (·.1))
  have h2 : (srtI ((mapF from_ kn l).map (·.1))).Nodup := hp.nodup_iff.2 (mapF_nodup from_ kn l)
  exact (h1.and h2).imp fun h => by have := h.1; have := h.2; omega
 ·rw [← getM_keys]; exact hp.mem_iff
def metF (begun t kn : Int) (l : List Vs) : List Vs := metV (mapF begun kn l) (ksF begun kn l) t
def oldF (begun t kn : Int) (l : List Vs) : Bool := (ksF begun kn l).any fun k => decide (k ≤ t) && decide (k = begun)
def judP (mode : Int) (met : List Vs) (old : Bool) : List Vs := if mode = 1 then (if old then met.take 1 else []) else if mode = 2 then met.drop (met.length - 1) else met
def modeF (met : List Vs) : Int := match met.getLast? with | some x => x.pol.mode | none => 0
def nosF (begun t kn : Int) (l : List Vs) : List Int := srtI ((judP (modeF (metF begun t kn l)) (metF begun t kn l) (oldF begun t kn l)).map Vs.no)
theorem met_take {m : List (Int × Vs)} {ks : List Int} {t : Int} (hK : Keys m ks) (i : Nat) (hi : i ≤ ks.length) (h1 : ∀ j k, j < i → ks[j]? = some k → k ≤ t) (h2 : ∀ k, ks[i]? = some k → t < k) :
  metV m ks t = (ks.take i).map (fun k => (getM k m).getD zeroVs) ∧ ks.filter (fun k => decide (k ≤ t)) = ks.take i := by
 have hf : ks.filter (fun k => decide (k ≤ t)) = ks.take i := by
  conv => lhs; rw [← List.take_append_drop i ks]
  rw [List.filter_append]
  have e1 : (ks.take i).filter (fun k => decide (k ≤ t)) = ks.take i := by
   rw [List.filter_eq_self]
   intro k hk
   obtain ⟨j, hj⟩ := List.getElem?_of_mem hk
   rw [List.getElem?_take] at hj
   split at hj
   ·rename_i hji; simpa using h1 j k hji hj
   ·cases hj
  have e2 : (ks.drop i).filter (fun k => decide (k ≤ t)) = [] := by
   rw [List.filter_eq_nil_iff]
   intro k hk
   simp only [decide_eq_true_eq]
   intro hkt
   obtain ⟨j, hj⟩ := List.getElem?_of_mem hk
   rw [List.getElem?_drop] at hj
   obtain ⟨hjl, hje⟩ := List.getElem?_eq_some_iff.1 hj
   have hil : i < ks.length := by omega
   have h3 := h2 ks[i] (List.getElem?_eq_getElem hil)
   rcases Nat.eq_zero_or_pos j with rfl | hpos
   ·simp only [Nat.add_zero] at hje; rw [hje] at h3; omega
   ·have := List.pairwise_iff_getElem.1 hK.srt i (i + j) hil hjl (by omega)
    rw [hje] at this; omega
  rw [e1, e2, List.append_nil]
 refine ⟨?_, hf⟩
 unfold metV
 rw [hf]
 have key : ∀ l : List Int, (∀ k ∈ l, (getM k m).isSome = true) → (l.filterMap fun k => getM k m) = l.map fun k => (getM k m).getD zeroVs := by
  intro l
  induction l with
  | nil => intro _; rfl
  | cons k l ih =>
   intro h
   obtain ⟨x, hx⟩ := Option.isSome_iff_exists.1 (h k List.mem_cons_self)
   rw [List.filterMap_cons, hx, List.map_cons, hx, ih fun k hk => h k (List.mem_cons_of_mem _ hk)]; rfl
 exact key _ fun k hk => (hK.mem k).1 (List.mem_of_mem_take hk)
end Go.Pol
end
section
set_option maxRecDepth 4000
namespace Go.Pol
open Go.Rn Go.Rec Go.RowKit
abbrev jmap : List (Int × Value) := [(1, fnV 62), (2, fnV 63), (3, fnV 61), (4, fnV 61)]
theorem isL_take {α : Type} {enc : α → List Value} {k : Nat} (he : EncOk enc k) {w : World} {b o c : Nat} {l : List α} (hr : Row w b o (flat enc l)) (n : Nat) (hn : n ≤ l.length) (hc : l.length ≤ c) : IsL w enc k (.slice (some ⟨b, o, none⟩) n c) (l.take n) := by
 have e : flat enc l = flat enc (l.take n) ++ flat enc (l.drop n) := by rw [← flat_append, List.take_append_drop]
 have hln : (l.take n).length = n := by rw [List.length_take]; omega
 unfold IsL
 rw [hln]
 refine .row (fun i v hv => hr i v ?_) (by rw [flat_length he, hln]) (by omega)
 rw [e, List.getElem?_append_left (List.getElem?_eq_some_iff.1 hv).1]; exact hv
theorem isL_drop {α : Type} {enc : α → List Value} {k : Nat} (he : EncOk enc k) {w : World} {b o c : Nat} {l : List α} (hr : Row w b o (flat enc l)) (n : Nat) (hn : n ≤ l.length) (hc : l.length - n ≤ c) : IsL w enc k (.slice (some ⟨b, o + n * k, none⟩) (l.length - n) c) (l.drop n) := by
 have e : flat enc l = flat enc (l.take n) ++ flat enc (l.drop n) := by rw [← flat_append, List.take_append_drop]
 have hln : (flat enc (l.take n)).length = n * k := by rw [flat_length he, List.length_take, Nat.min_eq_left hn]
 unfold IsL
 rw [List.length_drop]
 refine .row (hr.window (k := n * k) fun i v hv => ?_) (by rw [flat_length he, List.length_drop]) hc
 rw [e, List.getElem?_append_right (by omega), hln, Nat.add_sub_cancel_left]; exact hv
end Go.Pol
namespace Go.Sg
open Go.Rn Go.Proofs Go.Rec Go.RowKit Go.Pol Go.Und
attribute [local irreducible] Go.Rn.RetsX Go.Rn.RunLN Go.Rn.AsyN Go.Rn.RunL Go.Rn.RunE Go.Rn.Asy Go.Rn.OpV Go.Rn.OpE Go.Rn.ExecE
instance mapJd : MapA 85 kvU (fun v : Value => v) .nilFunc := ⟨⟨_, _, Tryz.underlying85, keyOk_int Tryz.underlying3, by kernel_rfl⟩⟩
theorem judges_ok (w : World) : Rets Tryz.prog 27 [] w fun r w' => (∃ R, r = .map (some R) ∧ w.heap.size ≤ R ∧ MapW w' R kvU (fun v : Value => v) jmap) ∧ Ext w w' := by
 refine en Tryz.func27 6 fun hf_ => ?_
 refine g ?_
 refine RunL.ex rfl rfl rfl (mm kvU (fun v : Value => v)) ?_
 rintro _ w1 ⟨R, rfl, gR, E1, M1⟩
 refine RunL.exN rfl rfl (mi rfl rfl rfl M1 (ExtB.refl _ _) inferInstance inferInstance (u := fnV 62) rfl) ?_
 rintro _ w2 ⟨M2, E2, -⟩
 refine RunL.exN rfl rfl (mi rfl rfl rfl M2 (ExtB.refl _ _) inferInstance inferInstance (u := fnV 63) rfl) ?_
 rintro _ w3 ⟨M3, E3, -⟩
 refine g ?_
 refine RunL.exN rfl rfl (mi rfl rfl rfl M3 (ExtB.refl _ _) inferInstance inferInstance (u := fnV 61) rfl) ?_
 rintro _ w4 ⟨M4, E4, -⟩
 refine g ?_
 refine RunL.exN rfl rfl (mi rfl rfl rfl M4 (ExtB.refl _ _) inferInstance inferInstance (u := fnV 61) rfl) ?_
 rintro _ w5 ⟨M5, E5, -⟩
 refine rt ?_
 have hR : ∀ k, (fun k => k = R) k → k < w.heap.size → False := fun k hk hlt => by have hk : k = R := hk; omega
 exact ⟨⟨R, rfl, gR, M5⟩, (((E1.write E2 fun k hk hlt => (hR k hk hlt).elim).write E3 fun k hk hlt => (hR k hk hlt).elim).write E4 fun k hk hlt => (hR k hk hlt).elim).write E5 fun k hk hlt => (hR k hk hlt).elim⟩
theorem jall_ok (v : Value) (old : Bool) (met : List Vs) (w : World) (hv : IsL w Vs.cells 13 v met) : Rets Tryz.prog 61 [v, .bool old] w fun r w' => IsL w' Vs.cells 13 r met ∧ w = w' := by
 obtain ⟨d, c, rfl⟩ := isSl_slice hv
 refine en Tryz.func61 6 fun hf_ => ?_
 refine rt ?_
 exact ⟨hv, rfl⟩
theorem jold_ok (v : Value) (old : Bool) (met : List Vs) (w : World) (h0 : 0 < met.length) (hv : IsL w Vs.cells 13 v met) : Rets Tryz.prog 62 [v, .bool old] w fun r w' => IsL w' Vs.cells 13 r (if old then met.take 1 else []) ∧ w = w' := by
 obtain ⟨b, o, cap, rfl, hr, hcp⟩ := isL_held hv h0
 refine en Tryz.func62 9 fun hf_ => ?_
 cases old with
 | false =>
  refine rt ?_
  exact ⟨IsSl.nil, rfl⟩
 | true =>
  refine g ?_
  refine RunL.val rfl rfl rfl (OpV.sliceSq (lo := 0) (hi := 1) (q := o) (len := 1) (cap := cap) Tryz.tOk rfl rfl .none (.some rfl rfl) (Nat.zero_le _) (by omega) (offOf_zero _ _ _) rfl rfl) ?_
  refine rt ?_
  exact ⟨isL_take encVs hr 1 h0 hcp, rfl⟩
theorem jnew_ok (v : Value) (old : Bool) (met : List Vs) (w : World) (h0 : 0 < met.length) (hl : met.length ≤ 100000) (hv : IsL w Vs.cells 13 v met) : Rets Tryz.prog 63 [v, .bool old] w fun r w' => IsL w' Vs.cells 13 r (met.drop (met.length - 1)) ∧ w = w' := by
 obtain ⟨b, o, cap, rfl, hr, hcp⟩ := isL_held hv h0
 refine en Tryz.func63 10 fun hf_ => ?_
 refine g ?_
 refine RunL.val rfl rfl rfl (OpV.sliceSq (lo := met.length - 1) (hi := met.length) (q := o + (met.length - 1) * 13) (len := met.length - (met.length - 1)) (cap := cap - (met.length - 1)) Tryz.tOk rfl rfl (.some rfl (by omega)) .none (by omega) hcp (by unfold offOf; rw [if_neg (by omega)]) rfl rfl) ?_
 refine rt ?_
 exact ⟨isL_drop encVs hr (met.length - 1) (by omega) (by omega), rfl⟩
end Go.Sg
end
section
set_option maxRecDepth 4000
namespace Go.Pol
open Go.Rn Go.Und
theorem goodV_mem : ∀ {l : List Vs} {last : Int}, goodV last l = true → ∀ x ∈ l, checkP x.pol = true ∧ (0 ≤ x.at_ ∧ x.at_ ≤ 1099511627775) ∧ (0 ≤ x.known ∧ x.known ≤ 1099511627775) ∧ last < x.no ∧ x.no ≤ 1048576
 | [], _, _, x, hx => by cases hx
 | y :: l, last, h, x, hx => by
  simp only [goodV, Bool.and_eq_true, timeB, decide_eq_true_eq] at h
  obtain ⟨h1, h2, h3, h4, h5⟩ := h
  rcases List.mem_cons.1 hx with rfl | hx
  ·exact ⟨h4, h2, h3, by omega, h1.2⟩
  ·have := goodV_mem h5 x hx
   exact ⟨this.1, this.2.1, this.2.2.1, by omega, this.2.2.2.2⟩
theorem checkP_mode {p : Po} (h : checkP p = true) : 1 ≤ p.mode ∧ p.mode ≤ 4 := by
 unfold checkP okP formB form1 at h
 simp only [Bool.and_eq_true, decide_eq_true_eq] at h
 exact h.1.2.2.1.2.2
theorem ckAll_in {l : List Vs} (h : ckAll l = true) : l.length ≤ 256 ∧ goodV (-1) l = true := by
 unfold ckAll at h
 simpa using h
theorem metF_inv {l : List Vs} (hc : ckAll l = true) (begun kn : Int) : Inv (at_ := Vs.at_) (known := Vs.known) begun kn l (mapF begun kn l) (forceV Vs.at_ Vs.known begun kn l).2 :=
 inv_all begun kn l fun x hx => (goodV_mem (ckAll_in hc).2 x hx).2.1.1
theorem modeF_ok {l : List Vs} (hc : ckAll l = true) {begun t kn : Int} (h : metF begun t kn l ≠ []) : ∃ x r, metF begun t kn l = r ++ [x] ∧ x ∈ l ∧ modeF (metF begun t kn l) = x.pol.mode ∧ 1 ≤ x.pol.mode ∧ x.pol.mode ≤ 4 := by
 obtain ⟨r, x, hrx⟩ : ∃ r x, metF begun t kn l = r ++ [x] := ⟨_, _, (List.dropLast_concat_getLast h).symm⟩
 have hm : x ∈ l := met_mem (metF_inv hc begun kn) (t := t) (ks := ksF begun kn l) (by
  have : x ∈ metF begun t kn l := by rw [hrx]; simp
  exact this)
 have := checkP_mode (goodV_mem (ckAll_in hc).2 x hm).1
 refine ⟨x, r, hrx, hm, ?_, this.1, this.2⟩
 unfold modeF; rw [hrx]; simp
theorem ksF_len (begun kn : Int) (l : List Vs) : (ksF begun kn l).length ≤ l.length := by
 unfold ksF mapF forceV
 rw [srtI_len, List.length_map]
 have := Go.Sg.force_len begun kn l ([], -1)
 simpa using this
theorem metF_len (begun t kn : Int) (l : List Vs) : (metF begun t kn l).length ≤ l.length := by
 unfold metF metV
 exact Nat.le_trans (List.length_filterMap_le _ _) (Nat.le_trans (List.length_filter_le _ _) (ksF_len begun kn l))
end Go.Pol
namespace Go.Sg
open Go.Rn Go.Proofs Go.Rec Go.RowKit Go.Pol Go.Und
attribute [local irreducible] Go.Rn.RetsX Go.Rn.RunLN Go.Rn.AsyN Go.Rn.RunL Go.Rn.RunE Go.Rn.Asy Go.Rn.OpV Go.Rn.OpE Go.Rn.ExecE
instance iUndC_1 (n : Int) : Pf 25 [.int .i64 n] (.bool (decide (0 ≤ n ∧ n < 1099511627776))) := ⟨fun w => by
 refine en Tryz.func25 9 fun hf_ => ?_
 repeat' (first | refine gn (fun h_ => ?_) (fun h_ => ?_) | fail)
 all_goals
  refine rt ?_
  exact ⟨congrArg Value.bool clB, rfl⟩⟩
theorem Judges_ok (l : List Vs) (v : Value) (begun t kn : Int) (N : Nat) (w : World) (hl : l.length ≤ 1000) (hv : IsL w Vs.cells 13 v l) (hH : HoldVs w N l) (hK : Row w 0 0 kindsC) (hc : ckAll l = true) (hb : 0 ≤ begun ∧ begun ≤ 1099511627775) (ht : 0 ≤ t ∧ t ≤ 1099511627775) (hkn : 0 ≤ kn ∧ kn ≤ 1099511627775) (hle : begun ≤ t) :
  Rets Tryz.prog 6 [v, .int .i64 begun, .int .i64 t, .int .i64 kn] w fun r w' => (∃ q, r = .tuple #[q, .int .i64 (modeF (metF begun t kn l)), .int .i64 0] ∧ IsL w' intC 1 q (nosF begun t kn l) ∧ ∀ k, q.ownBlock = some k → w.heap.size ≤ k) ∧ Ext w w' := by
 obtain ⟨d, cp, rfl⟩ := isSl_slice hv
 refine en Tryz.func6 91 fun hf_ => ?_
 refine g1 (cs := [.int .i64 begun]) fun B5 w1 E1 G5 Z5 => ?_
 refine g1 (cs := [.int .i64 t]) fun B6 w2 E2 G6 Z6 => ?_
 refine gc (ckall_ok l _ N w2 (by omega) (hv.up xt) (hH.up xt) (hK.up xt)) ?_
 rintro _ w3 ⟨⟨e, rfl, he⟩, E3⟩
 have h0 := he.2 hc
 subst h0
 have Z53 : Blk w3 B5 [.int .i64 begun] 3 := Z5.up xt
 have Z63 : Blk w3 B6 [.int .i64 t] 3 := Z6.up xt
 have X3 : Ext w w3 := xt
 have hvo : ∀ k, l ≠ [] → (Value.slice d l.length cp).ownBlock = some k → k < w.heap.size := fun k h1 h2 => isL_own hv (by decide) h1 h2
 refine g ?_
 refine RunL.alloc Tryz.tOk rfl rfl rfl fun B11 w4 a11 => ?_
 have E4 := a11.ext
 have n11 := a11.eq
 have Z11 : Blk w4 B11 [.slice none 0 0] 26 := a11.at_
 clear a11
 refine g1 (cs := [.bool false]) fun B12 w5 E5 G12 Z12 => ?_
 have l11 := Z11.lt
 have l12 := Z12.lt
 have s1 := E1.size
 have s2 := E2.size
 have s3 := E3.size
 have s4 := E4.size
 have s5 := E5.size
 refine g ?_
 refine gc (uforce_ok begun kn l _ w5 hl (hv.up (X3.trans (E4.trans E5)))) ?_
 rintro fv w6 ⟨⟨F, hG, hF⟩, E6⟩
 have s6 := E6.size
 have X6 : Ext w w6 := X3.trans (E4.trans (E5.trans E6))
 have Z56 := Z53.up (E4.trans (E5.trans E6))
 have Z66 := Z63.up (E4.trans (E5.trans E6))
 have Z116 := Z11.up (E5.trans E6)
 have Z126 := Z12.up E6
 have l5 := Z5.lt
 have l6 := Z6.lt
 have hKeys := keysF begun kn l
 have hksl := ksF_len begun kn l
 have hmet : metF begun t kn l = metV (mapF begun kn l) (ksF begun kn l) t := rfl
 have hold : oldF begun t kn l = (ksF begun kn l).any fun k => decide (k ≤ t) && decide (k = begun) := rfl
 have hfin : ∀ w' : World, (∃ s, Blk w' B11 [s] 26 ∧ w'.ownsRow (w6.heap.size + 2) 82 13 s (metF begun t kn l).length (flat Vs.cells (metF begun t kn l))) → True := fun _ _ => trivial
 clear hfin
 refine g ?_
 refine RunE.rangeGivesB (w0 := w6) (F := F) rfl ⟨_, hf_⟩ rfl hG (fun k => k = B11 ∨ k = B12) (fun k hk => ?_) (ExtB.refl _ _) (fun ys hx => ?_) rfl
  (fun G i w' => (∃ s, Blk w' B11 [s] 26 ∧ w'.ownsRow (w6.heap.size + 2) 82 13 s (((ksF begun kn l).take i).map fun k => (getM k (mapF begun kn l)).getD zeroVs).length (flat Vs.cells (((ksF begun kn l).take i).map fun k => (getM k (mapF begun kn l)).getD zeroVs)) ∧ ∀ k, s.ownBlock = some k → ¬ G k) ∧ Blk w' B12 [.bool (((ksF begun kn l).take i).any fun k => decide (k = begun))] 4 ∧ (∀ k, G k → w6.heap.size + 2 ≤ k ∧ k < w'.heap.size) ∧ (∀ j k, j < i → (ksF begun kn l)[j]? = some k → k ≤ t) ∧ ExtB (fun k => k = B11 ∨ k = B12) w6 w' ∧ w6.heap.size + 2 ≤ w'.heap.size)
  (fun w' => (∃ s, Blk w' B11 [s] 26 ∧ w'.ownsRow (w6.heap.size + 2) 82 13 s (metF begun t kn l).length (flat Vs.cells (metF begun t kn l))) ∧ Blk w' B12 [.bool (oldF begun t kn l)] 4 ∧ ExtB (fun k => k = B11 ∨ k = B12) w6 w' ∧ w6.heap.size + 2 ≤ w'.heap.size) ?_ ?_ ?_ ?_ ?_ ?_ ?_ ?_
 ·obtain ⟨h1, h2⟩ := hF k hk
  refine ⟨fun h => ?_, h1⟩
  rcases h2 with h2 | ⟨h2, h3⟩
  ·rcases h with h | h <;> omega
  ·have := hvo k h2 h3
   have := X3.size
   rcases h with h | h <;> omega
 ·obtain ⟨a, -, rfl⟩ := List.mem_map.1 hx; rfl
 ·intro G w' E hsz hG'
  exact ⟨⟨_, Z116.up E, World.ownsRow_nil _ _ _ _, fun k hk => by simp [Value.ownBlock] at hk⟩, Z126.up E, hG', fun j k hj => by omega, ExtB.of_ext E, hsz⟩
 ·rintro G i u h; exact h.2.2.2.2.1
 ·rintro G i u h k hk; exact (h.2.2.1 k hk).1
 ·rintro G i u u' ⟨⟨s, h1, ho, hn⟩, h2, h3, h4, h5, h6⟩ E
  have sE := E.size
  exact ⟨⟨s, h1.ext E (by omega), ownsRow_ext ho E (fun k hk h => by have := ownsRow_ge ho hk; omega), hn⟩, h2.ext E (by omega), fun k hk => by have := h3 k hk; omega, h4, h5.write E (by intro k hk hlt; omega), by omega⟩
 ·rintro u u' ⟨⟨s, h1, ho⟩, h2, h5, h6⟩ E
  have sE := E.size
  exact ⟨⟨s, h1.ext E (by omega), ownsRow_ext ho E (fun k hk h => by have := ownsRow_ge ho hk; omega)⟩, h2.ext E (by omega), h5.write E (by intro k hk hlt; omega), by omega⟩
 ·rintro G i ys u lp hx ⟨⟨s, h1, ho, hn⟩, h2, h3, h4, h5, h6⟩ hL hs
  obtain ⟨kk, hkk, rfl⟩ : ∃ kk, (ksF begun kn l)[i]? = some kk ∧ ys = pairF (mapF begun kn l) kk := by
   simp only [List.getElem?_map, Option.map_eq_some_iff] at hx
   obtain ⟨a, h, rfl⟩ := hx; exact ⟨a, h, rfl⟩
  have hlk := (List.getElem?_eq_some_iff.1 hkk).1
  obtain ⟨ds, cs, rfl⟩ := isSl_slice (isSl_own ho)
  have htk : ((ksF begun kn l).take (i + 1)).map (fun k => (getM k (mapF begun kn l)).getD zeroVs) = ((ksF begun kn l).take i).map (fun k => (getM k (mapF begun kn l)).getD zeroVs) ++ [(getM kk (mapF begun kn l)).getD zeroVs] := by
   rw [List.take_add_one, hkk, List.map_append]; rfl
  have hany : ((ksF begun kn l).take (i + 1)).any (fun k => decide (k = begun)) = (((ksF begun kn l).take i).any (fun k => decide (k = begun)) || decide (kk = begun)) := by
   rw [List.take_add_one, hkk, List.any_append]; simp
  have hstop : t < kk → metF begun t kn l = ((ksF begun kn l).take i).map (fun k => (getM k (mapF begun kn l)).getD zeroVs) ∧ oldF begun t kn l = ((ksF begun kn l).take i).any fun k => decide (k = begun) := fun hlt => by
   obtain ⟨m1, m2⟩ := met_take hKeys (t := t) i (by omega) h4 (fun k hk => by rw [hkk] at hk; cases hk; exact hlt)
   refine ⟨m1, ?_⟩
   rw [hold, ← m2, List.any_filter]
  have hml : (((ksF begun kn l).take i).map (fun k => (getM k (mapF begun kn l)).getD zeroVs)).length ≤ 1000 := by rw [List.length_map, List.length_take]; omega
  have h4' : ∀ (hkt : kk ≤ t) j k, j < i + 1 → (ksF begun kn l)[j]? = some k → k ≤ t := fun hkt j k hj hjk => by
   rcases Nat.lt_or_ge j i with h | h
   ·exact h4 j k h hjk
   ·obtain rfl : j = i := by omega
    rw [hkk] at hjk; cases hjk; exact hkt
  rw [htk, hany]
  generalize ((ksF begun kn l).take i).map (fun k => (getM k (mapF begun kn l)).getD zeroVs) = acc at h1 ho hn hstop hml ⊢
  generalize ((ksF begun kn l).take i).any (fun k => decide (k = begun)) = ob at h2 hstop ⊢
  have hpf : pairF (mapF begun kn l) kk = [.int .i64 kk, vsV ((getM kk (mapF begun kn l)).getD zeroVs)] := rfl
  rw [hpf]
  generalize (getM kk (mapF begun kn l)).getD zeroVs = x
  clear hx hpf htk hany
  have hLl := lt_of_get hL.l
  simp only [parEnv]
  refine g1 (cs := x.cells) fun B14 u2 XA G14 Z14 => ?_
  refine RunE.beginR (hL.up XA) hs (by omega) fun u3 t3 hL3 => ?_
  have sA := XA.size
  have sT := t3.size
  replace Z14 := Z14.ext t3 (by omega)
  replace h1 := (h1.up XA).ext t3 (by omega)
  replace h2 := (h2.up XA).ext t3 (by omega)
  replace ho := ownsRow_ext (ownsRow_ext ho XA (fun _ _ h => h)) t3 (fun k hk h => by have := ownsRow_ge ho hk; omega)
  have X : ExtB (fun k => k = B11 ∨ k = B12) w6 u3 := (h5.trans (ExtB.of_ext XA)).write t3 (by intro k hk hlt; omega)
  have hk3 : ∀ k, G k → u3.heap[k]? = u.heap[k]? := fun k hg => (t3.block k (by have := h3 k hg; omega) (by have := h3 k hg; omega)).trans (XA.block k (h3 k hg).2 id)
  have h3' : ∀ k, G k → w6.heap.size + 2 ≤ k ∧ k < u3.heap.size := fun k hg => by have := h3 k hg; omega
  have U5 := Z56.ext X (by omega)
  have U6 := Z66.ext X (by omega)
  clear hL XA t3 h5
  by_cases hkt : kk ≤ t
  case neg =>
   obtain ⟨m1, m2⟩ := hstop (by omega)
   refine g ?_
   exact RunE.breakB rfl ⟨⟨⟨_, h1, by rw [m1]; exact ho⟩, by rw [m2]; exact h2, X, by omega⟩, hk3⟩ hL3
  have hnew : ∃ nb : Bool, nb = (ob || decide (kk = begun)) := ⟨_, rfl⟩
  obtain ⟨nb, hnb⟩ := hnew
  rw [← hnb]
  have go : ∀ u4, Blk u4 B12 [.bool nb] 4 → ExtB (fun k => k = B12) u3 u4 → True := fun _ _ _ => trivial
  clear go
  cases ob
  case' true => simp only [Bool.true_or] at hnb
  case' false =>
   by_cases hkb : kk = begun
   case' pos => rw [decide_eq_true hkb] at hnb; simp only [Bool.or_true] at hnb
   case' neg => rw [decide_eq_false hkb] at hnb; simp only [Bool.or_false] at hnb
  all_goals
   subst hnb
   refine g ?_
   refine RunL.store Tryz.tOk rfl rfl rfl rfl rfl h2 rfl rfl fun u4 t4 => ?_
   have T4 : ExtB (fun k => k = B12) u3 u4 := t4.ext
   have H2 := t4.at_
   have H1 := h1.ext T4 (by omega)
   have HO := ownsRow_ext ho T4 (fun k hk h => by have := ownsRow_ge ho hk; have h : k = B12 := h; omega)
   have Z4 := Z14.ext T4 (by omega)
   have L4 := hL3.ext T4 (by omega) (by omega)
   have s4' := T4.size
   refine g ?_
   refine ap1 encVs x HO (ExtB.refl _ _) (by omega) (by omega) rfl rfl rfl rfl rfl rfl rfl rfl rfl rfl (fun _ => rfl) rfl (fun _ => rfl) fun q1 y' u5 O5 E5' hown => ?_
   have hne : ∀ k, (Value.slice ds acc.length cs).ownBlock = some k → w6.heap.size + 2 ≤ k := fun k hk => ownsRow_ge HO hk
   have H15 := H1.ext E5' (fun h => by have := hne _ h; omega)
   have H25 : Blk u5 B12 _ 4 := Blk.ext (show Blk u4 B12 _ 4 from H2) E5' (fun h => by have := hne _ h; omega)
   have L5 := L4.ext E5' (fun h => by have := hne _ h; omega) (fun h => by have := hne _ h; omega)
   have hn5 : ∀ k, y'.ownBlock = some k → ¬ G k := fun k hk hg => hn k (hown k hk (by have := h3' k hg; omega)) hg
   have s5' := E5'.size
   have hk5 : ∀ k, G k → u5.heap[k]? = u.heap[k]? := fun k hg => (E5'.block k (by have := h3' k hg; omega) (fun h => hn k h hg)).trans ((T4.block k (h3' k hg).2 (by have := h3' k hg; omega)).trans (hk3 k hg))
   obtain ⟨dy, cy, rfl⟩ := isSl_slice (isSl_own O5)
   refine g ?_
   refine RunL.store Tryz.tOk rfl rfl rfl rfl rfl H15 rfl rfl fun u6 t6 => ?_
   have T6 : ExtB (fun k => k = B11) u5 u6 := t6.ext
   refine g ?_
   refine RunE.endB ⟨⟨⟨_, t6.at_, ?_, hn5⟩, H25.ext T6 (by omega), fun k hg => by have := h3' k hg; have := T6.size; omega, h4' hkt, ?_, by have := T6.size; omega⟩, fun k hg => (T6.block k (by have := h3' k hg; omega) (by have := h3' k hg; omega)).trans (hk5 k hg)⟩ (L5.ext T6 (by omega) (by omega))
   ·rw [List.length_append, flat_append, flat_one]
    exact ownsRow_ext O5 T6 (fun k hk h => by have := ownsRow_ge O5 hk; have h : k = B11 := h; omega)
   ·exact (((X.trans (T4.mono fun k _ h => (.inr h : k = B11 ∨ k = B12)))).write E5' (by intro k hk hlt; have := hne k hk; omega)).trans (T6.mono fun k _ h => .inl h)
 ·rintro G w' ⟨⟨s, h1, ho, hn⟩, h2, h3, h4, h5, h6⟩
  simp only [List.length_map] at ho h2 h4
  obtain ⟨m1, m2⟩ := met_take hKeys (t := t) (ksF begun kn l).length (Nat.le_refl _) h4 (fun k hk => by rw [List.getElem?_eq_none (Nat.le_refl _)] at hk; cases hk)
  refine ⟨⟨s, h1, ?_⟩, ?_, h5, h6⟩
  ·rw [hmet, m1]
   simpa using ho
  ·have e : oldF begun t kn l = ((ksF begun kn l).take (ksF begun kn l).length).any fun k => decide (k = begun) := by rw [hold, ← m2, List.any_filter]
   rw [e]; exact h2
 ·rintro w' ⟨⟨s, h1, ho⟩, h2, h5, h6⟩ hD
  obtain ⟨ds, cs, rfl⟩ := isSl_slice (isSl_own ho)
  have hml := metF_len begun t kn l
  have X7 : Ext w w' := X6.write h5 (by intro k hk hlt; have := X3.size; omega)
  have hIs : IsL w' Vs.cells 13 (.slice ds (metF begun t kn l).length cs) (metF begun t kn l) := isSl_own ho
  unfold nosF
  by_cases hme : metF begun t kn l = []
  ·rw [hme] at h1 ⊢
   have hn0 : srtI ((judP (modeF ([] : List Vs)) [] (oldF begun t kn l)).map Vs.no) = [] := List.length_eq_zero_iff.1 (by rw [srtI_len]; rfl)
   rw [hn0]
   refine g ?_
   refine RunE.retFn1 hf_ hD fun w9 t9 => ⟨_, .tmp rfl (.tmp rfl (.tmp rfl .nil)), ⟨_, rfl, IsSl.nil, fun k hk => by simp [Value.ownBlock] at hk⟩, X7.write t9.ext (by intro k hk hlt; have hk : k = w6.heap.size := hk; omega)⟩
  ·obtain ⟨x, r, hrx, hxl, hmode, hm1, hm2⟩ := modeF_ok hc hme
   rw [hmode]
   have hpos : 0 < (metF begun t kn l).length := List.length_pos_iff.2 hme
   have hlast : (metF begun t kn l)[(metF begun t kn l).length - 1]? = some x := by rw [hrx]; simp
   generalize metF begun t kn l = met at h1 ho hIs hml hme hrx hpos hlast ⊢
   generalize oldF begun t kn l = old at h2 ⊢
   obtain ⟨b, o, cap, hve, hr, hcp⟩ := isL_held hIs hpos
   cases hve
   have hrl := flat_row encVs hr hlast
   refine g ?_
   refine RunL.evV rfl rfl rfl (OpV.indexS Tryz.tOk (met.length - 1) rfl rfl rfl (by omega) (by omega)) ?_
   have hr12 : Row w' b (o + (met.length - 1) * 13 + 12) [.int .i64 x.pol.mode] := fun k c hk => by
    cases k with
    | zero => cases hk; exact hrl 12 _ rfl
    | succ k => simp at hk
   refine g ?_
   obtain ⟨fnum, hfn, hjf⟩ : ∃ fnum, getM x.pol.mode jmap = some (fnV fnum) ∧ ∀ (q : Value) (wq : World), IsL wq Vs.cells 13 q met → Rets Tryz.prog fnum [q, .bool old] wq fun r w' => IsL w' Vs.cells 13 r (judP x.pol.mode met old) ∧ wq = w' := by
    obtain e | e | e | e : x.pol.mode = 1 ∨ x.pol.mode = 2 ∨ x.pol.mode = 3 ∨ x.pol.mode = 4 := by omega
    ·exact ⟨_, by rw [e]; rfl, fun q wq h => by rw [e]; exact jold_ok q old met wq hpos h⟩
    ·exact ⟨_, by rw [e]; rfl, fun q wq h => by rw [e]; exact jnew_ok q old met wq hpos (by omega) h⟩
    ·exact ⟨_, by rw [e]; rfl, fun q wq h => by rw [e]; exact jall_ok q old met wq h⟩
    ·exact ⟨_, by rw [e]; rfl, fun q wq h => by rw [e]; exact jall_ok q old met wq h⟩
   have hjl : (judP x.pol.mode met old).length ≤ met.length := by
    unfold judP
    split
    ·split
     ·rw [List.length_take]; omega
     ·simp
    ·split
     ·rw [List.length_drop]; omega
     ·exact Nat.le_refl _
   generalize judP x.pol.mode met old = jl at hjf hjl ⊢
   refine RunE.draw (fun _ => False) mix' ?_
   intro wd Xd
   refine Asy.sat0 (fun a w'' => ∃ R, a = .map (some R) ∧ MapW w'' R kvU (fun v : Value => v) jmap) rfl rfl rfl rfl (fun a w1 w2 _ e h => ?_) (fun w1 e => ?_) ?_
   ·obtain ⟨R, h1, h2⟩ := h; exact ⟨R, h1, h2.up e⟩
   ·refine OpE.mono (OpE.call rfl (judges_ok w1)) ?_ fun _ _ h => h
    rintro r w2 ⟨⟨R, h1, -, h3⟩, E⟩; exact ⟨E, R, h1, h3⟩
   refine ga ?_
   refine Asy.val1 0 (v := fnV fnum) rfl rfl rfl rfl rfl rfl (fun w1 a e ha => ?_) ?_
   ·obtain ⟨R, rfl, hM⟩ := ha
    refine OpE.mono (OpV.e (lk1s rfl rfl hM (ExtB.refl _ _) inferInstance inferInstance hfn)) ?_ fun _ _ h => h
    rintro _ _ ⟨rfl, rfl⟩; exact ⟨rfl, ExtB.refl _ _⟩
   refine ga ?_
   refine AsyN.any ?_
   refine Asy.sat0 (fun a w'' => IsL w'' Vs.cells 13 a jl) rfl rfl rfl rfl (fun a w1 w2 _ e h => h.up e) (fun w1 e => ?_) ?_
   ·refine OpE.mono (OpE.callV rfl rfl (RetsX.v (fi := []) (args := [_, _]) (ca := []) (hjf _ w1 (hIs.up (Xd.trans e))))) ?_ fun _ _ h => h
    rintro r w2 ⟨h1, rfl⟩; exact ⟨ExtB.refl _ _, h1⟩
   refine Asy.val1 0 (v := .int .i64 (jl.length : Int)) rfl rfl rfl rfl rfl rfl (fun w1 a e ha => ?_) ?_
   ·obtain ⟨d', c', rfl⟩ := isSl_slice ha
    refine OpE.mono (OpV.e (OpV.evp Tryz.tOk rfl)) ?_ fun _ _ h => h
    rintro _ _ ⟨rfl, rfl⟩; exact ⟨rfl, ExtB.refl _ _⟩
   refine ga ?_
   refine Asy.tail (by decide +kernel) fun we Xe => ?_
   simp only [satsAll]
   rintro jv hjv xq -
   have EE : Ext w' we := Xd.trans Xe
   have sEE := EE.size
   have hD' : we.heap[w6.heap.size]? = some (.deferred (some [])) := obj_ext hD EE id
   obtain ⟨d', c', rfl⟩ := isSl_slice hjv
   refine g ?_
   refine rangeL hjv encVs 75 76 77 (fun s : Value => [(8, s), (9, .int .i64 x.pol.mode)])
    (fun i s w' => w'.ownsRow we.heap.size 3 1 s ((jl.take i).map Vs.no).length (flat intC ((jl.take i).map Vs.no)) ∧ Ext we w') (.slice none 0 0) sb_ ⟨World.ownsRow_nil _ _ _ _, ExtB.refl _ _⟩ ?_ ?_
   ·rintro i s y w3 hy ⟨hO, X3'⟩ b' o' cap' hve hry hlt again
    cases hve
    have s3' := X3'.size
    obtain ⟨ds', cs', rfl⟩ := isSl_slice (isSl_own hO)
    have htk : (jl.take (i + 1)).map Vs.no = (jl.take i).map Vs.no ++ [y.no] := by rw [List.take_add_one, hy, List.map_append]; rfl
    rw [htk, flat_append, flat_one, List.length_append] at again
    have hal : ((jl.take i).map Vs.no).length ≤ 1000 := by rw [List.length_map, List.length_take]; omega
    generalize (jl.take i).map Vs.no = acc at hO again hal
    refine g ?_
    refine RunL.alloc Tryz.tOk rfl rfl rfl fun B16 ω_ a_ => ?_
    refine Go.Rn.RunL.storeW Tryz.tOk rfl rfl rfl rfl rfl (show Go.Rn.Blk _ B16 _ _ from a_.at_) rfl rfl fun w4 t_ => ?_
    replace a_ := Go.Rn.Added.turn a_ t_
    clear t_
    have E4' := a_.ext
    have Z16 : Blk w4 B16 y.cells _ := a_.at_
    clear a_
    refine g ?_
    refine ap1 encI y.no hO E4' s3' (by omega) rfl rfl rfl rfl rfl rfl rfl rfl rfl rfl (fun _ => rfl) rfl (fun _ => rfl) fun q1 y' w5' O5 E5' _ => ?_
    refine g ?_
    exact RunE.weaken sb_ (again y' w5' ⟨O5, X3'.write E5' (by intro k hk hlt'; have := ownsRow_ge hO hk; omega)⟩)
   ·rintro s w3 ⟨hO, X3'⟩
    rw [List.take_length] at hO
    have hs := srt_ok (jl.map Vs.no) s we.heap.size w3 (by rw [List.length_map]; omega) hO
    obtain ⟨ds', cs', rfl⟩ := isSl_slice (isSl_own hO)
    refine g ?_
    refine gc hs ?_
    rintro _ w4 ⟨h4', E4'⟩
    have hD4 : w4.heap[w6.heap.size]? = some (.deferred (some [])) := obj_ext (obj_ext hD' X3' id) E4' fun h => by have h : we.heap.size ≤ w6.heap.size := h; omega
    have hlt6 := lt_of_get hD'
    refine g ?_
    refine RunE.retFn1 hf_ hD4 fun w9 t9 => ⟨_, .tmp rfl (.tmp rfl (.tmp rfl .nil)), ⟨_, rfl, isL_ext h4' t9.ext fun hne k hk h => ?_, fun k hk => by have := ownsRow_ge hO hk; have := (X7.trans EE).size; omega⟩, (((X7.trans EE).trans X3').write E4' (by intro k hk hlt'; have hk : we.heap.size ≤ k := hk; have := (X7.trans EE).size; omega)).write t9.ext (by intro k hk hlt'; have hk : k = w6.heap.size := hk; omega)⟩
    have h : k = w6.heap.size := h
    have := ownsRow_ge hO hk
    omega
end Go.Sg
end
section
set_option maxRecDepth 4000
namespace Go.Und
def decB (m : Int) (l : List Bool) : Bool := if m = 4 then l.any id else if m = 3 then !(l.any not) && l.any id else l == [true]
end Go.Und
namespace Go.Sg
open Go.Rn Go.Proofs Go.Rec Go.RowKit Go.Pol Go.Und
attribute [local irreducible] Go.Rn.RetsX Go.Rn.RunLN Go.Rn.AsyN Go.Rn.RunL Go.Rn.RunE Go.Rn.Asy Go.Rn.OpV Go.Rn.OpE Go.Rn.ExecE
def blC (m : Bool) : List Value := [.bool m]
theorem encBl : EncOk blC 1 := ⟨fun _ => rfl, fun _ => rfl, by decide⟩
theorem boidx_ok (l : List Bool) (p : Bool → Bool) (v f : Value) (w : World) (hl : l.length ≤ 100000) (hv : IsL w blC 1 v l) (hf : ∀ x ∈ l, ∀ w', Ext w w' → FnV Tryz.prog f [Value.bool x] w' (fun r w'' => r = .bool (p x) ∧ Ext w' w'') fun _ _ => False) :
  Rets Tryz.prog 175 [v, f] w fun r w' => r = .int .i64 (idxF p l) ∧ Ext w w' := by
 obtain ⟨d, cp, rfl⟩ := isSl_slice hv
 refine en Tryz.func175 19 fun hf_ => ?_
 refine g ?_
 refine rangeL hv encBl 6 7 8 (fun _ : Unit => [(0, .slice d l.length cp), (1, f)]) (fun i _ w' => idxF p l = idxFrom p (i : Int) (l.drop i) ∧ Ext w w') () sb_ ⟨by simp [idxF], ExtB.refl _ _⟩ ?_ ?_
 ·rintro i ⟨⟩ x w1 hx ⟨h1, X⟩ b o cap hve hrx hlt again
  cases hve
  have hd : l.drop i = x :: l.drop (i + 1) := by
   obtain ⟨hi, e⟩ := List.getElem?_eq_some_iff.1 hx
   rw [List.drop_eq_getElem_cons hi, e]
  rw [hd] at h1
  simp only [idxFrom] at h1
  refine g ?_
  refine RunL.ex rfl rfl rfl (OpE.callV rfl rfl (hf x (List.mem_of_getElem? hx) w1 X)) ?_
  rintro _ w2 ⟨rfl, E2⟩
  cases hp : p x with
  | true =>
   rw [hp, if_pos rfl] at h1
   refine rt ?_
   exact ⟨by rw [h1]; rfl, xt⟩
  | false =>
   rw [hp, if_neg (by simp)] at h1
   refine g ?_
   exact RunE.weaken sb_ (again () w2 ⟨by rw [h1]; simp, xt⟩)
 ·rintro ⟨⟩ w1 ⟨h1, X⟩
  rw [List.drop_length] at h1
  refine rt ?_
  exact ⟨by rw [h1]; rfl, X⟩
instance iUndD_1 (b : Bool) : Pf 135 [.bool b] (.bool b) := ⟨fun w => by
 cases b
 all_goals
  refine en Tryz.func135 4 fun hf_ => ?_
  refine rt ?_
  exact ⟨rfl, rfl⟩⟩
instance iUndD_2 (b : Bool) : Pf 136 [.bool b] (.bool (!b)) := ⟨fun w => by
 cases b
 all_goals
  refine en Tryz.func136 5 fun hf_ => ?_
  refine rt ?_
  exact ⟨rfl, rfl⟩⟩
theorem jmap_some {m : Int} (h : 1 ≤ m ∧ m ≤ 4) : ∃ v, getM m jmap = some v := by
 obtain e | e | e | e : m = 1 ∨ m = 2 ∨ m = 3 ∨ m = 4 := by omega
 all_goals exact ⟨_, by rw [e]; rfl⟩
theorem ucheck_ok (m : Int) (l : List Bool) (v : Value) (w : World) (hm : 1 ≤ m ∧ m ≤ 4) (hl : l.length ≤ 256) (hv : IsL w blC 1 v l) :
  Rets Tryz.prog 133 [.int .i64 m, v] w fun r w' => r = .int .i64 0 ∧ Ext w w' := by
 obtain ⟨d, cp, rfl⟩ := isSl_slice hv
 obtain ⟨x, hg⟩ := jmap_some hm
 refine en Tryz.func133 18 fun hf_ => ?_
 refine gc (judges_ok w) ?_
 rintro r w2 ⟨⟨R, rfl, -, hM⟩, E⟩
 refine g ?_
 refine rt ?_
 exact ⟨rfl, E⟩
theorem bofind_ok (l : List Bool) (n : Nat) (p : Bool → Bool) (hp : ∀ b, Pf n [.bool b] (.bool (p b))) (v : Value) (w : World) (hl : l.length ≤ 256) (hv : IsL w blC 1 v l) :
  Rets Tryz.prog 134 [v, fnV n] w fun r w' => r = .int .i64 (idxF p l) ∧ Ext w w' := by
 obtain ⟨d, cp, rfl⟩ := isSl_slice hv
 refine en Tryz.func134 8 fun hf_ => ?_
 refine gc (boidx_ok l p _ (fnV n) w (by omega) hv fun x _ w' _ => RetsX.v (fi := []) (args := [.bool x]) (ca := []) (((hp x).ok w').mono fun _ _ h => ⟨h.1, by rw [h.2]; exact ExtB.refl _ _⟩)) ?_
 rintro _ w1 ⟨rfl, E1⟩
 refine rt ?_
 exact ⟨rfl, xt⟩
theorem Needed_ok (m : Int) (l : List Bool) (v : Value) (w : World) (hm : 1 ≤ m ∧ m ≤ 4) (hl : l.length ≤ 256) (hv : IsL w blC 1 v l) :
  Rets Tryz.prog 90 [.int .i64 m, v] w fun r w' => (∃ q, r = .tuple #[q, .bool (decB m l), .int .i64 0]) ∧ Ext w w' := by
 obtain ⟨d, cp, rfl⟩ := isSl_slice hv
 refine en Tryz.func90 66 fun hf_ => ?_
 refine gc (ucheck_ok m l _ w hm hl hv) ?_
 rintro _ w1 ⟨rfl, E1⟩
 refine g ?_
 refine gc (bofind_ok l 135 id (fun b => inferInstanceAs (Pf _ _ (.bool b))) _ w1 hl (hv.up xt)) ?_
 rintro _ w2 ⟨rfl, E2⟩
 refine g ?_
 refine gc (bofind_ok l 136 not (fun b => inferInstanceAs (Pf _ _ (.bool (!b)))) _ w2 hl (hv.up xt)) ?_
 rintro _ w3 ⟨rfl, E3⟩
 have X3 : Ext w w3 := xt
 have hy := idxF_any id l
 have hn := idxF_any not l
 have hv3 : IsL w3 blC 1 _ l := hv.up X3
 obtain ⟨bb, hbb⟩ : ∃ bb, bb = decB m l := ⟨_, rfl⟩
 rw [← hbb]
 unfold decB at hbb
 rw [← hy, ← hn] at hbb
 generalize idxF id l = y at hbb ⊢
 generalize idxF not l = n at hbb ⊢
 clear hy hn
 have hc : (m = 4 ∧ y ≥ 0 ∧ bb = true) ∨ (m = 3 ∧ n ≥ 0 ∧ bb = false) ∨ (m = 4 ∧ ¬ y ≥ 0 ∧ bb = false) ∨ (m = 3 ∧ ¬ n ≥ 0 ∧ y ≥ 0 ∧ bb = true) ∨ (m = 3 ∧ ¬ n ≥ 0 ∧ ¬ y ≥ 0 ∧ bb = false)
   ∨ (m ≠ 4 ∧ m ≠ 3 ∧ l.length = 1 ∧ (∃ bq o, d = some ⟨bq, o, none⟩ ∧ Row w3 bq o [.bool true]) ∧ bb = true) ∨ (m ≠ 4 ∧ m ≠ 3 ∧ l.length = 1 ∧ (∃ bq o, d = some ⟨bq, o, none⟩ ∧ Row w3 bq o [.bool false]) ∧ bb = false) ∨ (m ≠ 4 ∧ m ≠ 3 ∧ l.length ≠ 1 ∧ bb = false) := by
  by_cases h4 : m = 4
  ·rw [if_pos h4] at hbb
   by_cases hy : y ≥ 0 <;> simp [h4, hy, hbb]
  ·rw [if_neg h4] at hbb
   by_cases h3 : m = 3
   ·rw [if_pos h3] at hbb
    by_cases hy : y ≥ 0 <;> by_cases hn : n ≥ 0 <;> simp [h3, hy, hn, hbb]
   ·rw [if_neg h3] at hbb
    by_cases hl1 : l.length = 1
    ·obtain ⟨b0, rfl⟩ := List.length_eq_one_iff.1 hl1
     obtain ⟨bq, o, cap, hve, hr, hcp⟩ := isL_held hv3 Nat.one_pos
     cases hve
     have hr : Row w3 bq o [.bool b0] := hr
     cases b0
     ·exact .inr (.inr (.inr (.inr (.inr (.inr (.inl ⟨h4, h3, rfl, ⟨_, _, rfl, hr⟩, hbb⟩))))))
     ·exact .inr (.inr (.inr (.inr (.inr (.inl ⟨h4, h3, rfl, ⟨_, _, rfl, hr⟩, hbb⟩)))))
    ·rw [show (l == [true]) = false from by rw [beq_eq_false_iff_ne]; rintro rfl; exact hl1 rfl] at hbb
     simp [h3, h4, hbb, hl1]
 clear hbb
 rcases hc with ⟨rfl, hy, rfl⟩ | ⟨rfl, hn, rfl⟩ | ⟨rfl, hy, rfl⟩ | ⟨rfl, hn, hy, rfl⟩ | ⟨rfl, hn, hy, rfl⟩ | ⟨h4, h3, hlen, ⟨bq, o, rfl, hr⟩, rfl⟩ | ⟨h4, h3, hlen, ⟨bq, o, rfl, hr⟩, rfl⟩ | ⟨h4, h3, hl1, rfl⟩
 ·refine g ?_
  refine Go.Sg.bsI rfl rfl rfl rfl rfl rfl ?_
  intro β0_ ω_ e_ g0_ z0_
  refine g ?_
  refine rt ?_
  exact ⟨⟨_, rfl⟩, xt⟩
 ·refine g ?_
  refine Go.Sg.bsI rfl rfl rfl rfl rfl rfl ?_
  intro β0_ ω_ e_ g0_ z0_
  refine g ?_
  refine rt ?_
  exact ⟨⟨_, rfl⟩, xt⟩
 ·refine g ?_
  refine rangeL hv3 encBl 54 55 56 (fun s : Value => [(4, s), (5, .bool false)])
   (fun i s w' => (∃ xs, w'.ownsRow w3.heap.size 3 1 s i xs) ∧ Ext w3 w') (.slice none 0 0) sb_ ⟨⟨_, World.ownsRow_nil _ _ _ _⟩, ExtB.refl _ _⟩ ?_ ?_
  ·rintro i s y w4 hy ⟨⟨xs, hO⟩, X4⟩ b' o' cap' hve hry hlt again
   have s4 := X4.size
   obtain ⟨ds', cs', rfl⟩ := isSl_slice (isSl_own hO)
   refine g ?_
   refine ap1 encI (i : Int) hO (ExtB.refl _ _) s4 (by omega) rfl rfl rfl rfl rfl rfl rfl rfl rfl rfl (fun _ => rfl) rfl (fun _ => rfl) fun q1 y' w5' O5 E5' _ => ?_
   refine g ?_
   exact RunE.weaken sb_ (again y' w5' ⟨⟨_, O5⟩, X4.write E5' (by intro k hk hlt'; have := ownsRow_ge hO hk; omega)⟩)
  ·rintro s w4 ⟨⟨xs, hO⟩, X4⟩
   obtain ⟨ds', cs', rfl⟩ := isSl_slice (isSl_own hO)
   refine rt ?_
   exact ⟨⟨_, rfl⟩, X3.trans X4⟩
 ·refine g ?_
  refine rangeL hv3 encBl 54 55 56 (fun s : Value => [(4, s), (5, .bool true)])
   (fun i s w' => (∃ xs, w'.ownsRow w3.heap.size 3 1 s i xs) ∧ Ext w3 w') (.slice none 0 0) sb_ ⟨⟨_, World.ownsRow_nil _ _ _ _⟩, ExtB.refl _ _⟩ ?_ ?_
  ·rintro i s y w4 hy ⟨⟨xs, hO⟩, X4⟩ b' o' cap' hve hry hlt again
   have s4 := X4.size
   obtain ⟨ds', cs', rfl⟩ := isSl_slice (isSl_own hO)
   refine g ?_
   refine ap1 encI (i : Int) hO (ExtB.refl _ _) s4 (by omega) rfl rfl rfl rfl rfl rfl rfl rfl rfl rfl (fun _ => rfl) rfl (fun _ => rfl) fun q1 y' w5' O5 E5' _ => ?_
   refine g ?_
   exact RunE.weaken sb_ (again y' w5' ⟨⟨_, O5⟩, X4.write E5' (by intro k hk hlt'; have := ownsRow_ge hO hk; omega)⟩)
  ·rintro s w4 ⟨⟨xs, hO⟩, X4⟩
   obtain ⟨ds', cs', rfl⟩ := isSl_slice (isSl_own hO)
   refine rt ?_
   exact ⟨⟨_, rfl⟩, X3.trans X4⟩
 ·refine g ?_
  refine rangeL hv3 encBl 54 55 56 (fun s : Value => [(4, s), (5, .bool false)])
   (fun i s w' => (∃ xs, w'.ownsRow w3.heap.size 3 1 s i xs) ∧ Ext w3 w') (.slice none 0 0) sb_ ⟨⟨_, World.ownsRow_nil _ _ _ _⟩, ExtB.refl _ _⟩ ?_ ?_
  ·rintro i s y w4 hy ⟨⟨xs, hO⟩, X4⟩ b' o' cap' hve hry hlt again
   have s4 := X4.size
   obtain ⟨ds', cs', rfl⟩ := isSl_slice (isSl_own hO)
   refine g ?_
   refine ap1 encI (i : Int) hO (ExtB.refl _ _) s4 (by omega) rfl rfl rfl rfl rfl rfl rfl rfl rfl rfl (fun _ => rfl) rfl (fun _ => rfl) fun q1 y' w5' O5 E5' _ => ?_
   refine g ?_
   exact RunE.weaken sb_ (again y' w5' ⟨⟨_, O5⟩, X4.write E5' (by intro k hk hlt'; have := ownsRow_ge hO hk; omega)⟩)
  ·rintro s w4 ⟨⟨xs, hO⟩, X4⟩
   obtain ⟨ds', cs', rfl⟩ := isSl_slice (isSl_own hO)
   refine rt ?_
   exact ⟨⟨_, rfl⟩, X3.trans X4⟩
 ·refine g ?_
  refine RunL.evV rfl rfl rfl (OpV.indexS Tryz.tOk 0 rfl rfl rfl (by omega) (by omega)) ?_
  refine g ?_
  refine rangeL hv3 encBl 54 55 56 (fun s : Value => [(4, s), (5, .bool true)])
   (fun i s w' => (∃ xs, w'.ownsRow w3.heap.size 3 1 s i xs) ∧ Ext w3 w') (.slice none 0 0) sb_ ⟨⟨_, World.ownsRow_nil _ _ _ _⟩, ExtB.refl _ _⟩ ?_ ?_
  ·rintro i s y w4 hy ⟨⟨xs, hO⟩, X4⟩ b' o' cap' hve hry hlt again
   have s4 := X4.size
   obtain ⟨ds', cs', rfl⟩ := isSl_slice (isSl_own hO)
   refine g ?_
   refine ap1 encI (i : Int) hO (ExtB.refl _ _) s4 (by omega) rfl rfl rfl rfl rfl rfl rfl rfl rfl rfl (fun _ => rfl) rfl (fun _ => rfl) fun q1 y' w5' O5 E5' _ => ?_
   refine g ?_
   exact RunE.weaken sb_ (again y' w5' ⟨⟨_, O5⟩, X4.write E5' (by intro k hk hlt'; have := ownsRow_ge hO hk; omega)⟩)
  ·rintro s w4 ⟨⟨xs, hO⟩, X4⟩
   obtain ⟨ds', cs', rfl⟩ := isSl_slice (isSl_own hO)
   refine rt ?_
   exact ⟨⟨_, rfl⟩, X3.trans X4⟩
 ·refine g ?_
  refine RunL.evV rfl rfl rfl (OpV.indexS Tryz.tOk 0 rfl rfl rfl (by omega) (by omega)) ?_
  refine g ?_
  refine rangeL hv3 encBl 54 55 56 (fun s : Value => [(4, s), (5, .bool false)])
   (fun i s w' => (∃ xs, w'.ownsRow w3.heap.size 3 1 s i xs) ∧ Ext w3 w') (.slice none 0 0) sb_ ⟨⟨_, World.ownsRow_nil _ _ _ _⟩, ExtB.refl _ _⟩ ?_ ?_
  ·rintro i s y w4 hy ⟨⟨xs, hO⟩, X4⟩ b' o' cap' hve hry hlt again
   have s4 := X4.size
   obtain ⟨ds', cs', rfl⟩ := isSl_slice (isSl_own hO)
   refine g ?_
   refine ap1 encI (i : Int) hO (ExtB.refl _ _) s4 (by omega) rfl rfl rfl rfl rfl rfl rfl rfl rfl rfl (fun _ => rfl) rfl (fun _ => rfl) fun q1 y' w5' O5 E5' _ => ?_
   refine g ?_
   exact RunE.weaken sb_ (again y' w5' ⟨⟨_, O5⟩, X4.write E5' (by intro k hk hlt'; have := ownsRow_ge hO hk; omega)⟩)
  ·rintro s w4 ⟨⟨xs, hO⟩, X4⟩
   obtain ⟨ds', cs', rfl⟩ := isSl_slice (isSl_own hO)
   refine rt ?_
   exact ⟨⟨_, rfl⟩, X3.trans X4⟩
 ·refine g ?_
  refine rangeL hv3 encBl 54 55 56 (fun s : Value => [(4, s), (5, .bool false)])
   (fun i s w' => (∃ xs, w'.ownsRow w3.heap.size 3 1 s i xs) ∧ Ext w3 w') (.slice none 0 0) sb_ ⟨⟨_, World.ownsRow_nil _ _ _ _⟩, ExtB.refl _ _⟩ ?_ ?_
  ·rintro i s y w4 hy ⟨⟨xs, hO⟩, X4⟩ b' o' cap' hve hry hlt again
   have s4 := X4.size
   obtain ⟨ds', cs', rfl⟩ := isSl_slice (isSl_own hO)
   refine g ?_
   refine ap1 encI (i : Int) hO (ExtB.refl _ _) s4 (by omega) rfl rfl rfl rfl rfl rfl rfl rfl rfl rfl (fun _ => rfl) rfl (fun _ => rfl) fun q1 y' w5' O5 E5' _ => ?_
   refine g ?_
   exact RunE.weaken sb_ (again y' w5' ⟨⟨_, O5⟩, X4.write E5' (by intro k hk hlt'; have := ownsRow_ge hO hk; omega)⟩)
  ·rintro s w4 ⟨⟨xs, hO⟩, X4⟩
   obtain ⟨ds', cs', rfl⟩ := isSl_slice (isSl_own hO)
   refine rt ?_
   exact ⟨⟨_, rfl⟩, X3.trans X4⟩
theorem Decide_ok (m : Int) (l : List Bool) (v : Value) (w : World) (hm : 1 ≤ m ∧ m ≤ 4) (hl : l.length ≤ 256) (hv : IsL w blC 1 v l) :
  Rets Tryz.prog 55 [.int .i64 m, v] w fun r w' => r = .tuple #[.bool (decB m l), .int .i64 0] ∧ Ext w w' := by
 obtain ⟨d, cp, rfl⟩ := isSl_slice hv
 refine en Tryz.func55 15 fun hf_ => ?_
 refine gc (Needed_ok m l _ w hm hl hv) ?_
 rintro _ w1 ⟨⟨q, rfl⟩, E1⟩
 generalize decB m l = b
 cases b
 all_goals
  refine rt ?_
  exact ⟨rfl, E1⟩
end Go.Sg
end
