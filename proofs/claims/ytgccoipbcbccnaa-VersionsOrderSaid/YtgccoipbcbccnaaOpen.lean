/- What comes in, read as data: the shape of its cells. Nothing here knows a program. -/
import Derived.Test.YtgccoipbcbccnaaSl
import Derived.ChangeArms
import Derived.Deep.Slices
set_option linter.unusedSimpArgs false
set_option linter.unusedVariables false
set_option linter.unusedSectionVars false
namespace Go.Rn
open Go.RowKit Go.ChangeShapes Go.WideShapes

/-- What cells of a type hold that can be read. -/
def Shp (P : Program) (w : World) : Nat → TypeId → List Value → Prop
  | 0, _, _ => False
  | f + 1, t, cs => match P.underlying t with
    | some .bool => ∃ b, cs = [.bool b]
    | some (.int k) => ∃ n, cs = [.int k n] ∧ (Lit.int k n).wf = true
    | some .string => ∃ s : ByteArray, cs = [.string s] ∧ s.size ≤ maxLen
    | some (.slice e) => 0 < P.cellsOf e → ∃ v n, ∃ rows : List (List Value), cs = [v] ∧ n ≤ maxLen ∧ rows.length = n ∧ (∀ r ∈ rows, r.length = P.cellsOf e ∧ Shp P w f e r) ∧ IsSl w (P.cellsOf e) v n rows.flatten
    | some (.struct fs) => cs.length = P.cellsOf t ∧ ∀ fl ∈ fs.toList, Shp P w f fl.type ((cs.drop fl.offset).take (P.cellsOf fl.type))
    | some (.array n e) => cs.length = P.cellsOf t ∧ ∀ i, i < n → Shp P w f e ((cs.drop (i * P.cellsOf e)).take (P.cellsOf e))
    | _ => True

theorem mapM_mem {α β : Type} {g : α → Option β} : ∀ {l : List α} {ys : List β}, l.mapM g = some ys → ∀ x ∈ l, ∃ y, g x = some y
  | [], _, _, x, hx => by simp at hx
  | a :: r, ys, h, x, hx => by
    rw [List.mapM_cons] at h
    cases ha : g a with
    | none => simp [ha] at h
    | some y =>
      simp only [ha, Option.bind_eq_bind, Option.bind_some] at h
      cases hr : r.mapM g with
      | none => simp [hr] at h
      | some zs =>
        rcases List.mem_cons.1 hx with rfl | hx
        · exact ⟨y, ha⟩
        · exact mapM_mem hr x hx

theorem flatten_get {sz : Nat} : ∀ (rows : List (List Value)), (∀ r ∈ rows, r.length = sz) → ∀ i j, j < sz → (rows.flatten)[i * sz + j]? = (rows[i]?).bind (·[j]?)
  | [], _, i, j, _ => by simp
  | r :: rest, h, 0, j, hj => by
    have hr := h r (by simp)
    rw [List.flatten_cons, Nat.zero_mul, Nat.zero_add, List.getElem?_append_left (by omega)]; rfl
  | r :: rest, h, i + 1, j, hj => by
    have hr := h r (by simp)
    rw [List.flatten_cons, List.getElem?_append_right (by rw [hr, Nat.add_mul]; omega), hr, show (i + 1) * sz + j - sz = i * sz + j by rw [Nat.add_mul]; omega,
      flatten_get rest (fun x hx => h x (by simp [hx])) i j hj]
    simp
theorem flatten_length {sz : Nat} : ∀ (rows : List (List Value)), (∀ r ∈ rows, r.length = sz) → rows.flatten.length = rows.length * sz
  | [], _ => by simp
  | r :: rest, h => by
    rw [List.flatten_cons, List.length_append, h r (by simp), flatten_length rest (fun x hx => h x (by simp [hx])), List.length_cons, Nat.add_mul]; omega

section
variable {H : Type} {enc : TypeId × Value → H} {P : Program} {w : World} {held : Bool}

theorem shp_of_trod : ∀ (fuel : Nat) (t : TypeId) (cs : List Value) (x : DataW H × List MemPlace), DataW.trod enc P w 0 (fun _ => true) held fuel t cs = some x → Shp P w fuel t cs
  | 0, t, cs, x, h => by simp [DataW.trod] at h
  | fuel + 1, t, cs, x, h => by
    unfold Shp
    split
    · rename_i ht; obtain ⟨b, rfl, -⟩ := DataW.trod_bool ht h; exact ⟨b, rfl⟩
    · rename_i k ht; obtain ⟨n, rfl, -, hw⟩ := DataW.trod_int ht h; exact ⟨n, rfl, hw⟩
    · rename_i ht; obtain ⟨s, rfl, -, hs⟩ := DataW.trod_string ht h; exact ⟨s, rfl, hs⟩
    · rename_i e ht
      intro hpos
      rcases DataW.trod_slice ht h with ⟨rfl, -⟩ | ⟨a, len, cap, elems, rest, n, hfu, rfl, -, -, hlc, hcm, hlen, hel, hsp, -⟩
      · exact ⟨_, 0, [], rfl, by simp [maxLen], rfl, by simp, by simpa using IsSl.nil⟩
      · obtain rfl : fuel = n := by omega
        obtain ⟨hrl, hre⟩ := hsp rfl
        have all : ∀ i, i < cap → ∃ cs', w.cells? 0 (a.add (i * P.cellsOf e)) (P.cellsOf e) = some cs' ∧ ∃ y, DataW.trod enc P w 0 (fun _ => true) held fuel e cs' = some y := by
          intro i hi
          by_cases hil : i < len
          · have h1 := hel i hil
            rw [List.getElem?_eq_getElem (by omega)] at h1
            obtain ⟨cs', h1, h2⟩ := Option.bind_eq_some_iff.1 h1
            exact ⟨cs', h1, _, h2⟩
          · have h1 := hre (i - len) (by omega)
            rw [show len + (i - len) = i by omega, List.getElem?_eq_getElem (by omega)] at h1
            obtain ⟨cs', h1, h2⟩ := Option.bind_eq_some_iff.1 h1
            exact ⟨cs', h1, _, h2⟩
        obtain ⟨F, hF⟩ := Deep.choose_lt (α := List Value) (p := fun i cs' => w.cells? 0 (a.add (i * P.cellsOf e)) (P.cellsOf e) = some cs' ∧ ∃ y, DataW.trod enc P w 0 (fun _ => true) held fuel e cs' = some y) all
        have hlenF : ∀ i, i < cap → (F i).length = P.cellsOf e := fun i hi => (World.cells?_some (hF i hi).1).2.1
        refine ⟨_, len, (List.range len).map F, rfl, by omega, by simp, ?_, ?_⟩
        · intro r hr
          obtain ⟨i, hi, rfl⟩ := List.mem_map.1 hr
          have hi' : i < cap := by have := List.mem_range.1 hi; omega
          obtain ⟨y, hy⟩ := (hF i hi').2
          exact ⟨hlenF i hi', shp_of_trod fuel e _ y hy⟩
        · by_cases h0 : cap = 0
          · subst h0
            obtain rfl : len = 0 := by omega
            simpa using IsSl.nil
          · have hsp : a.spot = none := by
              have h1 := (World.cells?_some (hF 0 (by omega)).1).2.2 0 hpos
              rw [Nat.zero_mul] at h1
              have e0 : (a.add 0).add 0 = a := by simp [Addr.add]
              rw [e0] at h1
              have hl := hlenF 0 (by omega)
              rw [List.getElem?_eq_getElem (by omega)] at h1
              unfold World.cell? at h1
              split at h1
              · split at h1
                · simp at h1
                · rename_i hs; simpa using hs
              · simp at h1
            obtain ⟨ab, ao, asp⟩ := a
            simp only at hsp; subst hsp
            have hrl : ∀ r ∈ (List.range len).map F, r.length = P.cellsOf e := by
              intro r hr
              obtain ⟨i, hi, rfl⟩ := List.mem_map.1 hr
              exact hlenF i (by have := List.mem_range.1 hi; omega)
            refine .row ?_ (by rw [flatten_length _ hrl]; simp) hlc
            intro q v hv
            have hq : q < len * P.cellsOf e := by
              rcases Nat.lt_or_ge q (len * P.cellsOf e) with h | h
              · exact h
              · rw [List.getElem?_eq_none (by rw [flatten_length _ hrl]; simpa using h)] at hv; simp at hv
            have hqi : q / P.cellsOf e < len := Nat.div_lt_of_lt_mul (by rw [Nat.mul_comm]; exact hq)
            have hqj : q % P.cellsOf e < P.cellsOf e := Nat.mod_lt _ hpos
            have hqe : q / P.cellsOf e * P.cellsOf e + q % P.cellsOf e = q := by rw [Nat.mul_comm]; exact Nat.div_add_mod q _
            rw [← hqe, flatten_get _ hrl _ _ hqj] at hv
            simp only [List.getElem?_map, List.getElem?_range hqi, Option.map_some, Option.bind_some] at hv
            have h1 := (World.cells?_some (hF _ (by omega : q / P.cellsOf e < cap)).1).2.2 _ hqj
            rw [hv] at h1
            rw [add_none, add_none] at h1
            rw [← hqe, ← Nat.add_assoc]; exact h1
    · rename_i fs ht
      obtain ⟨xs, n, hfu, -, hl, hxl, hx⟩ := DataW.trod_struct ht h
      obtain rfl : fuel = n := by omega
      refine ⟨hl, fun fl hfl => ?_⟩
      obtain ⟨i, hi, rfl⟩ := List.getElem_of_mem hfl
      have h1 := hx i (fs.toList[i]) (by simp)
      rw [List.getElem?_eq_getElem (by rw [hxl]; simpa using hi)] at h1
      exact shp_of_trod fuel _ _ _ h1
    · rename_i n e ht
      unfold DataW.trod at h
      rw [ht] at h
      split at h <;> simp_all
      obtain ⟨hl, xs, hxs, -⟩ := h
      intro i hi
      obtain ⟨y, hy⟩ := mapM_mem hxs i (by simpa using hi)
      exact shp_of_trod fuel _ _ y hy
    · trivial

theorem shp_of_Trod {t : TypeId} {v : Value} {d : DataW H} {ps : List MemPlace} (h : DataW.Trod enc P w 0 (fun _ => true) held t v d ps) : ∃ fuel, Shp P w fuel t v.cells.toList := by
  obtain ⟨fuel, hf⟩ := h
  exact ⟨fuel, shp_of_trod fuel t _ _ hf⟩
end

/-! ### By kind -/
section
variable {P : Program} {w : World} {fuel : Nat} {t : TypeId} {cs : List Value}
theorem Shp.int {k : IntKind} (h : Shp P w fuel t cs) (ht : P.underlying t = some (.int k)) : ∃ n, cs = [.int k n] ∧ (Lit.int k n).wf = true := by
  cases fuel with
  | zero => exact h.elim
  | succ f => unfold Shp at h; rw [ht] at h; exact h
theorem Shp.bool (h : Shp P w fuel t cs) (ht : P.underlying t = some .bool) : ∃ b, cs = [.bool b] := by
  cases fuel with
  | zero => exact h.elim
  | succ f => unfold Shp at h; rw [ht] at h; exact h
theorem Shp.str (h : Shp P w fuel t cs) (ht : P.underlying t = some .string) : ∃ s : ByteArray, cs = [.string s] ∧ s.size ≤ maxLen := by
  cases fuel with
  | zero => exact h.elim
  | succ f => unfold Shp at h; rw [ht] at h; exact h
theorem Shp.slice {e : TypeId} {sz : Nat} (h : Shp P w fuel t cs) (ht : P.underlying t = some (.slice e)) (hs : P.cellsOf e = sz) (hp : 0 < sz) :
    ∃ f v n, ∃ rows : List (List Value), cs = [v] ∧ n ≤ maxLen ∧ rows.length = n ∧ (∀ r ∈ rows, r.length = sz ∧ Shp P w f e r) ∧ IsSl w sz v n rows.flatten := by
  cases fuel with
  | zero => exact h.elim
  | succ f => unfold Shp at h; rw [ht] at h; subst hs; exact ⟨f, h hp⟩
theorem Shp.struct {fs : Array Field} (h : Shp P w fuel t cs) (ht : P.underlying t = some (.struct fs)) :
    cs.length = P.cellsOf t ∧ ∃ f, ∀ fl ∈ fs.toList, Shp P w f fl.type ((cs.drop fl.offset).take (P.cellsOf fl.type)) := by
  cases fuel with
  | zero => exact h.elim
  | succ f => unfold Shp at h; rw [ht] at h; exact ⟨h.1, f, h.2⟩
theorem Shp.array {n : Nat} {e : TypeId} (h : Shp P w fuel t cs) (ht : P.underlying t = some (.array n e)) :
    cs.length = P.cellsOf t ∧ ∃ f, ∀ i, i < n → Shp P w f e ((cs.drop (i * P.cellsOf e)).take (P.cellsOf e)) := by
  cases fuel with
  | zero => exact h.elim
  | succ f => unfold Shp at h; rw [ht] at h; exact ⟨h.1, f, h.2⟩

theorem u8_cells {n : Int} (h : (Lit.int .u8 n).wf = true) : ∃ b : UInt8, n = (b.toNat : Int) := by
  have e1 : IntKind.u8.min = 0 := rfl
  have e2 : IntKind.u8.max = 255 := rfl
  simp only [Lit.wf, decide_eq_true_eq, Bool.and_eq_true, e1, e2] at h
  refine ⟨UInt8.ofNat n.toNat, ?_⟩
  rw [UInt8.toNat_ofNat']; omega
theorem bytes_of_rows {e : TypeId} {f : Nat} (he : P.underlying e = some (.int .u8)) : ∀ (rows : List (List Value)), (∀ r ∈ rows, r.length = 1 ∧ Shp P w f e r) → ∃ l : List UInt8, rows.flatten = bytesV l ∧ l.length = rows.length
  | [], _ => ⟨[], rfl, rfl⟩
  | r :: rest, h => by
    obtain ⟨l, h1, h2⟩ := bytes_of_rows he rest fun x hx => h x (by simp [hx])
    obtain ⟨n, rfl, hw⟩ := (h r (by simp)).2.int he
    obtain ⟨b, rfl⟩ := u8_cells hw
    exact ⟨b :: l, by simp [h1, bytesV], by simp [h2]⟩
theorem Shp.bytes {e : TypeId} (h : Shp P w fuel t cs) (ht : P.underlying t = some (.slice e)) (he : P.underlying e = some (.int .u8)) (hs : P.cellsOf e = 1) :
    ∃ v, ∃ l : List UInt8, cs = [v] ∧ l.length ≤ maxLen ∧ IsSl w 1 v l.length (bytesV l) := by
  obtain ⟨f, v, n, rows, rfl, hn, hl, hr, hsl⟩ := h.slice ht hs (by decide)
  obtain ⟨l, h1, h2⟩ := bytes_of_rows he rows hr
  rw [h1] at hsl
  exact ⟨v, l, rfl, by omega, by rw [h2, hl]; exact hsl⟩
end
end Go.Rn
