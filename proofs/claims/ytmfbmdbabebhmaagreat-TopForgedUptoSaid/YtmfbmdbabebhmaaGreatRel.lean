/- How the small language's values, variables and heap stand to the machine's; that this is kept when memory grows. Conditions: none. -/
import Derived.WalkKit
import Derived.Test.YtmfbmdbabebhmaaGreatMir
set_option linter.unusedVariables false
namespace Mir
open Go (Value Addr IntKind World Obj Act Program FuncId Tmp)

def ukind : Nat → Option IntKind
  | 8 => some .u8
  | 16 => some .u16
  | 32 => some .u32
  | 64 => some .u64
  | _ => none

/-- What a value's reading leans on: memory, the blocks that may be written, where the small heap's rows lie. -/
structure Cx where
  hp : Nat → Option Obj
  own : Nat → Prop
  loc : List (Nat × Nat)

def cellH (hp : Nat → Option Obj) (b o : Nat) : Option Value :=
  match hp b with
  | some (.cells c _ _) => c[o]?
  | _ => none

/-- How many cells a block has. -/
def bsize (hp : Nat → Option Obj) (b : Nat) : Nat :=
  match hp b with
  | some (.cells c _ _) => c.size
  | _ => 0

inductive VR (φ : Nat → Option FuncId) (c : Cx) : V → Value → Prop
  | i (n : Int) : -9223372036854775808 ≤ n → n < 9223372036854775808 → VR φ c (.i n) (.int .i64 n)
  | u (w n : Nat) (k : IntKind) : ukind w = some k → n < 2 ^ w → VR φ c (.u w n) (.int k n)
  | b (x : Bool) : VR φ c (.b x) (.bool x)
  | s (l : List Nat) (ba : ByteArray) : ba.data.toList.map UInt8.toNat = l → VR φ c (.s l) (.string ba)
  | agg (l : List V) (cs : Array Value) : l.length = cs.size → (∀ j (h : j < l.length) (h' : j < cs.size), VR φ c l[j] cs[j]) → VR φ c (.agg l) (.agg cs)
  | tup (l : List V) (cs : Array Value) : l.length = cs.size → (∀ j (h : j < l.length) (h' : j < cs.size), VR φ c l[j] cs[j]) → VR φ c (.tup l) (.tuple cs)
  | nilp : VR φ c .nilp (.pointer none)
  | vr (l : List V) (off b δ : Nat) (y : Nat → Value) : (l ≠ [] → ¬ c.own b) → (∀ j, j < l.length → cellH c.hp b (δ + j) = some (y j)) →
      (∀ j (h : j < l.length), VR φ c l[j] (y j)) → VR φ c (.vr l off) (.pointer (some ⟨b, δ + off, none⟩))
  | hp (k off b δ : Nat) : c.loc[k]? = some (b, δ) → VR φ c (.hp k off) (.pointer (some ⟨b, δ + off, none⟩))
  | nils : VR φ c .nils (.slice none 0 0)
  | vsn : VR φ c (.vs 0 []) (.slice none 0 0)
  | vs0 (a : Addr) (cap : Nat) : VR φ c (.vs 0 []) (.slice (some a) 0 cap)
  | vs (n : Nat) (l : List V) (b o cap : Nat) (y : Nat → Value) : n ≤ cap → (l ≠ [] → ¬ c.own b) → (∀ j, j < l.length → cellH c.hp b (o + j) = some (y j)) →
      (∀ j (h : j < l.length), VR φ c l[j] (y j)) → VR φ c (.vs n l) (.slice (some ⟨b, o, none⟩) n cap)
  | hs (sz k off len cap b δ cap' : Nat) (a : Addr) : c.loc[k]? = some (b, δ) → len ≤ cap → cap ≤ cap' → (0 < cap' → a = ⟨b, δ + off, none⟩ ∧ δ + off + cap' * sz ≤ bsize c.hp b) →
      VR φ c (.hs sz k off len cap) (.slice (some a) len cap')
  | fn (f F : Nat) (l m : List V) (xs ys : Array Value) : φ f = some F → l.length = xs.size → (∀ j (h : j < l.length) (h' : j < xs.size), VR φ c l[j] xs[j]) →
      m.length = ys.size → (∀ j (h : j < m.length) (h' : j < ys.size), VR φ c m[j] ys[j]) → VR φ c (.fn f l m) (.func (.func F) xs ys)
  | undef (x : Value) : VR φ c .undef x
  | nilf : VR φ c .nilf .nilFunc

def VRs (φ : Nat → Option FuncId) (c : Cx) (l : List V) (xs : List Value) : Prop :=
  l.length = xs.length ∧ ∀ j (h : j < l.length) (h' : j < xs.length), VR φ c l[j] xs[j]

/-- c' reads whatever c reads. -/
structure Cx.Le (c c' : Cx) : Prop where
  old : ∀ b, c.hp b ≠ none → ¬ c.own b → ¬ c'.own b ∧ c'.hp b = c.hp b
  loc : ∀ (k : Nat) (x : Nat × Nat), c.loc[k]? = some x → c'.loc[k]? = some x
  bs : ∀ b, bsize c.hp b ≤ bsize c'.hp b

theorem Cx.Le.refl (c : Cx) : c.Le c := ⟨fun _ _ h => ⟨h, rfl⟩, fun _ _ h => h, fun _ => Nat.le_refl _⟩
theorem Cx.Le.trans {a b c : Cx} (h : a.Le b) (k : b.Le c) : a.Le c :=
  ⟨fun x hx ho => by
    obtain ⟨h1, h2⟩ := h.old x hx ho
    obtain ⟨h3, h4⟩ := k.old x (by rw [h2]; exact hx) h1
    exact ⟨h3, h4.trans h2⟩, fun i x hx => k.loc i x (h.loc i x hx), fun x => Nat.le_trans (h.bs x) (k.bs x)⟩

theorem hp_of_cellH {hp : Nat → Option Obj} {b o : Nat} {v : Value} (h : cellH hp b o = some v) : hp b ≠ none := by
  intro e; simp [cellH, e] at h

theorem cellH_congr {hp hp' : Nat → Option Obj} {b o : Nat} (h : hp' b = hp b) : cellH hp' b o = cellH hp b o := by simp [cellH, h]

theorem VR.mono {φ : Nat → Option FuncId} {c c' : Cx} (hc : c.Le c') {v : V} {x : Value} (h : VR φ c v x) : VR φ c' v x := by
  have imm : ∀ (l : List V) (b o : Nat) (y : Nat → Value), (l ≠ [] → ¬ c.own b) → (∀ j, j < l.length → cellH c.hp b (o + j) = some (y j)) →
      (l ≠ [] → ¬ c'.own b) ∧ (∀ j, j < l.length → cellH c'.hp b (o + j) = some (y j)) := by
    intro l b o y h1 h2
    by_cases hl : l = []
    · subst hl; exact ⟨fun h => absurd rfl h, fun j hj => absurd hj (by simp)⟩
    · have hpos : 0 < l.length := List.length_pos_iff.2 hl
      obtain ⟨h3, h4⟩ := hc.old b (hp_of_cellH (h2 0 hpos)) (h1 hl)
      exact ⟨fun _ => h3, fun j hj => by rw [cellH_congr h4]; exact h2 j hj⟩
  induction h with
  | i n h1 h2 => exact .i n h1 h2
  | u w n k h1 h2 => exact .u w n k h1 h2
  | b x => exact .b x
  | s l ba h => exact .s l ba h
  | agg l cs h1 _ ih => exact .agg l cs h1 ih
  | tup l cs h1 _ ih => exact .tup l cs h1 ih
  | nilp => exact .nilp
  | vr l off b δ y h1 h2 _ ih => exact .vr l off b δ y (imm l b δ y h1 h2).1 (imm l b δ y h1 h2).2 ih
  | hp k off b δ h => exact .hp k off b δ (hc.loc _ _ h)
  | nils => exact .nils
  | vsn => exact .vsn
  | vs0 a cap => exact .vs0 a cap
  | vs n l b o cap y h0 h1 h2 _ ih => exact .vs n l b o cap y h0 (imm l b o y h1 h2).1 (imm l b o y h1 h2).2 ih
  | hs sz k off len cap b δ cap' a h h1 h2 h3 => exact .hs sz k off len cap b δ cap' a (hc.loc _ _ h) h1 h2 (fun h => ⟨(h3 h).1, Nat.le_trans (h3 h).2 (hc.bs b)⟩)
  | fn f F l m xs ys h1 h2 _ h3 _ ih1 ih2 => exact .fn f F l m xs ys h1 h2 ih1 h3 ih2
  | undef x => exact .undef x
  | nilf => exact .nilf

theorem VRs.mono {φ : Nat → Option FuncId} {c c' : Cx} (hc : c.Le c') {l : List V} {xs : List Value} (h : VRs φ c l xs) : VRs φ c' l xs :=
  ⟨h.1, fun j h1 h2 => (h.2 j h1 h2).mono hc⟩

theorem VR.flat {φ : Nat → Option FuncId} {c : Cx} (c' : Cx) {v : V} {x : Value} (h : VR φ c v x) (hn : Mir.flat v = true) : VR φ c' v x := by
  cases h <;> first
    | exact .i _ ‹_› ‹_›
    | exact .u _ _ _ ‹_› ‹_›
    | exact .b _
    | exact .s _ _ ‹_›
    | exact .nilp
    | exact .nils
    | (simp [Mir.flat] at hn; done)

theorem VR.flat1 {φ : Nat → Option FuncId} {c : Cx} (c' : Cx) {v : V} {x : Value} (h : VR φ c v x) (hn : Mir.flat1 v = true) : VR φ c' v x := by
  cases h with
  | agg l cs h1 h2 =>
    simp only [Mir.flat1, List.all_eq_true] at hn
    exact .agg l cs h1 fun j h h' => (h2 j h h').flat c' (hn _ (List.getElem_mem h))
  | i n h1 h2 => exact .i n h1 h2
  | u w n k h1 h2 => exact .u w n k h1 h2
  | b x => exact .b x
  | s l ba h => exact .s l ba h
  | nilp => exact .nilp
  | nils => exact .nils
  | _ => simp [Mir.flat1, Mir.flat] at hn

/-- A value without a pointer reads alike wherever it lies. -/
theorem VR.noPtr {φ : Nat → Option FuncId} {c : Cx} (c' : Cx) {v : V} {x : Value} (h : VR φ c v x) (hn : Mir.noPtr v = true) : VR φ c' v x := by
  cases h with
  | tup l cs h1 h2 =>
    simp only [Mir.noPtr, List.all_eq_true] at hn
    exact .tup l cs h1 fun j h h' => (h2 j h h').flat1 c' (hn _ (List.getElem_mem h))
  | agg l cs h1 h2 => exact (VR.agg l cs h1 h2).flat1 c' hn
  | i n h1 h2 => exact .i n h1 h2
  | u w n k h1 h2 => exact .u w n k h1 h2
  | b x => exact .b x
  | s l ba h => exact .s l ba h
  | nilp => exact .nilp
  | nils => exact .nils
  | _ => simp [Mir.noPtr, Mir.flat1, Mir.flat] at hn

/- ## The heap -/

def CxOf (w : World) (O : Nat → Prop) (loc : List (Nat × Nat)) : Cx := ⟨fun b => w.heap[b]?, O, loc⟩

/-- A block whose cells are, from δ on, a row's (maybe with more behind). -/
structure RowAt (φ : Nat → Option FuncId) (c : Cx) (l : List V) (b δ : Nat) (cs : Array Value) (T : Nat) (fz : Nat × Nat) : Prop where
  block : c.hp b = some (.cells cs T fz)
  room : δ + l.length ≤ cs.size
  cell : ∀ j (h : j < l.length) (h' : δ + j < cs.size), VR φ c l[j] cs[δ + j]
  free : ∀ j, j < cs.size → ¬ (fz.1 ≤ j ∧ j < fz.2)

structure HR (φ : Nat → Option FuncId) (H : Heap) (c : Cx) : Prop where
  len : H.length = c.loc.length
  rows : ∀ (k : Nat) (l : List V), row H k = some l → ∃ b δ cs T fz, c.loc[k]? = some (b, δ) ∧ c.own b ∧ RowAt φ c l b δ cs T fz
  apart : ∀ (k k' : Nat) (l l' : List V) (b δ δ' : Nat), row H k = some l → row H k' = some l' → c.loc[k]? = some (b, δ) → c.loc[k']? = some (b, δ') → k = k'

end Mir
