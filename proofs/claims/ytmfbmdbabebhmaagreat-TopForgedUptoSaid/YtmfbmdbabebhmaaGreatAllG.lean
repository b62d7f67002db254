/- One module of several texts (GrA GrB GrC GrD GrE GrF GrG GrH GrI GrJ). Conditions: none. -/
import Derived.Test.YtmfbmdbabebhmaaGreatAllT
import Derived.Test.YtmfbmdbabebhmaaGreatAllF
import Derived.KernelRfl
import Derived.Test.YtmfbmdbabebhmaaGreatAllM
set_option linter.unusedVariables false
set_option linter.unusedSectionVars false
set_option linter.unusedSimpArgs false
set_option exponentiation.threshold 5000
set_option maxRecDepth 100000
set_option maxRecDepth 20000
namespace Mir
section
variable {p : Nat} [NeZero p]

/-- Functions of a number that are polynomials of a degree. -/
inductive Pd : Nat → (Fin p → Fin p) → Prop
  | c (d : Nat) (z : Fin p) : Pd d (fun _ => z)
  | i (d : Nat) : Pd (d + 1) (fun x => x)
  | add {d : Nat} {f g : Fin p → Fin p} : Pd d f → Pd d g → Pd d (fun x => f x + g x)
  | mul {d e : Nat} {f g : Fin p → Fin p} : Pd d f → Pd e g → Pd (d + e) (fun x => f x * g x)
  | up {d e : Nat} {f : Fin p → Fin p} : Pd d f → d ≤ e → Pd e f

theorem Pd.div {d : Nat} {f : Fin p → Fin p} (h : Pd d f) (r : Fin p) : ∃ g, (∀ x, f x - f r = (x - r) * g x) ∧ (d = 0 → ∀ x, g x = 0) ∧ Pd (d - 1) g := by
  induction h with
  | c d z => exact ⟨fun _ => 0, fun x => by grind, fun _ _ => rfl, .c _ _⟩
  | i d => exact ⟨fun _ => 1, fun x => by grind, fun h => by omega, .c _ _⟩
  | add _ _ ih1 ih2 =>
    obtain ⟨g1, a1, b1, c1⟩ := ih1
    obtain ⟨g2, a2, b2, c2⟩ := ih2
    refine ⟨fun x => g1 x + g2 x, fun x => ?_, fun h x => ?_, .add c1 c2⟩
    · have := a1 x
      have := a2 x
      grind
    · dsimp only; rw [b1 h, b2 h]; grind
  | @mul d e f g hf hg ih1 ih2 =>
    obtain ⟨g1, a1, b1, c1⟩ := ih1
    obtain ⟨g2, a2, b2, c2⟩ := ih2
    refine ⟨fun x => g1 x * g x + f r * g2 x, fun x => ?_, fun h x => ?_, .add ?_ ?_⟩
    · have := a1 x
      have := a2 x
      grind
    · dsimp only; rw [b1 (by omega), b2 (by omega)]; grind
    · rcases Nat.eq_zero_or_pos d with h | h
      · have : (fun x => g1 x * g x) = fun _ => 0 := by funext x; rw [b1 h]; grind
        rw [this]; exact .c _ _
      · exact (c1.mul hg).up (by omega)
    · rcases Nat.eq_zero_or_pos e with h | h
      · have : (fun x => f r * g2 x) = fun _ => 0 := by funext x; rw [b2 h]; grind
        rw [this]; exact .c _ _
      · exact (Pd.mul (.c 0 (f r)) c2).up (by omega)
  | up _ hle ih =>
    obtain ⟨g1, a1, b1, c1⟩ := ih
    exact ⟨g1, a1, fun h => b1 (by omega), c1.up (by omega)⟩

/-- No product of two numbers is 0 but by one of them. -/
def Nz (p : Nat) [NeZero p] : Prop := ∀ a b : Fin p, a * b = 0 → a = 0 ∨ b = 0

theorem Pd.zero (hz : Nz p) : ∀ (d : Nat) (f : Fin p → Fin p), Pd d f → ∀ l : List (Fin p), l.Nodup → d + 1 ≤ l.length → (∀ r ∈ l, f r = 0) → ∀ x, f x = 0
  | d, f, _, [], _, h, _, _ => by simp at h
  | 0, f, hf, r :: l, _, _, h, x => by
    obtain ⟨g, a, b, _⟩ := hf.div r
    have h1 := a x
    rw [b rfl, h r (by simp)] at h1
    grind
  | d + 1, f, hf, r :: l, hn, hl, h, x => by
    obtain ⟨g, a, _, c⟩ := hf.div r
    have fr := h r (by simp)
    obtain ⟨hn1, hn2⟩ := List.nodup_cons.1 hn
    have hg := Pd.zero hz d g c l hn2 (by simp at hl; omega) (fun s hs => by
      have h1 := a s
      rw [fr, h s (by simp [hs])] at h1
      rcases hz _ _ (show (s - r) * g s = 0 by grind) with h2 | h2
      · exact absurd (show s = r by grind) (fun e => hn1 (e ▸ hs))
      · exact h2) x
    have h1 := a x
    rw [fr, hg] at h1
    grind

variable (a b : Fin p)
/-- Is (x, y) on the curve? -/
def onF (x y : Fin p) : Prop := y * y = x * x * x + a * x + b
/-- Functions on a curve, of a pole of order n at most at infinity. -/
def InL (n : Nat) (f : Fin p → Fin p → Fin p) : Prop :=
  ∃ u v, Pd (n / 2) u ∧ Pd ((n - 3) / 2) v ∧ (n < 3 → ∀ x, v x = 0) ∧ ∀ x y, onF a b x y → f x y = u x + v x * y
variable {a b}
theorem InL.c (n : Nat) (z : Fin p) : InL a b n (fun _ _ => z) := ⟨fun _ => z, fun _ => 0, .c _ _, .c _ _, fun _ _ => rfl, fun x y _ => by grind⟩
theorem InL.x {n : Nat} (h : 2 ≤ n) : InL a b n (fun x _ => x) := ⟨fun x => x, fun _ => 0, (Pd.i 0).up (by omega), .c _ _, fun _ _ => rfl, fun x y _ => by grind⟩
theorem InL.y {n : Nat} (h : 3 ≤ n) : InL a b n (fun _ y => y) := ⟨fun _ => 0, fun _ => 1, .c _ _, .c _ _, fun h => by omega, fun x y _ => by grind⟩
theorem InL.up {n m : Nat} {f : Fin p → Fin p → Fin p} (h : InL a b n f) (hm : n ≤ m) : InL a b m f := by
  obtain ⟨u, v, h1, h2, h3, h4⟩ := h
  exact ⟨u, v, h1.up (by omega), h2.up (by omega), fun h => h3 (by omega), h4⟩
theorem InL.add {n : Nat} {f g : Fin p → Fin p → Fin p} (hf : InL a b n f) (hg : InL a b n g) : InL a b n (fun x y => f x y + g x y) := by
  obtain ⟨u, v, h1, h2, h3, h4⟩ := hf
  obtain ⟨u', v', k1, k2, k3, k4⟩ := hg
  exact ⟨fun x => u x + u' x, fun x => v x + v' x, h1.add k1, h2.add k2, fun h x => by dsimp only; rw [h3 h, k3 h]; grind, fun x y h => by dsimp only; rw [h4 x y h, k4 x y h]; grind⟩
theorem InL.mul {n m k : Nat} {f g : Fin p → Fin p → Fin p} (hf : InL a b n f) (hg : InL a b m g) (hk : n + m ≤ k) : InL a b k (fun x y => f x y * g x y) := by
  obtain ⟨u, v, h1, h2, h3, h4⟩ := hf
  obtain ⟨u', v', k1, k2, k3, k4⟩ := hg
  have F : Pd (p := p) 3 (fun x => x * x * x + a * x + b) := .add (.add (((Pd.i 0).mul (.i 0)).mul (.i 0)) ((Pd.mul (.c 0 a) (.i 0)).up (by omega))) (.c _ _)
  refine ⟨fun x => u x * u' x + v x * v' x * (x * x * x + a * x + b), fun x => u x * v' x + v x * u' x, .add ((h1.mul k1).up (by omega)) ?_, .add ?_ ?_, fun h x => ?_, fun x y h => ?_⟩
  · rcases Nat.lt_or_ge n 3 with h | h
    · have : (fun x => v x * v' x * (x * x * x + a * x + b)) = fun _ => 0 := by funext x; rw [h3 h]; grind
      rw [this]; exact .c _ _
    rcases Nat.lt_or_ge m 3 with h' | h'
    · have : (fun x => v x * v' x * (x * x * x + a * x + b)) = fun _ => 0 := by funext x; rw [k3 h']; grind
      rw [this]; exact .c _ _
    exact ((h2.mul k2).mul F).up (by omega)
  · rcases Nat.lt_or_ge m 3 with h' | h'
    · have : (fun x => u x * v' x) = fun _ => 0 := by funext x; rw [k3 h']; grind
      rw [this]; exact .c _ _
    exact (h1.mul k2).up (by omega)
  · rcases Nat.lt_or_ge n 3 with h' | h'
    · have : (fun x => v x * u' x) = fun _ => 0 := by funext x; rw [h3 h']; grind
      rw [this]; exact .c _ _
    exact (h2.mul k1).up (by omega)
  · dsimp only; rw [h3 (by omega), k3 (by omega)]; grind
  · dsimp only; rw [h4 x y h, k4 x y h]
    unfold onF at h
    grind
theorem InL.sub {n : Nat} {f g : Fin p → Fin p → Fin p} (hf : InL a b n f) (hg : InL a b n g) : InL a b n (fun x y => f x y - g x y) := by
  have h := hf.add ((InL.c (a := a) (b := b) 0 (-1)).mul hg (k := n) (by omega))
  have e : (fun x y => f x y + -1 * g x y) = fun x y => f x y - g x y := by funext x y; grind
  rw [e] at h
  exact h

/-- Zero at enough points and their opposites: zero everywhere. -/
theorem InL.zero (hz : Nz p) {n : Nat} {f : Fin p → Fin p → Fin p} (hf : InL a b n f) {l : List (Fin p × Fin p)} (hn : (l.map Prod.fst).Nodup) (hl : n / 2 + 1 ≤ l.length)
    (h : ∀ q ∈ l, onF a b q.1 q.2 ∧ q.2 + q.2 ≠ 0 ∧ f q.1 q.2 = 0 ∧ f q.1 (-q.2) = 0) (h2 : (2 : Fin p) ≠ 0) {x y : Fin p} (hxy : onF a b x y) : f x y = 0 := by
  obtain ⟨u, v, h1, k1, _, h4⟩ := hf
  have key : ∀ q ∈ l, u q.1 = 0 ∧ v q.1 = 0 := by
    intro q hq
    obtain ⟨o, y0, f1, f2⟩ := h q hq
    have o' : onF a b q.1 (-q.2) := by unfold onF at o ⊢; grind
    have e1 := h4 _ _ o
    have e2 := h4 _ _ o'
    rw [f1] at e1
    rw [f2] at e2
    have e3 : 2 * u q.1 = 0 := by grind
    have e4 : v q.1 * (q.2 + q.2) = 0 := by grind
    exact ⟨(hz _ _ e3).resolve_left h2, (hz _ _ e4).resolve_right y0⟩
  have ku := Pd.zero hz _ u h1 (l.map Prod.fst) hn (by simpa using hl) (fun r hr => by
    obtain ⟨q, hq, rfl⟩ := List.mem_map.1 hr
    exact (key q hq).1) x
  have kv := Pd.zero hz _ v k1 (l.map Prod.fst) hn (by simp; omega) (fun r hr => by
    obtain ⟨q, hq, rfl⟩ := List.mem_map.1 hr
    exact (key q hq).2) x
  rw [h4 x y hxy, ku, kv]
  grind
end
end Mir

namespace Mir

structure T3 (p : Nat) where
  x : Fin p
  y : Fin p
  z : Fin p
theorem T3.ext3 {p : Nat} {s t : T3 p} (h1 : s.x = t.x) (h2 : s.y = t.y) (h3 : s.z = t.z) : s = t := by
  cases s; cases t; simp only at *; rw [h1, h2, h3]

section
variable {p : Nat} [NeZero p]
def sm (a b : Fin p) (s t : T3 p) : T3 p :=
  ⟨(s.x * t.y + t.x * s.y) * (s.y * t.y - (b * (s.z * t.z) + a * (s.x * t.z + t.x * s.z))) - (s.y * t.z + t.y * s.z) * (b * (s.x * t.z + t.x * s.z) + a * (s.x * t.x - a * (s.z * t.z))),
   (s.y * t.y - (b * (s.z * t.z) + a * (s.x * t.z + t.x * s.z))) * (s.y * t.y + (b * (s.z * t.z) + a * (s.x * t.z + t.x * s.z))) + (s.x * t.x + s.x * t.x + s.x * t.x + a * (s.z * t.z)) * (b * (s.x * t.z + t.x * s.z) + a * (s.x * t.x - a * (s.z * t.z))),
   (s.y * t.z + t.y * s.z) * (s.y * t.y + (b * (s.z * t.z) + a * (s.x * t.z + t.x * s.z))) + (s.x * t.y + t.x * s.y) * (s.x * t.x + s.x * t.x + s.x * t.x + a * (s.z * t.z))⟩
def ml (l : Fin p) (t : T3 p) : T3 p := ⟨l * t.x, l * t.y, l * t.z⟩
def T3.inf : T3 p := ⟨0, 1, 0⟩
def T3.neg (t : T3 p) : T3 p := ⟨t.x, -t.y, t.z⟩
variable (a b : Fin p)
theorem sm_comm (s t : T3 p) : sm a b s t = sm a b t s := by
  apply T3.ext3 <;> simp only [sm] <;> grind
theorem sm_ml (l m : Fin p) (s t : T3 p) : sm a b (ml l s) (ml m t) = ml (l * l * m * m) (sm a b s t) := by
  apply T3.ext3 <;> simp only [sm, ml] <;> grind
theorem sm_inf (s : T3 p) : sm a b s .inf = ml s.y s := by
  apply T3.ext3 <;> simp only [sm, ml, T3.inf] <;> grind

/- ## Numbers -/
def cf (n : Nat) : Fin p := Fin.ofNat p n
theorem cf_val (n : Nat) : (cf n : Fin p).val = n % p := rfl
theorem cf_eq {m n : Nat} : (cf m : Fin p) = cf n ↔ m % p = n % p := by
  constructor
  · intro h; have := congrArg Fin.val h; exact this
  · intro h; exact Fin.ext h
theorem cf_add (x y : Nat) : (cf ((x + y) % p) : Fin p) = cf x + cf y := by
  apply Fin.ext
  rw [Fin.val_add, cf_val, cf_val, cf_val, Nat.mod_mod, Nat.add_mod]
theorem cf_mul (x y : Nat) : (cf (x * y % p) : Fin p) = cf x * cf y := by
  apply Fin.ext
  rw [Fin.val_mul, cf_val, cf_val, cf_val, Nat.mod_mod, Nat.mul_mod]
theorem cf_mod (x : Nat) : (cf (x % p) : Fin p) = cf x := cf_eq.2 (Nat.mod_mod _ _)
theorem pos : 0 < p := Nat.pos_of_ne_zero (NeZero.ne p)
theorem cf_sub (x y : Nat) (h : y ≤ p) : (cf ((x + p - y) % p) : Fin p) = cf x - cf y := by
  have e : (cf ((x + p - y) % p) : Fin p) + cf y = cf x := by
    rw [← cf_add, Nat.mod_add_mod, show x + p - y + y = x + p by omega, Nat.add_mod_right, cf_mod]
  grind
theorem cf_subm (x y : Nat) : (cf ((x + p - y % p) % p) : Fin p) = cf x - cf (y % p) := cf_sub x _ (Nat.le_of_lt (Nat.mod_lt _ pos))
theorem cf_0 : (cf 0 : Fin p) = 0 := rfl
theorem cf_of (x : Fin p) : cf x.val = x := Fin.ext (Nat.mod_eq_of_lt x.isLt)
def ct (t : P3) : T3 p := ⟨cf t.x, cf t.y, cf t.z⟩
theorem ct_sum (a b : Nat) (s t : P3) : (ct (sumN p a b s t) : T3 p) = sm (cf a) (cf b) (ct s) (ct t) := by
  apply T3.ext3 <;> simp only [sumN, ct, sm, cf_add, cf_mul, cf_subm] <;> grind

/- ## Families of triples -/
variable {a b}
structure InT (A B : Fin p) (n : Nat) (f : Fin p → Fin p → T3 p) : Prop where
  x : InL A B n (fun x y => (f x y).x)
  y : InL A B n (fun x y => (f x y).y)
  z : InL A B n (fun x y => (f x y).z)
theorem InT.c {A B : Fin p} (n : Nat) (t : T3 p) : InT A B n (fun _ _ => t) := ⟨.c _ _, .c _ _, .c _ _⟩
theorem InT.pt {A B : Fin p} : InT A B 3 (fun x y => (⟨x, y, 1⟩ : T3 p)) := ⟨.x (by omega), .y (by omega), .c _ _⟩
theorem InT.sm {A B a b : Fin p} {n m : Nat} {f g : Fin p → Fin p → T3 p} (hf : InT A B n f) (hg : InT A B m g) : InT A B (n + m + (n + m)) (fun x y => Mir.sm a b (f x y) (g x y)) := by
  have mu : ∀ {f g : Fin p → Fin p → Fin p}, InL A B n f → InL A B m g → InL A B (n + m) (fun x y => f x y * g x y) := fun h1 h2 => h1.mul h2 (Nat.le_refl _)
  have mu' : ∀ {f g : Fin p → Fin p → Fin p}, InL A B m f → InL A B n g → InL A B (n + m) (fun x y => f x y * g x y) := fun h1 h2 => h1.mul h2 (by omega)
  have cm : ∀ (c : Fin p) {f : Fin p → Fin p → Fin p}, InL A B (n + m) f → InL A B (n + m) (fun x y => c * f x y) := fun c _ h => (InL.c 0 c).mul h (by omega)
  have m2 : ∀ {f g : Fin p → Fin p → Fin p}, InL A B (n + m) f → InL A B (n + m) g → InL A B (n + m + (n + m)) (fun x y => f x y * g x y) := fun h1 h2 => h1.mul h2 (Nat.le_refl _)
  have zz := mu hf.z hg.z
  have xx := mu hf.x hg.x
  have yy := mu hf.y hg.y
  have xz := (mu hf.x hg.z).add (mu' hg.x hf.z)
  have xy := (mu hf.x hg.y).add (mu' hg.x hf.y)
  have yz := (mu hf.y hg.z).add (mu' hg.y hf.z)
  have e1 := (cm b zz).add (cm a xz)
  have e2 := (cm b xz).add (cm a (xx.sub (cm a zz)))
  have e3 := ((xx.add xx).add xx).add (cm a zz)
  exact ⟨(m2 xy (yy.sub e1)).sub (m2 yz e2), (m2 (yy.sub e1) (yy.add e1)).add (m2 e3 e2), (m2 yz (yy.add e1)).add (m2 xy e3)⟩
theorem InT.up {A B : Fin p} {n m : Nat} {f : Fin p → Fin p → T3 p} (h : InT A B n f) (hm : n ≤ m) : InT A B m f := ⟨h.x.up hm, h.y.up hm, h.z.up hm⟩
end
end Mir

namespace Mir

def on3N (p a b : Nat) (t : P3) : Bool := Nat.beq (t.y * t.y % p * t.z % p) (((t.x * t.x % p * t.x % p + a * t.x % p * t.z % p * t.z % p) % p + b * (t.z * t.z % p * t.z % p) % p) % p)
def crossN (p : Nat) (s t : P3) : Bool := Nat.beq (s.x * t.y % p) (t.x * s.y % p) && Nat.beq (s.x * t.z % p) (t.x * s.z % p) && Nat.beq (s.y * t.z % p) (t.y * s.z % p)
def negN (p : Nat) (t : P3) : P3 := ⟨t.x, (p - t.y) % p, t.z⟩
def affN (p : Nat) (t : P3) : P3 := ⟨t.x * pmF t.z p 576 (p - 2) % p, t.y * pmF t.z p 576 (p - 2) % p, 1⟩
def gl (k : Nat) : List P3 := (List.range 13).map fun i => affN (crP k) (atN (sumK k) (crG k).tri (i + 1))
def pt3B (p a b : Nat) (t : P3) : Bool := Nat.ble (t.x + 1) p && Nat.ble (t.y + 1) p && Nat.beq (t.y * t.y % p) (rightN p a b t.x) && !Nat.beq t.y 0 && Nat.beq t.z 1
def chk1 (p a b c : Nat) (g q r : P3) : Bool := on3N p a b (sumN p a c q r) && crossN p (sumN p a c (sumN p a c q r) g) (sumN p a c q (sumN p a c r g))
def chk4 (p a b c : Nat) (g q r : P3) : Bool := chk1 p a b c g q r && chk1 p a b c g q (negN p r) && chk1 p a b c g (negN p q) r && chk1 p a b c g (negN p q) (negN p r)
def ndB : List Nat → Bool
  | [] => true
  | x :: l => l.all (fun y => !Nat.beq x y) && ndB l
def gridL (p a b c : Nat) (g : P3) (l : List P3) : Bool := l.all (pt3B p a b) && ndB (l.map P3.x) && l.all fun q => l.all fun r => chk4 p a b c g q r
def gridB (k : Nat) : Bool := gridL (crP k) (crA k) (crB k) (crT k) (crG k).tri (gl k)
end Mir

namespace Mir

section
variable {p : Nat} [NeZero p] {a b gx gy : Fin p}
theorem third {x1 y1 x2 y2 : Fin p} (o1 : y1 * y1 = x1 * x1 * x1 + a * x1 + b) (o2 : y2 * y2 = x2 * x2 * x2 + a * x2 + b) : ((y1+y2) * ((2*x1+x2)*((x1-x2)*(x1-x2)) - (y1+y2)*(y1+y2)) - y1*((x1-x2)*(x1-x2)*(x1-x2))) * ((y1+y2) * ((2*x1+x2)*((x1-x2)*(x1-x2)) - (y1+y2)*(y1+y2)) - y1*((x1-x2)*(x1-x2)*(x1-x2))) = ((y1+y2) * (y1+y2) - (x1+x2)*((x1-x2)*(x1-x2)))*((y1+y2) * (y1+y2) - (x1+x2)*((x1-x2)*(x1-x2)))*((y1+y2) * (y1+y2) - (x1+x2)*((x1-x2)*(x1-x2))) + a*((y1+y2) * (y1+y2) - (x1+x2)*((x1-x2)*(x1-x2)))*((x1-x2)*(x1-x2)*(x1-x2)*(x1-x2)) + b*((x1-x2)*(x1-x2)*(x1-x2)*(x1-x2)*(x1-x2)*(x1-x2)) := by grind
abbrev S3 (a b : Fin p) (s t : T3 p) : T3 p := sm a (3 * b) s t
/-- On the curve, as triples go. -/
def Hm (a b : Fin p) (s : T3 p) : Prop := s.y * s.y * s.z = s.x * s.x * s.x + a * s.x * s.z * s.z + b * s.z * s.z * s.z
def Cr (s t : T3 p) : Prop := s.x * t.y = t.x * s.y ∧ s.x * t.z = t.x * s.z ∧ s.y * t.z = t.y * s.z
structure Grp (a b gx gy : Fin p) : Prop where
  inv : ∀ l : Fin p, l ≠ 0 → ∃ m, m * l = 1
  two : (2 : Fin p) ≠ 0
  root : ∀ x : Fin p, x * x * x + a * x + b ≠ 0
  g : onF a b gx gy
  cl : ∀ x1 y1 x2 y2, onF a b x1 y1 → onF a b x2 y2 → Hm a b (S3 a b ⟨x1, y1, 1⟩ ⟨x2, y2, 1⟩)
  as : ∀ x1 y1 x2 y2, onF a b x1 y1 → onF a b x2 y2 → Cr (S3 a b (S3 a b ⟨x1, y1, 1⟩ ⟨x2, y2, 1⟩) ⟨gx, gy, 1⟩) (S3 a b ⟨x1, y1, 1⟩ (S3 a b ⟨x2, y2, 1⟩ ⟨gx, gy, 1⟩))
def Lk (s t : T3 p) : Prop := ∃ l : Fin p, l ≠ 0 ∧ s = ml l t
/-- A point's own triple. -/
def Can (a b : Fin p) (t : T3 p) : Prop := t = .inf ∨ ∃ x y, onF a b x y ∧ t = ⟨x, y, 1⟩

section
variable (h : Grp a b gx gy)
include h
theorem Grp.nz {x y : Fin p} (e : x * y = 0) : x = 0 ∨ y = 0 := by
  by_cases hx : x = 0
  · exact .inl hx
  · obtain ⟨m, hm⟩ := h.inv x hx
    right
    have : m * (x * y) = 0 := by rw [e]; grind
    grind
theorem Grp.mul_ne {x y : Fin p} (hx : x ≠ 0) (hy : y ≠ 0) : x * y ≠ 0 := fun e => (h.nz e).elim hx hy
theorem Grp.one_ne : (1 : Fin p) ≠ 0 := fun e => h.two (by grind)
theorem Grp.y_ne {x y : Fin p} (o : onF a b x y) : y ≠ 0 := fun e => by
  subst e
  unfold onF at o
  exact h.root x (by grind)

theorem Lk.refl (s : T3 p) : Lk s s := ⟨1, h.one_ne, by apply T3.ext3 <;> simp only [ml] <;> grind⟩
theorem Lk.symm {s t : T3 p} (e : Lk s t) : Lk t s := by
  obtain ⟨l, hl, rfl⟩ := e
  obtain ⟨m, hm⟩ := h.inv l hl
  refine ⟨m, fun e => h.one_ne (by rw [← hm, e]; grind), ?_⟩
  apply T3.ext3 <;> simp only [ml] <;> grind
theorem Lk.trans {s t u : T3 p} (e : Lk s t) (f : Lk t u) : Lk s u := by
  obtain ⟨l, hl, rfl⟩ := e
  obtain ⟨m, hm, rfl⟩ := f
  refine ⟨l * m, h.mul_ne hl hm, ?_⟩
  apply T3.ext3 <;> simp only [ml] <;> grind
theorem Lk.sum {s t s' t' : T3 p} (e : Lk s s') (f : Lk t t') : Lk (S3 a b s t) (S3 a b s' t') := by
  obtain ⟨l, hl, rfl⟩ := e
  obtain ⟨m, hm, rfl⟩ := f
  exact ⟨l * l * m * m, h.mul_ne (h.mul_ne (h.mul_ne hl hl) hm) hm, sm_ml ..⟩
theorem Can.y {t : T3 p} (c : Can a b t) : t.y ≠ 0 := by
  rcases c with rfl | ⟨x, y, o, rfl⟩
  · exact h.one_ne
  · exact h.y_ne o
theorem can_cr {s t : T3 p} (c : Can a b s) (d : Can a b t) (e : Cr s t) : s = t := by
  obtain ⟨e1, e2, e3⟩ := e
  have o := h.one_ne
  rcases c with rfl | ⟨x, y, o1, rfl⟩ <;> rcases d with rfl | ⟨x', y', o2, rfl⟩
  · rfl
  · simp only [T3.inf] at e3
    exact absurd (show (1 : Fin p) = 0 by grind) o
  · simp only [T3.inf] at e3
    exact absurd (show (1 : Fin p) = 0 by grind) o
  · simp only at e2 e3
    apply T3.ext3 <;> simp only <;> grind
theorem can_uniq {s t t' : T3 p} (c : Can a b t) (d : Can a b t') (e : Lk s t) (f : Lk s t') : t = t' := by
  obtain ⟨l, hl, hs⟩ := (e.symm h).trans h f
  refine can_cr h c d ?_
  subst hs
  simp only [Cr, ml]
  refine ⟨?_, ?_, ?_⟩ <;> grind

theorem sum_ne {x1 y1 x2 y2 : Fin p} (o1 : onF a b x1 y1) (o2 : onF a b x2 y2) : ¬ ((S3 a b ⟨x1, y1, 1⟩ ⟨x2, y2, 1⟩).y = 0 ∧ (S3 a b ⟨x1, y1, 1⟩ ⟨x2, y2, 1⟩).z = 0) := by
  rintro ⟨ey, ez⟩
  have ny := h.y_ne o1
  have n2 := h.two
  unfold onF at o1 o2
  by_cases hd : x1 = x2
  · subst hd
    have e0 : (y1 - y2) * (y1 + y2) = 0 := by grind
    rcases h.nz e0 with e | e
    · have : y2 = y1 := by grind
      subst this
      have e1 : (S3 a b ⟨x1, y2, 1⟩ ⟨x1, y2, 1⟩).z = 2 * (2 * (2 * (y2 * (y2 * y2)))) := by simp only [S3, sm]; grind
      rw [ez] at e1
      exact h.mul_ne n2 (h.mul_ne n2 (h.mul_ne n2 (h.mul_ne ny (h.mul_ne ny ny)))) e1.symm
    · have : y2 = -y1 := by grind
      subst this
      have e1 : (S3 a b ⟨x1, y1, 1⟩ ⟨x1, -y1, 1⟩).y = ((3*x1*x1+a) * (12 * x1 * y1 * y1 - (3*x1*x1+a)*(3*x1*x1+a)) - 8*y1*y1*y1*y1) := by simp only [S3, sm]; grind
      rw [ey] at e1
      obtain ⟨n, hn⟩ : ∃ n, n = (3*x1*x1+a)*(3*x1*x1+a) - 8 * x1 * y1 * y1 := ⟨_, rfl⟩
      obtain ⟨w, hw⟩ : ∃ w, w = (3*x1*x1+a) * (12 * x1 * y1 * y1 - (3*x1*x1+a)*(3*x1*x1+a)) - 8*y1*y1*y1*y1 := ⟨_, rfl⟩
      have e2 : w * w = n*n*n + a * n * (16 * y1*y1*y1*y1) + b * (64 * y1*y1*y1*y1*y1*y1) := by grind
      rw [← hw] at e1
      rw [← e1] at e2
      obtain ⟨v, hv⟩ := h.inv (2 * (2 * (y1 * y1))) (h.mul_ne n2 (h.mul_ne n2 (h.mul_ne ny ny)))
      clear hn hw e1 ey ez o1 o2 e0
      refine h.root (n * v) ?_
      have e3 : v * v * v * (n*n*n + a * n * (16 * y1*y1*y1*y1) + b * (64 * y1*y1*y1*y1*y1*y1)) = n * v * (n * v) * (n * v) + a * (n * v) * (v * (2 * (2 * (y1 * y1)))) * (v * (2 * (2 * (y1 * y1)))) + b * (v * (2 * (2 * (y1 * y1)))) * (v * (2 * (2 * (y1 * y1)))) * (v * (2 * (2 * (y1 * y1)))) := by grind
      rw [← e2, hv] at e3
      grind
  · have nd : x1 - x2 ≠ 0 := fun e => hd (by grind)
    have e1 : (S3 a b ⟨x1,y1,1⟩ ⟨x2,y2,1⟩).z = 0 - ((y1+y2) * ((2*x1+x2)*((x1-x2)*(x1-x2)) - (y1+y2)*(y1+y2)) - y1 * ((x1-x2)*(x1-x2)*(x1-x2))) := by simp only [S3, sm]; grind
    rw [ez] at e1
    have e2 := third o1 o2
    obtain ⟨w, hw⟩ : ∃ w, (y1+y2) * ((2*x1+x2)*((x1-x2)*(x1-x2)) - (y1+y2)*(y1+y2)) - y1 * ((x1-x2)*(x1-x2)*(x1-x2)) = w := ⟨_, rfl⟩
    obtain ⟨n, hn⟩ : ∃ n, (y1+y2) * (y1+y2) - (x1+x2)*((x1-x2)*(x1-x2)) = n := ⟨_, rfl⟩
    rw [hw] at e1 e2
    rw [hn] at e2
    have w0 : w = 0 := by grind
    subst w0
    obtain ⟨d, hde⟩ : ∃ d, x1 - x2 = d := ⟨_, rfl⟩
    rw [hde] at e2 nd
    obtain ⟨v, hv⟩ := h.inv (d * d) (h.mul_ne nd nd)
    clear hn hw e1 ey ez o1 o2 hde
    refine h.root (n * v) ?_
    have e3 : v * v * v * (n * n * n + a * n * (d * d * d * d) + b * (d * d * d * d * d * d)) = n * v * (n * v) * (n * v) + a * (n * v) * (v * (d * d)) * (v * (d * d)) + b * (v * (d * d)) * (v * (d * d)) * (v * (d * d)) := by grind
    rw [← e2, hv] at e3
    grind

/-- A triple on the curve is a point's. -/
theorem can_ex {s : T3 p} (hs : Hm a b s) (hn : ¬ (s.y = 0 ∧ s.z = 0)) : ∃ u, Can a b u ∧ Lk s u := by
  unfold Hm at hs
  by_cases hz : s.z = 0
  · have hx : s.x = 0 := by
      have : s.x * (s.x * s.x) = 0 := by rw [hz] at hs; grind
      rcases h.nz this with e | e
      · exact e
      · exact (h.nz e).elim id id
    refine ⟨.inf, .inl rfl, s.y, fun e => hn ⟨e, hz⟩, ?_⟩
    apply T3.ext3 <;> simp only [ml, T3.inf] <;> grind
  · obtain ⟨w, hw⟩ := h.inv s.z hz
    refine ⟨⟨s.x * w, s.y * w, 1⟩, .inr ⟨_, _, ?_, rfl⟩, s.z, hz, ?_⟩
    · unfold onF
      have e : w * w * w * (s.y * s.y * s.z) = w * w * w * (s.x * s.x * s.x + a * s.x * s.z * s.z + b * s.z * s.z * s.z) := by rw [hs]
      have e1 : w * w * w * (s.y * s.y * s.z) = s.y * w * (s.y * w) * (w * s.z) := by grind
      have e2 : w * w * w * (s.x * s.x * s.x + a * s.x * s.z * s.z + b * s.z * s.z * s.z) = s.x * w * (s.x * w) * (s.x * w) + a * (s.x * w) * (w * s.z) * (w * s.z) + b * (w * s.z) * (w * s.z) * (w * s.z) := by grind
      rw [e1, e2, hw] at e
      grind
    · apply T3.ext3 <;> simp only [ml] <;> grind

theorem sum_ex {s t : T3 p} (c : Can a b s) (d : Can a b t) : ∃ u, Can a b u ∧ Lk (S3 a b s t) u := by
  by_cases ht : t = .inf
  · subst ht
    exact ⟨s, c, s.y, c.y h, sm_inf ..⟩
  by_cases hs : s = .inf
  · subst hs
    refine ⟨t, d, t.y, d.y h, ?_⟩
    show sm _ _ _ _ = _
    rw [sm_comm, sm_inf]
  obtain ⟨x, y, o, rfl⟩ := c.resolve_left hs
  obtain ⟨x', y', o', rfl⟩ := d.resolve_left ht
  exact can_ex h (h.cl _ _ _ _ o o') (sum_ne h o o')
end

open Classical in
/-- The sum of two points. -/
noncomputable def ad (a b : Fin p) (s t : T3 p) : T3 p := if h : ∃ u, Can a b u ∧ Lk (S3 a b s t) u then h.choose else .inf
section
variable (h : Grp a b gx gy)
include h
theorem ad_ok {s t : T3 p} (c : Can a b s) (d : Can a b t) : Can a b (ad a b s t) ∧ Lk (S3 a b s t) (ad a b s t) := by
  have e := sum_ex h c d
  unfold ad
  rw [dif_pos e]
  exact e.choose_spec
theorem ad_eq {s t u : T3 p} (c : Can a b s) (d : Can a b t) (e : Can a b u) (f : Lk (S3 a b s t) u) : ad a b s t = u := can_uniq h (ad_ok h c d).1 e (ad_ok h c d).2 f
theorem ad_comm {s t : T3 p} (c : Can a b s) (d : Can a b t) : ad a b s t = ad a b t s := by
  refine ad_eq h c d (ad_ok h d c).1 ?_
  show Lk (sm _ _ _ _) _
  rw [sm_comm]
  exact (ad_ok h d c).2
theorem ad_inf {s : T3 p} (c : Can a b s) : ad a b s .inf = s := ad_eq h c (.inl rfl) c ⟨s.y, c.y h, sm_inf ..⟩
theorem inf_ad {s : T3 p} (c : Can a b s) : ad a b .inf s = s := by rw [ad_comm h (.inl rfl) c, ad_inf h c]
theorem can_g : Can a b ⟨gx, gy, 1⟩ := .inr ⟨_, _, h.g, rfl⟩
theorem ad_as {s t : T3 p} (c : Can a b s) (d : Can a b t) : ad a b (ad a b s t) ⟨gx, gy, 1⟩ = ad a b s (ad a b t ⟨gx, gy, 1⟩) := by
  have g := can_g h
  by_cases hs : s = .inf
  · subst hs; rw [inf_ad h d, inf_ad h (ad_ok h d g).1]
  by_cases ht : t = .inf
  · subst ht; rw [ad_inf h c, inf_ad h g]
  obtain ⟨x, y, o, rfl⟩ := c.resolve_left hs
  obtain ⟨x', y', o', rfl⟩ := d.resolve_left ht
  obtain ⟨k1, k2⟩ := ad_ok h c d
  obtain ⟨k3, k4⟩ := ad_ok h d g
  obtain ⟨k5, k6⟩ := ad_ok h k1 g
  obtain ⟨k7, k8⟩ := ad_ok h c k3
  have e1 := (Lk.sum h k2 (Lk.refl h _)).trans h k6
  have e2 := (Lk.sum h (Lk.refl h (⟨x, y, 1⟩ : T3 p)) k4).trans h k8
  have cr := h.as _ _ _ _ o o'
  refine can_cr h k5 k7 ?_
  obtain ⟨l, hl, q1⟩ := e1
  obtain ⟨m, hm, q2⟩ := e2
  rw [q1, q2] at cr
  simp only [Cr, ml] at cr ⊢
  generalize ad a b (ad a b ⟨x, y, 1⟩ ⟨x', y', 1⟩) ⟨gx, gy, 1⟩ = u at *
  generalize ad a b ⟨x, y, 1⟩ (ad a b ⟨x', y', 1⟩ ⟨gx, gy, 1⟩) = v at *
  have lm := h.mul_ne hl hm
  have can : ∀ {X Y : Fin p}, l * m * X = l * m * Y → X = Y := fun {X Y} e => by
    have : l * m * (X - Y) = 0 := by grind
    have := (h.nz this).resolve_left lm
    grind
  obtain ⟨c1, c2, c3⟩ := cr
  exact ⟨can (by grind), can (by grind), can (by grind)⟩
end

/-- The point's multiples. -/
noncomputable def mg (a b gx gy : Fin p) : Nat → T3 p
  | 0 => .inf
  | n + 1 => ad a b (mg a b gx gy n) ⟨gx, gy, 1⟩
section
variable (h : Grp a b gx gy)
include h
theorem mg_can : ∀ n, Can a b (mg a b gx gy n)
  | 0 => .inl rfl
  | n + 1 => (ad_ok h (mg_can n) (can_g h)).1
theorem mg_add (m : Nat) : ∀ n, ad a b (mg a b gx gy m) (mg a b gx gy n) = mg a b gx gy (m + n)
  | 0 => ad_inf h (mg_can h m)
  | n + 1 => by
    show ad a b _ (ad a b (mg a b gx gy n) _) = _
    rw [← ad_as h (mg_can h m) (mg_can h n), mg_add m n]
    rfl
/-- The sum of two triples of multiples. -/
theorem mg_sum {s t : T3 p} {m n : Nat} (e : Lk s (mg a b gx gy m)) (f : Lk t (mg a b gx gy n)) : Lk (S3 a b s t) (mg a b gx gy (m + n)) := by
  rw [← mg_add h m n]
  exact (Lk.sum h e f).trans h (ad_ok h (mg_can h m) (mg_can h n)).2
end
end
end Mir

namespace Mir

section
variable {p : Nat} [NeZero p]

/- ## No root of the cubic -/
/-- Products modulo the cubic. -/
def mq (p a b : Nat) (s t : P3) : P3 :=
  ⟨(s.x * t.x % p + p - b * ((s.y * t.z % p + s.z * t.y % p) % p) % p) % p,
   (((s.x * t.y % p + s.y * t.x % p) % p + p - a * ((s.y * t.z % p + s.z * t.y % p) % p) % p) % p + p - b * (s.z * t.z % p) % p) % p,
   (((s.x * t.z % p + s.y * t.y % p) % p + s.z * t.x % p) % p + p - a * (s.z * t.z % p) % p) % p⟩
def pq (p a b : Nat) (s : P3) : Nat → Nat → P3
  | 0, _ => ⟨1, 0, 0⟩
  | f + 1, e => bif Nat.beq e 0 then ⟨1, 0, 0⟩ else bif Nat.beq (e % 2) 1 then mq p a b (mq p a b (pq p a b s f (e / 2)) (pq p a b s f (e / 2))) s else mq p a b (pq p a b s f (e / 2)) (pq p a b s f (e / 2))
def lessX (p : Nat) (h : P3) : P3 := ⟨h.x, (h.y + p - 1 % p) % p, h.z⟩
def isOne (t : P3) : Bool := Nat.beq t.x 1 && Nat.beq t.y 0 && Nat.beq t.z 0
def rootN (p a b : Nat) : Bool := isOne (mq p a b (pq p a b (lessX p (pq p a b ⟨0, 1, 0⟩ 576 p)) 1730 (p ^ 3 - 2)) (lessX p (pq p a b ⟨0, 1, 0⟩ 576 p)))

def evq (r : Fin p) (s : P3) : Fin p := cf s.x + cf s.y * r + cf s.z * r * r
theorem evq_mul {a b : Nat} {r : Fin p} (h : r * r * r + cf a * r + cf b = 0) (s t : P3) : evq r (mq p a b s t) = evq r s * evq r t := by
  simp only [evq, mq, cf_add, cf_mul, cf_subm]
  grind
def fpw (x : Fin p) : Nat → Fin p
  | 0 => 1
  | n + 1 => fpw x n * x
theorem fpw_add (x : Fin p) (m : Nat) : ∀ n, fpw x (m + n) = fpw x m * fpw x n
  | 0 => by simp only [fpw, Nat.add_zero]; grind
  | n + 1 => by rw [← Nat.add_assoc, fpw, fpw, fpw_add x m n]; grind
theorem evq_one (r : Fin p) : evq r ⟨1, 0, 0⟩ = 1 := by
  simp only [evq, cf_0]
  have : (cf 1 : Fin p) = 1 := rfl
  grind
theorem evq_pow {a b : Nat} {r : Fin p} (h : r * r * r + cf a * r + cf b = 0) (s : P3) : ∀ f e, e < 2 ^ f → evq r (pq p a b s f e) = fpw (evq r s) e
  | 0, e, he => by
    have : e = 0 := by simpa using he
    subst this; exact evq_one r
  | f + 1, e, he => by
    have ih := evq_pow h s f (e / 2) (by rw [Nat.pow_succ] at he; omega)
    rw [pq]
    by_cases h0 : e = 0
    · subst h0; exact evq_one r
    · have hb : Nat.beq e 0 = false := by rw [← Bool.not_eq_true, Nat.beq_eq]; exact h0
      rw [hb, cond_false]
      by_cases h1 : e % 2 = 1
      · have hb : Nat.beq (e % 2) 1 = true := by rw [Nat.beq_eq]; exact h1
        rw [hb, cond_true, evq_mul h, evq_mul h, ih, ← fpw_add]
        have : fpw (evq r s) e = fpw (evq r s) (e / 2 + e / 2 + 1) := by congr 1; omega
        rw [this, fpw]
      · have hb : Nat.beq (e % 2) 1 = false := by rw [← Bool.not_eq_true, Nat.beq_eq]; exact h1
        rw [hb, cond_false, evq_mul h, ih, ← fpw_add]
        congr 1; omega
theorem fpw_cf (R : Nat) : ∀ n, fpw (cf R : Fin p) n = cf (R ^ n)
  | 0 => rfl
  | n + 1 => by rw [fpw, fpw_cf R n, ← cf_mul, cf_mod, Nat.pow_succ]
theorem fermatF (hp : Pr p) (r : Fin p) : fpw r p = r := by
  have h2 := hp.two
  obtain ⟨n, hn⟩ : ∃ n, p = n + 1 := ⟨p - 1, by omega⟩
  have e : fpw r p = fpw r (p - 1) * r := by
    have : fpw r p = fpw r (p - 1 + 1) := by congr 1; omega
    rw [this, fpw]
  rw [e]
  by_cases h : r = 0
  · subst h; grind
  · have hr : r.val ≠ 0 := fun h' => h (Fin.ext h')
    have h1 := hp.fermat (hp.mod_ne (Nat.pos_of_ne_zero hr) r.isLt)
    have : fpw r (p - 1) = 1 := by
      have e2 : fpw (cf r.val : Fin p) (p - 1) = 1 := by
        rw [fpw_cf]
        exact cf_eq.2 (show r.val ^ (p - 1) % p = 1 % p by rw [h1, Nat.mod_eq_of_lt (by omega)])
      rwa [cf_of] at e2
    rw [this]; grind
theorem root_ok {a b : Nat} (hp : Pr p) (hl : p < 2 ^ 576) (h : rootN p a b = true) (r : Fin p) : r * r * r + cf a * r + cf b ≠ 0 := by
  intro e
  simp only [rootN] at h
  have e1 := evq_pow e ⟨0, 1, 0⟩ 576 p hl
  have ex : evq r ⟨0, 1, 0⟩ = r := by
    simp only [evq, cf_0]
    have : (cf 1 : Fin p) = 1 := rfl
    grind
  rw [ex, fermatF hp] at e1
  generalize pq p a b ⟨0, 1, 0⟩ 576 p = H at *
  have e2 : evq r (lessX p H) = 0 := by
    simp only [evq, lessX, cf_subm] at e1 ⊢
    have : (cf (1 % p) : Fin p) = 1 := cf_mod 1
    grind
  have e3 := evq_mul e (pq p a b (lessX p H) 1730 (p ^ 3 - 2)) (lessX p H)
  generalize mq p a b (pq p a b (lessX p H) 1730 (p ^ 3 - 2)) (lessX p H) = w at *
  obtain ⟨x, y, z⟩ := w
  simp only [isOne, Bool.and_eq_true, Nat.beq_eq] at h
  obtain ⟨⟨rfl, rfl⟩, rfl⟩ := h
  rw [evq_one, e2] at e3
  have two := hp.two
  have : (1 : Fin p) = 0 := by grind
  have := congrArg Fin.val this
  rw [show (1 : Fin p).val = 1 % p from rfl, show (0 : Fin p).val = 0 from rfl, Nat.mod_eq_of_lt (by omega)] at this
  omega

/- ## Two points -/
theorem zero2 {a b : Fin p} (hz : Nz p) (h2 : (2 : Fin p) ≠ 0) {n m : Nat} {F : Fin p → Fin p → Fin p → Fin p → Fin p} (hP : ∀ x2 y2, InL a b n (fun x y => F x y x2 y2)) (hQ : ∀ x1 y1, InL a b m (fun x y => F x1 y1 x y))
    {l : List (Fin p × Fin p)} (hn : (l.map Prod.fst).Nodup) (hl : n / 2 + 1 ≤ l.length) (hl' : m / 2 + 1 ≤ l.length) (ho : ∀ q ∈ l, onF a b q.1 q.2 ∧ q.2 + q.2 ≠ 0)
    (hg : ∀ q ∈ l, ∀ r ∈ l, F q.1 q.2 r.1 r.2 = 0 ∧ F q.1 q.2 r.1 (-r.2) = 0 ∧ F q.1 (-q.2) r.1 r.2 = 0 ∧ F q.1 (-q.2) r.1 (-r.2) = 0)
    {x1 y1 x2 y2 : Fin p} (o1 : onF a b x1 y1) (o2 : onF a b x2 y2) : F x1 y1 x2 y2 = 0 := by
  have k1 : ∀ r ∈ l, F x1 y1 r.1 r.2 = 0 := fun r hr => (hP r.1 r.2).zero hz hn hl (fun q hq => ⟨(ho q hq).1, (ho q hq).2, (hg q hq r hr).1, (hg q hq r hr).2.2.1⟩) h2 o1
  have k2 : ∀ r ∈ l, F x1 y1 r.1 (-r.2) = 0 := fun r hr => (hP r.1 (-r.2)).zero hz hn hl (fun q hq => ⟨(ho q hq).1, (ho q hq).2, (hg q hq r hr).2.1, (hg q hq r hr).2.2.2⟩) h2 o1
  exact (hQ x1 y1).zero hz hn hl' (fun q hq => ⟨(ho q hq).1, (ho q hq).2, k1 q hq, k2 q hq⟩) h2 o2

/- ## The checks -/
theorem on3N_ok {a b : Nat} {t : P3} (h : on3N p a b t = true) : Hm (cf a) (cf b) (ct t : T3 p) := by
  simp only [on3N, Nat.beq_eq] at h
  have := congrArg (cf (p := p)) h
  simp only [cf_add, cf_mul] at this
  unfold Hm
  simp only [ct]
  grind
theorem crossN_ok {s t : P3} (h : crossN p s t = true) : Cr (ct s : T3 p) (ct t) := by
  simp only [crossN, Bool.and_eq_true, Nat.beq_eq] at h
  obtain ⟨⟨h1, h2⟩, h3⟩ := h
  have e1 := congrArg (cf (p := p)) h1
  have e2 := congrArg (cf (p := p)) h2
  have e3 := congrArg (cf (p := p)) h3
  simp only [cf_mul] at e1 e2 e3
  exact ⟨e1, e2, e3⟩
theorem ct_neg {t : P3} (h : t.y ≤ p) : (ct (negN p t) : T3 p) = ⟨cf t.x, -cf t.y, cf t.z⟩ := by
  have e := cf_sub (p := p) 0 t.y h
  rw [Nat.zero_add] at e
  apply T3.ext3
  · rfl
  · show cf ((p - t.y) % p) = _
    rw [e, cf_0]; grind
  · rfl
theorem ndB_ok : ∀ {l : List Nat}, ndB l = true → (∀ x ∈ l, x < p) → (l.map (cf (p := p))).Nodup
  | [], _, _ => List.nodup_nil
  | x :: l, h, hl => by
    simp only [ndB, Bool.and_eq_true, List.all_eq_true, Bool.not_eq_true'] at h
    rw [List.map_cons, List.nodup_cons]
    refine ⟨fun hm => ?_, ndB_ok h.2 fun y hy => hl y (by simp [hy])⟩
    obtain ⟨y, hy, e⟩ := List.mem_map.1 hm
    have := cf_eq.1 e
    rw [Nat.mod_eq_of_lt (hl y (by simp [hy])), Nat.mod_eq_of_lt (hl x (by simp))] at this
    have h1 := h.1 y hy
    rw [← this, ← Bool.not_eq_true, Nat.beq_eq] at h1
    exact h1 rfl
end
end Mir

namespace Mir

section
variable {p : Nat} [NeZero p]
theorem inv_ok (hp : Pr p) (l : Fin p) (h : l ≠ 0) : ∃ m, m * l = 1 := by
  have hl : l.val ≠ 0 := fun h' => h (Fin.ext h')
  have two := hp.two
  obtain ⟨i, _, h2⟩ := has_inv (m := p) (a := l.val) (by omega) (hp.gcd (hp.mod_ne (Nat.pos_of_ne_zero hl) l.isLt))
  refine ⟨cf i, ?_⟩
  have e : (cf i : Fin p) * cf l.val = 1 := by
    rw [← cf_mul]
    exact cf_eq.2 (show _ % p = 1 % p by rw [h2])
  rwa [cf_of] at e

/-- How far a triple is off the curve. -/
def hmD (a b : Fin p) (s : T3 p) : Fin p := s.y * s.y * s.z - (s.x * s.x * s.x + a * s.x * s.z * s.z + b * s.z * s.z * s.z)
theorem grp_of (hp : Pr p) (h200 : 200 ≤ p) (hlt : p < 2 ^ 576) {A B C X Y : Nat} (hC : (cf C : Fin p) = 3 * cf B) (hroot : rootN p A B = true) {l : List P3} (hlen : 13 ≤ l.length)
    (hgrid : gridL p A B C ⟨X, Y, 1⟩ l = true) (hG : pt3B p A B ⟨X, Y, 1⟩ = true) : Grp (cf A : Fin p) (cf B) (cf X) (cf Y) := by
  have c1 : (cf 1 : Fin p) = 1 := rfl
  have inv := inv_ok hp
  have two : (2 : Fin p) ≠ 0 := fun h => by
    have := congrArg Fin.val h
    rw [show (2 : Fin p).val = 2 % p from rfl, show (0 : Fin p).val = 0 from rfl, Nat.mod_eq_of_lt (by omega)] at this
    omega
  have nz : Nz p := fun x y e => by
    by_cases hx : x = 0
    · exact .inl hx
    · obtain ⟨m, hm⟩ := inv x hx
      have : m * (x * y) = 0 := by rw [e]; grind
      right; grind
  have onp : ∀ t : P3, pt3B p A B t = true → t.x < p ∧ t.y < p ∧ onF (cf A : Fin p) (cf B) (cf t.x) (cf t.y) ∧ (cf t.y : Fin p) + cf t.y ≠ 0 ∧ (ct t : T3 p) = ⟨cf t.x, cf t.y, 1⟩ ∧ (ct (negN p t) : T3 p) = ⟨cf t.x, -cf t.y, 1⟩ := by
    intro t h
    simp only [pt3B, Bool.and_eq_true, Nat.ble_eq, Nat.beq_eq, Bool.not_eq_true'] at h
    obtain ⟨⟨⟨⟨h1, h2⟩, h3⟩, h4⟩, h5⟩ := h
    refine ⟨h1, h2, ?_, fun e => ?_, ?_, ?_⟩
    · have := congrArg (cf (p := p)) h3
      simp only [rightN, cf_add, cf_mul] at this
      unfold onF
      grind
    · have e1 : 2 * (cf t.y : Fin p) = 0 := by grind
      have e2 := (nz _ _ e1).resolve_left two
      have e3 := congrArg Fin.val e2
      rw [cf_val, Nat.mod_eq_of_lt (by omega)] at e3
      have e4 : t.y = 0 := e3
      rw [e4] at h4
      simp at h4
    · apply T3.ext3 <;> simp only [ct, h5] <;> rfl
    · rw [ct_neg (by omega), h5]; rfl
  obtain ⟨_, _, oG, _, eG, _⟩ := onp _ hG
  simp only [gridL, Bool.and_eq_true, List.all_eq_true] at hgrid
  obtain ⟨⟨hpt, hnd⟩, hch⟩ := hgrid
  have nd : ((l.map fun t : P3 => ((cf t.x : Fin p), (cf t.y : Fin p))).map Prod.fst).Nodup := by
    have := ndB_ok (p := p) hnd (fun x hx => by
      obtain ⟨t, ht, rfl⟩ := List.mem_map.1 hx
      exact (onp t (hpt t ht)).1)
    rw [List.map_map] at this ⊢
    exact this
  have ho : ∀ q ∈ l.map fun t : P3 => ((cf t.x : Fin p), (cf t.y : Fin p)), onF (cf A : Fin p) (cf B) q.1 q.2 ∧ q.2 + q.2 ≠ 0 := by
    intro q hq
    obtain ⟨t, ht, rfl⟩ := List.mem_map.1 hq
    exact ⟨(onp t (hpt t ht)).2.2.1, (onp t (hpt t ht)).2.2.2.1⟩
  have one : ∀ q r : P3, chk1 p A B C ⟨X, Y, 1⟩ q r = true → Hm (cf A) (cf B) (S3 (cf A) (cf B) (ct q : T3 p) (ct r)) ∧
      Cr (S3 (cf A) (cf B) (S3 (cf A) (cf B) (ct q : T3 p) (ct r)) ⟨cf X, cf Y, 1⟩) (S3 (cf A) (cf B) (ct q : T3 p) (S3 (cf A) (cf B) (ct r) ⟨cf X, cf Y, 1⟩)) := by
    intro q r h
    simp only [chk1, Bool.and_eq_true] at h
    have h1 := on3N_ok (p := p) h.1
    have h2 := crossN_ok (p := p) h.2
    simp only [ct_sum, hC, eG] at h1 h2
    exact ⟨h1, h2⟩
  have all : ∀ (Q : T3 p → T3 p → Prop), (∀ q r : P3, chk1 p A B C ⟨X, Y, 1⟩ q r = true → Q (ct q) (ct r)) → ∀ q ∈ l.map fun t : P3 => ((cf t.x : Fin p), (cf t.y : Fin p)), ∀ r ∈ l.map fun t : P3 => ((cf t.x : Fin p), (cf t.y : Fin p)),
      Q ⟨q.1, q.2, 1⟩ ⟨r.1, r.2, 1⟩ ∧ Q ⟨q.1, q.2, 1⟩ ⟨r.1, -r.2, 1⟩ ∧ Q ⟨q.1, -q.2, 1⟩ ⟨r.1, r.2, 1⟩ ∧ Q ⟨q.1, -q.2, 1⟩ ⟨r.1, -r.2, 1⟩ := by
    intro Q hQ q hq r hr
    obtain ⟨s, hs, rfl⟩ := List.mem_map.1 hq
    obtain ⟨t, ht, rfl⟩ := List.mem_map.1 hr
    obtain ⟨_, _, _, _, es, en⟩ := onp s (hpt s hs)
    obtain ⟨_, _, _, _, et, em⟩ := onp t (hpt t ht)
    have h := hch s hs t ht
    simp only [chk4, Bool.and_eq_true] at h
    obtain ⟨⟨⟨k1, k2⟩, k3⟩, k4⟩ := h
    have q1 := hQ _ _ k1
    have q2 := hQ _ _ k2
    have q3 := hQ _ _ k3
    have q4 := hQ _ _ k4
    rw [es, et] at q1
    rw [es, em] at q2
    rw [en, et] at q3
    rw [en, em] at q4
    exact ⟨q1, q2, q3, q4⟩
  have len : (l.map fun t : P3 => ((cf t.x : Fin p), (cf t.y : Fin p))).length = l.length := List.length_map ..
  have dz : ∀ {x y : Fin p}, x = y → x - y = 0 := fun h => by rw [h]; grind
  have zd : ∀ {x y : Fin p}, x - y = 0 → x = y := fun h => by grind
  refine ⟨inv, two, root_ok hp hlt hroot, oG, fun x1 y1 x2 y2 o1 o2 => ?_, fun x1 y1 x2 y2 o1 o2 => ?_⟩
  · refine zd (zero2 (F := fun x1 y1 x2 y2 => hmD (cf A) (cf B) (S3 (cf A) (cf B) ⟨x1, y1, 1⟩ ⟨x2, y2, 1⟩))
      nz two (n := 18) (m := 18) ?_ ?_ nd (by rw [len]; omega) (by rw [len]; omega) ho ?_ o1 o2)
    · intro x2 y2
      have t := InT.sm (a := cf A) (b := 3 * cf B) (InT.pt (A := cf A) (B := cf B)) (InT.c (A := cf A) (B := cf B) 0 ⟨x2, y2, 1⟩)
      exact ((t.y.mul t.y (Nat.le_refl _)).mul t.z (by omega)).sub ((((t.x.mul t.x (Nat.le_refl _)).mul t.x (by omega)).add ((((InL.c 0 (cf A)).mul t.x (Nat.le_refl _)).mul t.z (Nat.le_refl _)).mul t.z (by omega))).add ((((InL.c 0 (cf B)).mul t.z (Nat.le_refl _)).mul t.z (Nat.le_refl _)).mul t.z (by omega)))
    · intro x1 y1
      have t := InT.sm (a := cf A) (b := 3 * cf B) (InT.c (A := cf A) (B := cf B) 0 ⟨x1, y1, 1⟩) (InT.pt (A := cf A) (B := cf B))
      exact ((t.y.mul t.y (Nat.le_refl _)).mul t.z (by omega)).sub ((((t.x.mul t.x (Nat.le_refl _)).mul t.x (by omega)).add ((((InL.c 0 (cf A)).mul t.x (Nat.le_refl _)).mul t.z (Nat.le_refl _)).mul t.z (by omega))).add ((((InL.c 0 (cf B)).mul t.z (Nat.le_refl _)).mul t.z (Nat.le_refl _)).mul t.z (by omega)))
    · exact all (fun s t => hmD (cf A) (cf B) (S3 (cf A) (cf B) s t) = 0) fun q r h => dz (one q r h).1
  · have key : ∀ (f g : T3 p → Fin p), (∀ n (T : Fin p → Fin p → T3 p), InT (cf A) (cf B) n T → InL (cf A) (cf B) n (fun x y => f (T x y)) ∧ InL (cf A) (cf B) n (fun x y => g (T x y))) → (∀ s t : T3 p, Cr s t → f s * g t = f t * g s) →
        f (S3 (cf A) (cf B) (S3 (cf A) (cf B) ⟨x1, y1, 1⟩ ⟨x2, y2, 1⟩) ⟨cf X, cf Y, 1⟩) * g (S3 (cf A) (cf B) ⟨x1, y1, 1⟩ (S3 (cf A) (cf B) ⟨x2, y2, 1⟩ ⟨cf X, cf Y, 1⟩)) =
        f (S3 (cf A) (cf B) ⟨x1, y1, 1⟩ (S3 (cf A) (cf B) ⟨x2, y2, 1⟩ ⟨cf X, cf Y, 1⟩)) * g (S3 (cf A) (cf B) (S3 (cf A) (cf B) ⟨x1, y1, 1⟩ ⟨x2, y2, 1⟩) ⟨cf X, cf Y, 1⟩) := by
      intro f g hfg hc
      refine zd (zero2 (F := fun x1 y1 x2 y2 => f (S3 (cf A) (cf B) (S3 (cf A) (cf B) ⟨x1, y1, 1⟩ ⟨x2, y2, 1⟩) ⟨cf X, cf Y, 1⟩) * g (S3 (cf A) (cf B) ⟨x1, y1, 1⟩ (S3 (cf A) (cf B) ⟨x2, y2, 1⟩ ⟨cf X, cf Y, 1⟩)) -
        f (S3 (cf A) (cf B) ⟨x1, y1, 1⟩ (S3 (cf A) (cf B) ⟨x2, y2, 1⟩ ⟨cf X, cf Y, 1⟩)) * g (S3 (cf A) (cf B) (S3 (cf A) (cf B) ⟨x1, y1, 1⟩ ⟨x2, y2, 1⟩) ⟨cf X, cf Y, 1⟩)) nz two (n := 18) (m := 24) ?_ ?_ nd (by rw [len]; omega) (by rw [len]; omega) ho ?_ o1 o2)
      · intro x2 y2
        have t1 := InT.sm (a := cf A) (b := 3 * cf B) (InT.sm (a := cf A) (b := 3 * cf B) (InT.pt (A := cf A) (B := cf B)) (InT.c (A := cf A) (B := cf B) 0 ⟨x2, y2, 1⟩)) (InT.c 0 ⟨cf X, cf Y, 1⟩)
        have t2 := InT.sm (a := cf A) (b := 3 * cf B) (InT.pt (A := cf A) (B := cf B)) (InT.c (A := cf A) (B := cf B) 0 (S3 (cf A) (cf B) ⟨x2, y2, 1⟩ ⟨cf X, cf Y, 1⟩))
        have u1 := hfg _ _ t1
        have u2 := hfg _ _ t2
        exact (u1.1.mul u2.2 (by omega)).sub (u2.1.mul u1.2 (by omega))
      · intro x1 y1
        have t1 := InT.sm (a := cf A) (b := 3 * cf B) (InT.sm (a := cf A) (b := 3 * cf B) (InT.c (A := cf A) (B := cf B) 0 ⟨x1, y1, 1⟩) (InT.pt (A := cf A) (B := cf B))) (InT.c 0 ⟨cf X, cf Y, 1⟩)
        have t2 := InT.sm (a := cf A) (b := 3 * cf B) (InT.c (A := cf A) (B := cf B) 0 ⟨x1, y1, 1⟩) (InT.sm (a := cf A) (b := 3 * cf B) (InT.pt (A := cf A) (B := cf B)) (InT.c 0 ⟨cf X, cf Y, 1⟩))
        have u1 := hfg _ _ t1
        have u2 := hfg _ _ t2
        exact (u1.1.mul u2.2 (by omega)).sub (u2.1.mul u1.2 (by omega))
      · exact all (fun s t => f (S3 (cf A) (cf B) (S3 (cf A) (cf B) s t) ⟨cf X, cf Y, 1⟩) * g (S3 (cf A) (cf B) s (S3 (cf A) (cf B) t ⟨cf X, cf Y, 1⟩)) -
          f (S3 (cf A) (cf B) s (S3 (cf A) (cf B) t ⟨cf X, cf Y, 1⟩)) * g (S3 (cf A) (cf B) (S3 (cf A) (cf B) s t) ⟨cf X, cf Y, 1⟩) = 0) fun q r h => dz (hc _ _ (one q r h).2)
    exact ⟨key T3.x T3.y (fun n T h => ⟨h.x, h.y⟩) (fun s t h => h.1), key T3.x T3.z (fun n T h => ⟨h.x, h.z⟩) (fun s t h => h.2.1), key T3.y T3.z (fun n T h => ⟨h.y, h.z⟩) (fun s t h => h.2.2)⟩
end
end Mir

namespace Mir

def allB (k : Nat) : Bool := gridB k && rootN (crP k) (crA k) (crB k) && pt3B (crP k) (crA k) (crB k) (crG k).tri
theorem all_1 : allB 1 = true := by kernel_rfl
theorem all_2 : allB 2 = true := by kernel_rfl
theorem all_3 : allB 3 = true := by kernel_rfl
theorem all_4 : allB 4 = true := by kernel_rfl
theorem all_5 : allB 5 = true := by kernel_rfl
theorem all_6 : allB 6 = true := by kernel_rfl
theorem all_7 : allB 7 = true := by kernel_rfl
theorem all_8 : allB 8 = true := by kernel_rfl
theorem all_9 : allB 9 = true := by kernel_rfl
theorem all_10 : allB 10 = true := by kernel_rfl
theorem all_11 : allB 11 = true := by kernel_rfl
theorem all_12 : allB 12 = true := by kernel_rfl
theorem all_13 : allB 13 = true := by kernel_rfl
theorem all_14 : allB 14 = true := by kernel_rfl
theorem all_15 : allB 15 = true := by kernel_rfl
theorem all_ok {k : Nat} (h : Cid k) : allB k = true := by
  cases h
  · exact all_1
  · exact all_2
  · exact all_3
  · exact all_4
  · exact all_5
  · exact all_6
  · exact all_7
  · exact all_8
  · exact all_9
  · exact all_10
  · exact all_11
  · exact all_12
  · exact all_13
  · exact all_14
  · exact all_15

theorem pos_k {k : Nat} (h : Cid k) : NeZero (crP k) := ⟨by have := (cv_ok h).big; omega⟩
/-- The curve's group. -/
theorem grp {k : Nat} (h : Cid k) [NeZero (crP k)] : Grp (cf (crA k) : Fin (crP k)) (cf (crB k)) (cf (crX k)) (cf (crY k)) := by
  have c := cv_ok h
  have a := all_ok h
  simp only [allB, gridB, Bool.and_eq_true] at a
  refine grp_of c.pr c.big c.lt (C := crT k) ?_ a.1.2 (l := gl k) (by simp [gl]) a.1.1 a.2
  simp only [crT, cf_add]
  grind
end Mir

namespace Mir

section
variable {k : Nat} [NeZero (crP k)]
noncomputable abbrev mlt (k : Nat) [NeZero (crP k)] (m : Nat) : T3 (crP k) := mg (cf (crA k)) (cf (crB k)) (cf (crX k)) (cf (crY k)) m
open Classical in
/-- The m-th multiple. -/
noncomputable def gq (k : Nat) [NeZero (crP k)] (m : Nat) : P2 := if (mlt k m).z = 0 then .inf else ⟨(mlt k m).x.val, (mlt k m).y.val, false⟩

/-- A triple is one of the m-th multiple. -/
structure Rp (k : Nat) [NeZero (crP k)] (t : P3) (m : Nat) : Prop where
  lt : Lt3 (crP k) t
  s : Lk (ct t : T3 (crP k)) (mlt k m)
theorem Rp.cast {s : P3} {m n : Nat} (e : Rp k s m) (f : m = n) : Rp k s n := f ▸ e
variable (h : Cid k)
include h
theorem mk_cases (m : Nat) : (mlt k m = .inf ∧ gq k m = .inf) ∨ ((mlt k m).z = 1 ∧ onF (cf (crA k)) (cf (crB k)) (mlt k m).x (mlt k m).y ∧ gq k m = ⟨(mlt k m).x.val, (mlt k m).y.val, false⟩) := by
  rcases mg_can (grp h) m with e | ⟨x, y, o, e⟩
  · left
    refine ⟨e, ?_⟩
    unfold gq
    rw [if_pos (by unfold mlt; rw [e]; rfl)]
  · right
    have e' : mlt k m = ⟨x, y, 1⟩ := e
    refine ⟨by rw [e'], by rw [e']; exact o, ?_⟩
    unfold gq
    rw [if_neg (by rw [e']; exact (grp h).one_ne)]
theorem gq_tri (m : Nat) : (ct (gq k m).tri : T3 (crP k)) = mlt k m := by
  rcases mk_cases h m with ⟨e1, e2⟩ | ⟨e1, _, e3⟩
  · rw [e1, e2]; rfl
  · rw [e3]
    apply T3.ext3
    · exact cf_of _
    · exact cf_of _
    · exact e1.symm
theorem gq_on (m : Nat) : OnP k (gq k m) := by
  have c := cv_ok h
  rcases mk_cases h m with ⟨e1, e2⟩ | ⟨e1, o, e3⟩
  · rw [e2]
    exact ⟨show 0 < _ by have := c.big; omega, show 0 < _ by have := c.big; omega, fun _ => ⟨rfl, rfl⟩, fun e => by simp [P2.inf] at e⟩
  · rw [e3]
    refine ⟨(mlt k m).x.isLt, (mlt k m).y.isLt, fun e => by simp at e, fun _ => ?_⟩
    show (mlt k m).y.val * (mlt k m).y.val % crP k = rightN (crP k) (crA k) (crB k) (mlt k m).x.val
    have e : (cf ((mlt k m).y.val * (mlt k m).y.val % crP k) : Fin (crP k)) = cf (rightN (crP k) (crA k) (crB k) (mlt k m).x.val) := by
      simp only [rightN, cf_add, cf_mul, cf_of]
      unfold onF at o
      grind
    have := cf_eq.1 e
    rw [Nat.mod_mod, Nat.mod_eq_of_lt (rightN_lt h)] at this
    exact this
theorem gq_x (m : Nat) : (gq k m).x < crP k := (gq_on h m).x

theorem Rp.rep {t : P3} {m : Nat} (r : Rp k t m) : Rep k t (gq k m) := by
  have g := grp h
  obtain ⟨l, hl, e⟩ := r.s
  have lt := r.lt
  have ez := congrArg T3.z e
  have ex := congrArg T3.x e
  have ey := congrArg T3.y e
  refine ⟨lt, (gq_on h m).x, (gq_on h m).y, ?_⟩
  rcases mk_cases h m with ⟨e1, e2⟩ | ⟨e1, o, e3⟩
  · left
    rw [e2]
    rw [e1] at ez
    refine ⟨rfl, ?_, rfl, rfl⟩
    have z0 : (cf t.z : Fin (crP k)) = cf 0 := by
      show (ct t : T3 (crP k)).z = _
      rw [ez]
      show l * 0 = 0
      grind
    have := cf_eq.1 z0
    rw [Nat.mod_eq_of_lt lt.z, Nat.zero_mod] at this
    exact this
  · right
    rw [e3]
    have z1 : (cf t.z : Fin (crP k)) = l := by
      show (ct t : T3 (crP k)).z = _
      rw [ez]
      show l * (mlt k m).z = l
      rw [e1]; grind
    have x1 : (cf t.x : Fin (crP k)) = l * (mlt k m).x := ex
    have y1 : (cf t.y : Fin (crP k)) = l * (mlt k m).y := ey
    refine ⟨rfl, fun hz => hl ?_, ?_, ?_⟩
    · rw [← z1, hz]; rfl
    · have := cf_eq.1 (show (cf ((mlt k m).x.val * t.z % crP k) : Fin (crP k)) = cf t.x by rw [cf_mul, cf_of, z1, x1]; grind)
      rw [Nat.mod_mod, Nat.mod_eq_of_lt lt.x] at this
      exact this
    · have := cf_eq.1 (show (cf ((mlt k m).y.val * t.z % crP k) : Fin (crP k)) = cf t.y by rw [cf_mul, cf_of, z1, y1]; grind)
      rw [Nat.mod_mod, Nat.mod_eq_of_lt lt.y] at this
      exact this
theorem Rp.inf : Rp k .inf 0 := ⟨lt_inf h, Lk.refl (grp h) _⟩
theorem Rp.tri (m : Nat) : Rp k (gq k m).tri m := ⟨(gq_on h m).tri h, by rw [gq_tri h]; exact Lk.refl (grp h) _⟩
theorem ct_sumK (s t : P3) : (ct (sumK k s t) : T3 (crP k)) = S3 (cf (crA k)) (cf (crB k)) (ct s) (ct t) := by
  rw [ct_sum]
  congr 1
  simp only [crT, cf_add]
  grind
theorem Rp.sum {s t : P3} {m n : Nat} (e : Rp k s m) (f : Rp k t n) : Rp k (sumK k s t) (m + n) := ⟨sumK_lt h, by rw [ct_sumK h]; exact mg_sum (grp h) e.s f.s⟩
theorem Rp.tm {t : P3} {m x n : Nat} (e : Rp k t m) (hx : x < 2 ^ n) : ∀ i, i ≤ n → Rp k (tmN (sumK k) t x n i) (x / 2 ^ (n - i) * m)
  | 0, _ => (Rp.inf h).cast (by rw [Nat.sub_zero, Nat.div_eq_of_lt hx, Nat.zero_mul])
  | i + 1, hi => by
    have ih := Rp.tm e hx i (by omega)
    have d := (ih.sum h ih).cast (n := x / 2 ^ (n - i) * 2 * m) (by rw [← Nat.add_mul]; congr 1; omega)
    have e1 : n - i = n - 1 - i + 1 := by omega
    have e2 : n - (i + 1) = n - 1 - i := by omega
    have e3 : x / 2 ^ (n - i) = x / 2 ^ (n - 1 - i) / 2 := by rw [e1, Nat.pow_succ, Nat.div_div_eq_div_mul]
    rw [e2]
    rw [e3] at d
    obtain ⟨q, hq⟩ : ∃ q, q = x / 2 ^ (n - 1 - i) := ⟨_, rfl⟩
    rw [← hq] at d ⊢
    simp only [tmN, ← hq]
    cases hb : Nat.beq (q % 2) 1
    · have : q % 2 ≠ 1 := fun h' => by rw [h'] at hb; simp at hb
      exact d.cast (by congr 1; omega)
    · have : q % 2 = 1 := Nat.eq_of_beq_eq_true hb
      refine (d.sum h e).cast ?_
      have : q = q / 2 * 2 + 1 := by omega
      conv => rhs; rw [this]
      rw [Nat.add_mul, Nat.one_mul]
theorem Rp.mul {t : P3} {m : Nat} (e : Rp k t m) : ∀ i, Rp k (atN (sumK k) t i) (i * m)
  | 0 => (Rp.inf h).cast (by rw [Nat.zero_mul])
  | i + 1 => ((Rp.mul e i).sum h e).cast (by rw [Nat.add_mul, Nat.one_mul])
theorem Rp.db {t : P3} {m : Nat} (e : Rp k t m) : ∀ j, Rp k (dbN (sumK k) t j) (2 ^ j * m)
  | 0 => e.cast (by rw [Nat.pow_zero, Nat.one_mul])
  | j + 1 => ((Rp.db e j).sum h (Rp.db e j)).cast (by rw [← Nat.add_mul]; congr 1; rw [Nat.pow_succ]; omega)
theorem Rp.wn {d n m : Nat} {g : Nat → P3} (hd : d < 2 ^ (n * 4)) (hg : ∀ i, i < n → Rp k (g i) (dgt d 4 n i * m)) : ∀ i, i ≤ n → Rp k (wnN (sumK k) g i) (d / 2 ^ ((n - i) * 4) * m)
  | 0, _ => (Rp.inf h).cast (by rw [Nat.sub_zero, Nat.div_eq_of_lt hd, Nat.zero_mul])
  | i + 1, hi => by
    have ih := Rp.wn hd hg i (by omega)
    refine (((ih.db h 4)).sum h (hg i (by omega))).cast ?_
    obtain ⟨q, hq⟩ : ∃ q, q = d / 2 ^ ((n - (i + 1)) * 4) := ⟨_, rfl⟩
    have e1 : d / 2 ^ ((n - i) * 4) = q / 16 := by
      rw [hq, Nat.div_div_eq_div_mul, show (16 : Nat) = 2 ^ 4 from rfl, ← Nat.pow_add]
      congr 2; omega
    have e2 : dgt d 4 n i = q % 16 := by
      rw [dgt, hq, show n - 1 - i = n - (i + 1) by omega]
    rw [e1, e2, ← hq, ← Nat.mul_assoc, ← Nat.add_mul]
    congr 1
    omega

theorem gq_1 : gq k 1 = crG k := by
  have g := grp h
  have e : mlt k 1 = ⟨cf (crX k), cf (crY k), 1⟩ := inf_ad g (can_g g)
  unfold gq
  rw [e, if_neg g.one_ne, crG]
  have c := cv_ok h
  simp only [cf_val, Nat.mod_eq_of_lt c.X, Nat.mod_eq_of_lt c.Y]
theorem winOk {m d : Nat} (hd : d < crN k) : WinOk k (gq k m) d (gq k (d * m)) := by
  refine ⟨fun i => gq k (i * m), fun i _ => ((Rp.tri h m).mul h i).rep h, ?_⟩
  have hW : d < 2 ^ (crW k * 4) := by
    refine Nat.lt_of_lt_of_le (Nat.lt_trans hd (bl_le_iff.1 (Nat.le_refl (bl (crN k))))) (Nat.pow_le_pow_right (by omega) ?_)
    unfold crW crBits; omega
  have r := Rp.wn h hW (m := m) (g := fun i => (gq k (dgt d 4 (crW k) i * m)).tri) (fun i _ => Rp.tri h _) (crW k) (Nat.le_refl _)
  rw [Nat.sub_self, Nat.zero_mul, Nat.pow_zero, Nat.div_one] at r
  exact r.rep h

/- ## The order -/
theorem mk_add_inf {m n : Nat} (e : mlt k m = .inf) : mlt k (m + n) = mlt k n := by
  have g := grp h
  have := mg_add g m n
  rw [show mg _ _ _ _ m = T3.inf from e, inf_ad g (mg_can g n)] at this
  exact this.symm
theorem mk_mul_inf {m : Nat} (e : mlt k m = .inf) : ∀ n, mlt k (m * n) = .inf
  | 0 => rfl
  | n + 1 => by rw [Nat.mul_succ, Nat.add_comm, mk_add_inf h e, mk_mul_inf e n]
end

def ordB (k : Nat) : Bool := Nat.beq (tmN (sumK k) (crG k).tri (crN k) (bl (crN k)) (bl (crN k))).z 0
theorem ord_1 : ordB 1 = true := by kernel_rfl
theorem ord_2 : ordB 2 = true := by kernel_rfl
theorem ord_3 : ordB 3 = true := by kernel_rfl
theorem ord_4 : ordB 4 = true := by kernel_rfl
theorem ord_5 : ordB 5 = true := by kernel_rfl
theorem ord_6 : ordB 6 = true := by kernel_rfl
theorem ord_7 : ordB 7 = true := by kernel_rfl
theorem ord_8 : ordB 8 = true := by kernel_rfl
theorem ord_9 : ordB 9 = true := by kernel_rfl
theorem ord_10 : ordB 10 = true := by kernel_rfl
theorem ord_11 : ordB 11 = true := by kernel_rfl
theorem ord_12 : ordB 12 = true := by kernel_rfl
theorem ord_13 : ordB 13 = true := by kernel_rfl
theorem ord_14 : ordB 14 = true := by kernel_rfl
theorem ord_15 : ordB 15 = true := by kernel_rfl
theorem ord_ok {k : Nat} (h : Cid k) : ordB k = true := by
  cases h
  · exact ord_1
  · exact ord_2
  · exact ord_3
  · exact ord_4
  · exact ord_5
  · exact ord_6
  · exact ord_7
  · exact ord_8
  · exact ord_9
  · exact ord_10
  · exact ord_11
  · exact ord_12
  · exact ord_13
  · exact ord_14
  · exact ord_15

section
variable {k : Nat} [NeZero (crP k)] (h : Cid k)
include h
theorem mk_N : mlt k (crN k) = .inf := by
  have o := ord_ok h
  unfold ordB at o
  rw [Nat.beq_eq, ← gq_1 h] at o
  have r := (Rp.tri h 1).tm h (bl_le_iff.1 (Nat.le_refl (bl (crN k)))) (bl (crN k)) (Nat.le_refl _)
  rw [Nat.sub_self, Nat.pow_zero, Nat.div_one, Nat.mul_one] at r
  rcases (r.rep h).e with ⟨e, _⟩ | ⟨_, e, _⟩
  · rcases mk_cases h (crN k) with ⟨e1, _⟩ | ⟨_, _, e3⟩
    · exact e1
    · rw [e3] at e; simp at e
  · exact absurd o e
/-- A multiple by a number without a divisor in common with the order is not infinity. -/
theorem gq_ne {m : Nat} (hN : 1 < crN k) (hg : Nat.gcd (crN k) m = 1) : (gq k m).i = false := by
  rcases mk_cases h m with ⟨e1, _⟩ | ⟨_, _, e3⟩
  · exfalso
    obtain ⟨i, _, hi⟩ := has_inv hN hg
    have k1 := mk_mul_inf h e1 i
    have k2 := mk_mul_inf h (mk_N h) (m * i / crN k)
    have e : m * i = crN k * (m * i / crN k) + 1 := by
      have := Nat.div_add_mod (m * i) (crN k)
      rw [Nat.mul_comm m i, hi, Nat.mul_comm i m] at this
      exact this.symm
    rw [e, mk_add_inf h k2] at k1
    have g := grp h
    rw [show mlt k 1 = _ from inf_ad g (can_g g)] at k1
    have := congrArg T3.z k1
    exact g.one_ne this
  · rw [e3]
theorem gq_mod {m : Nat} : gq k m = gq k (m % crN k) := by
  have e : mlt k m = mlt k (m % crN k) := by
    conv => lhs; rw [← Nat.div_add_mod m (crN k)]
    exact mk_add_inf h (mk_mul_inf h (mk_N h) _)
  unfold gq
  rw [e]
end
end Mir

namespace Mir

def smallB (k : Nat) : Bool := Nat.ble 211 (crN k) && (List.range 201).all fun i => Nat.beq i 0 || Nat.beq (Nat.gcd (crN k) i) 1
theorem small_1 : smallB 1 = true := by kernel_rfl
theorem small_2 : smallB 2 = true := by kernel_rfl
theorem small_3 : smallB 3 = true := by kernel_rfl
theorem small_4 : smallB 4 = true := by kernel_rfl
theorem small_5 : smallB 5 = true := by kernel_rfl
theorem small_6 : smallB 6 = true := by kernel_rfl
theorem small_7 : smallB 7 = true := by kernel_rfl
theorem small_8 : smallB 8 = true := by kernel_rfl
theorem small_9 : smallB 9 = true := by kernel_rfl
theorem small_10 : smallB 10 = true := by kernel_rfl
theorem small_11 : smallB 11 = true := by kernel_rfl
theorem small_12 : smallB 12 = true := by kernel_rfl
theorem small_13 : smallB 13 = true := by kernel_rfl
theorem small_14 : smallB 14 = true := by kernel_rfl
theorem small_15 : smallB 15 = true := by kernel_rfl
theorem small_ok {k : Nat} (h : Cid k) : smallB k = true := by
  cases h
  · exact small_1
  · exact small_2
  · exact small_3
  · exact small_4
  · exact small_5
  · exact small_6
  · exact small_7
  · exact small_8
  · exact small_9
  · exact small_10
  · exact small_11
  · exact small_12
  · exact small_13
  · exact small_14
  · exact small_15
theorem crN_big {k : Nat} (h : Cid k) : 211 ≤ crN k := by
  have := small_ok h
  simp only [smallB, Bool.and_eq_true, Nat.ble_eq] at this
  exact this.1
theorem crW_le {k : Nat} (h : Cid k) : crW k ≤ 145 := by
  have := crBits_le h
  unfold crW; omega

section
variable {k : Nat} [NeZero (crP k)] (h : Cid k)
include h
theorem winG {d : Nat} (hd : d < crN k) : WinOk k (crG k) d (gq k d) := by
  have w := winOk h (m := 1) hd
  rw [gq_1 h, Nat.mul_one] at w
  exact w
theorem n_baseMul {d : Nat} (hd : d < crN k) : Run T f_base_Mul [.nilp, .i (k : Int), natv d] [] = some (.tup [pt (gq k d), .i 0], []) := by
  obtain ⟨H', c, hH⟩ := r_baseMul (nilTr []) (l := []) (H := []) h hd (by have := crW_le h; simp only [List.length_nil]; omega) rfl (winG h hd)
  subst hH
  exact c
end
end Mir

namespace Mir

section
variable {p : Nat} [NeZero p] {a b : Fin p}
end

section
variable {p : Nat} [NeZero p] {a b gx gy : Fin p} (h : Grp a b gx gy)
include h
end

section
variable {k : Nat} [NeZero (crP k)] (h : Cid k)
include h
end
end Mir

