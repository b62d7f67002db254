/- Comparing values: the small language's answers are the machine's. Conditions: none. -/
import Derived.Test.YtmfbmdbabebhmaaGreatNum
set_option linter.unusedVariables false
set_option linter.unusedSimpArgs false
namespace Mir
open Go (Value Addr IntKind World Obj Act Program FuncId TypeId Operand Op Oper Code TypeDesc Sem Result)

theorem run_und {P : Program} {t : TypeId} {d : TypeDesc} (h : P.underlying t = some d) (w : World) : (Go.underlying t).run P w = .ok d w := by
  simp [Go.underlying, h]

theorem run_size {P : Program} {t : TypeId} {n : Nat} (h : sizeT P t = some n) (w : World) : (Go.sizeOf t).run P w = .ok n w := by
  unfold sizeT at h
  cases hi : P.info? t with
  | none => simp [hi] at h
  | some i => simp [hi] at h; simp [Go.sizeOf, Go.typeInfo, hi, h]

theorem run_isAgg {P : Program} {t : TypeId} (h : (P.underlying t).isSome = true) (w : World) : (Go.isAgg t).run P w = .ok (isAggT P t) w := by
  cases hu : P.underlying t with
  | none => simp [hu] at h
  | some d =>
    simp only [Go.isAgg, Go.Sem.run_bind, run_und hu, Result.andThen, isAggT, hu]
    cases d <;> rfl

def Op.eqElems (d : Nat) (e : TypeId) (n : Nat) (xs ys : Array Value) : List Nat → Sem Bool
  | [] => pure true
  | i :: is => do
      let a ← Go.part e xs (i * n)
      let b ← Go.part e ys (i * n)
      let r ← Go.Op.equalIn d e a b
      if (!r) = true then pure false else Op.eqElems d e n xs ys is

theorem run_equalIn_array {P : Program} (w : World) (d : Nat) (t e : TypeId) (len n : Nat) (xs ys : Array Value) (ht : P.underlying t = some (.array len e)) (hn : sizeT P e = some n) :
    (Go.Op.equalIn (d + 1) t (.agg xs) (.agg ys)).run P w = (Op.eqElems d e n xs ys (List.range' 0 len)).run P w := by
  simp only [Go.Op.equalIn, Go.Sem.run_bind, run_und ht, Result.andThen_ok, run_size hn]
  rw [Std.Legacy.Range.forIn_eq_forIn_range']
  simp only [Std.Legacy.Range.size, Nat.sub_zero, Nat.add_sub_cancel, Nat.div_one]
  generalize List.range' 0 len = is
  clear ht
  induction is generalizing w with
  | nil => simp [Op.eqElems]
  | cons i is ih =>
    simp only [List.forIn_cons, Op.eqElems, Go.Sem.run_bind, Go.Sem.run_ite]
    generalize (Go.part e xs (i * n)).run P w = r1
    cases r1 with
    | ok a w1 =>
      simp only [Result.andThen_ok]
      generalize (Go.part e ys (i * n)).run P w1 = r2
      cases r2 with
      | ok b w2 =>
        simp only [Result.andThen_ok]
        generalize (Go.Op.equalIn d e a b).run P w2 = r3
        cases r3 with
        | ok r w3 =>
          cases r
          · simp only [Result.andThen_ok, Bool.not_false, if_true, Go.Sem.run_pure]
          · simp only [Result.andThen_ok, Bool.not_true, Bool.false_eq_true, if_false, Go.Sem.run_pure]
            exact ih w3
        | halt x w3 => simp [Result.andThen]
      | halt x w2 => simp [Result.andThen]
    | halt x w1 => simp [Result.andThen]

/-- n cells of an aggregate from o on, as the machine takes them. -/
theorem run_part_agg {P : Program} {t : TypeId} {n : Nat} (w : World) (ha : isAggT P t = true) (hu : (P.underlying t).isSome = true) (hn : sizeT P t = some n) (cs : Array Value) (o : Nat) :
    (Go.part t cs o).run P w = .ok (.agg (cs.extract o (o + n))) w := by
  simp only [Go.part, Go.Sem.run_bind, run_isAgg hu, ha, Result.andThen_ok, if_true, run_size hn, Go.Sem.run_pure]

theorem run_part_one {P : Program} {t : TypeId} (w : World) (ha : isAggT P t = false) (hu : (P.underlying t).isSome = true) {cs : Array Value} {o : Nat} {x : Value} (h : cs[o]? = some x) :
    (Go.part t cs o).run P w = .ok x w := by
  simp [Go.part, Go.Sem.run_bind, run_isAgg hu, ha, h]

section
variable {P : Program} {φ : Nat → Option FuncId} {c : Cx}

def VRa (φ : Nat → Option FuncId) (c : Cx) (l : List V) (cs : Array Value) : Prop := l.length = cs.size ∧ ∀ j (h : j < l.length) (h' : j < cs.size), VR φ c l[j] cs[j]

theorem VRa.slice {l : List V} {cs : Array Value} (h : VRa φ c l cs) {o n : Nat} (ho : o + n ≤ l.length) : VRa φ c ((l.drop o).take n) (cs.extract o (o + n)) := by
  have h1 := h.1
  refine ⟨by simp; omega, fun j hj hj' => ?_⟩
  simp at hj hj'
  simp only [List.getElem_take, List.getElem_drop, Array.getElem_extract]
  exact h.2 _ _ _

theorem eqL_app : ∀ (k1 k2 : List CK) (l m : List V) (r : Bool), eqL (k1 ++ k2) l m = some r →
    ∃ r1 r2, eqL k1 (l.take k1.length) (m.take k1.length) = some r1 ∧ eqL k2 (l.drop k1.length) (m.drop k1.length) = some r2 ∧ r = (r1 && r2) ∧ k1.length ≤ l.length ∧ k1.length ≤ m.length := by
  intro k1
  induction k1 with
  | nil => intro k2 l m r h; exact ⟨true, r, by simp [eqL], by simpa using h, by simp, by simp, by simp⟩
  | cons k k1 ih =>
    intro k2 l m r h
    cases l with
    | nil => simp [eqL] at h
    | cons a l =>
      cases m with
      | nil => simp [eqL] at h
      | cons b m =>
        simp only [List.cons_append, eqL] at h
        cases h1 : eqC k a b with
        | none => simp [h1] at h
        | some x =>
          cases h2 : eqL (k1 ++ k2) l m with
          | none => simp [h1, h2] at h
          | some y =>
            simp only [h1, h2, Option.some.injEq] at h
            obtain ⟨r1, r2, e1, e2, e3, e4, e5⟩ := ih k2 l m y h2
            exact ⟨x && r1, r2, by simp [eqL, h1, e1], by simpa using e2, by rw [← h, e3, Bool.and_assoc], by simp [e4], by simp [e5]⟩

theorem eqL_len : ∀ (ks : List CK) (l m : List V) (r : Bool), eqL ks l m = some r → l.length = ks.length ∧ m.length = ks.length := by
  intro ks
  induction ks with
  | nil => intro l m r h; cases l <;> cases m <;> simp [eqL] at h ⊢
  | cons k ks ih =>
    intro l m r h
    cases l with
    | nil => simp [eqL] at h
    | cons a l =>
      cases m with
      | nil => simp [eqL] at h
      | cons b m =>
        simp only [eqL] at h
        cases h1 : eqC k a b with
        | none => simp [h1] at h
        | some x =>
          cases h2 : eqL ks l m with
          | none => simp [h1, h2] at h
          | some y =>
            obtain ⟨e1, e2⟩ := ih l m y h2
            simp [e1, e2]

def CK.both (A B : Value) (r : Bool) : CK → Prop
  | .b => ∃ x y, A = .bool x ∧ B = .bool y ∧ r = (x == y)
  | _ => ∃ q x y, A = .int q x ∧ B = .int q y ∧ r = (x == y)

def CK.typ (P : Program) (t : TypeId) : CK → Prop
  | .b => P.underlying t = some .bool
  | _ => ∃ kk, P.underlying t = some (.int kk)

theorem eqC_ok {k : CK} {a b : V} {r : Bool} (h : eqC k a b = some r) {A B : Value} (ha : VR φ c a A) (hb : VR φ c b B) : k.both A B r := by
  cases k <;> cases ha <;> cases hb <;> simp only [eqC, Option.some.injEq, reduceCtorEq] at h
  · exact ⟨_, _, _, rfl, rfl, by rw [← h, Bool.eq_iff_iff]; simp⟩
  · split at h
    · rename_i e
      obtain ⟨rfl, rfl⟩ := e
      have hk : ∀ (wd : Nat) (k1 k2 : IntKind), ukind wd = some k1 → ukind wd = some k2 → k1 = k2 := fun wd k1 k2 e1 e2 => by rw [e1] at e2; exact Option.some.inj e2
      rename_i n2 k2 wd n1 k1 g1 _ g2 _
      obtain rfl := hk wd k1 k2 g1 g2
      simp only [true_and, if_true, Option.some.injEq] at h
      exact ⟨_, _, _, rfl, rfl, by rw [← h, Bool.eq_iff_iff]; simp; omega⟩
    · simp at h
  · exact ⟨_, _, rfl, rfl, h.symm⟩

/-- A value of type t over cells. -/
def valT (P : Program) (t : TypeId) (cs : Array Value) : Value := if isAggT P t then .agg cs else cs[0]?.getD Go.undef

theorem leaves_und {d : Nat} {t : TypeId} {ks : List CK} (h : leaves P d t = some ks) : (P.underlying t).isSome = true := by
  cases d with
  | zero => simp [leaves] at h
  | succ d =>
    simp only [leaves] at h
    cases hu : P.underlying t with
    | none => simp [hu] at h
    | some x => rfl

/-- The part of an aggregate that has type t, as the machine takes it. -/
theorem run_part_val {t : TypeId} (w : World) {n : Nat} (hn : sizeT P t = some n) {ks : List CK} {d : Nat} (hl : leaves P d t = some ks) (hlen : ks.length = n)
    (cs : Array Value) (o : Nat) (ho : o + n ≤ cs.size) : (Go.part t cs o).run P w = .ok (valT P t (cs.extract o (o + n))) w := by
  have hu := leaves_und hl
  unfold valT
  cases ha : isAggT P t with
  | true => simp only [if_true]; exact run_part_agg w ha hu hn cs o
  | false =>
    simp only [Bool.false_eq_true, if_false]
    have h1 : n = 1 := by
      subst hlen
      cases d with
      | zero => simp [leaves] at hl
      | succ d =>
        simp only [leaves] at hl
        unfold isAggT at ha
        cases hu' : P.underlying t with
        | none => simp [hu'] at hu
        | some x =>
          cases x <;> simp only [hu', reduceCtorEq] at hl ha
          · simp only [Option.some.injEq] at hl; subst hl; rfl
          · rename_i k
            cases hk : ckOf k with
            | none => simp [hk] at hl
            | some q => simp [hk] at hl; subst hl; rfl
    subst h1
    have hlt : o < cs.size := by omega
    rw [run_part_one w ha hu (x := cs[o]) (by simp [hlt])]
    congr 1
    have h0 : 0 < min (o + 1) cs.size - o := by omega
    simp only [Array.getElem?_extract, h0, if_true, Nat.add_zero]
    simp [hlt]

theorem leaf_one (w : World) {d : Nat} {t : TypeId} {k : CK} {a b : V} {A B : Value} {q : Bool} (h : eqC k a b = some q) (ha : VR φ c a A) (hb : VR φ c b B)
    (ht : k.typ P t) : (Go.Op.equalIn (d + 1) t A B).run P w = .ok q w := by
  have h6 := eqC_ok h ha hb
  cases k with
  | b =>
    obtain ⟨x, y, rfl, rfl, rfl⟩ := h6
    exact Go.run_equalIn_bool w d t x y ht
  | i =>
    obtain ⟨kk, x, y, rfl, rfl, rfl⟩ := h6
    obtain ⟨k', hk⟩ := ht
    exact Go.run_equalIn_int w d t kk k' x y hk
  | u wd =>
    obtain ⟨kk, x, y, rfl, rfl, rfl⟩ := h6
    obtain ⟨k', hk⟩ := ht
    exact Go.run_equalIn_int w d t kk k' x y hk

theorem cell_one {l : List V} {xs : Array Value} (h : VRa φ c l xs) (h1 : l.length = 1) : ∃ a x, l = [a] ∧ xs[0]? = some x ∧ VR φ c a x := by
  obtain ⟨a, rfl⟩ := List.length_eq_one_iff.1 h1
  have hx1 : 0 < xs.size := by have := h.1; simp at this; omega
  exact ⟨a, xs[0], rfl, by simp [hx1], h.2 0 (by simp) hx1⟩

theorem equal_ok : ∀ (d : Nat) (t : TypeId) (ks : List CK), leaves P d t = some ks → ∀ (d' : Nat), d ≤ d' → ∀ (l m : List V) (xs ys : Array Value) (r : Bool),
    eqL ks l m = some r → VRa φ c l xs → VRa φ c m ys → ∀ w, (Go.Op.equalIn d' t (valT P t xs) (valT P t ys)).run P w = .ok r w := by
  intro d
  induction d with
  | zero => intro t ks h; simp [leaves] at h
  | succ d ih =>
    intro t ks hl d' hd l m xs ys r he hx hy w
    obtain ⟨d', rfl⟩ : ∃ k, d' = k + 1 := ⟨d' - 1, by omega⟩
    obtain ⟨e1, e2⟩ := eqL_len ks l m r he
    have hxl := hx.1
    have hyl := hy.1
    simp only [leaves] at hl
    have leaf : ∀ (k : CK), ks = [k] → isAggT P t = false → k.typ P t → (Go.Op.equalIn (d' + 1) t (valT P t xs) (valT P t ys)).run P w = .ok r w := by
      intro k hk ha ht
      subst hk
      obtain ⟨a, A, rfl, hA, hvA⟩ := cell_one hx (by simpa using e1)
      obtain ⟨b, B, rfl, hB, hvB⟩ := cell_one hy (by simpa using e2)
      simp only [valT, ha, Bool.false_eq_true, if_false, hA, hB, Option.getD_some]
      simp only [eqL] at he
      cases h1 : eqC k a b with
      | none => simp [h1] at he
      | some q =>
        simp only [h1, Bool.and_true, Option.some.injEq] at he
        subst he
        exact leaf_one w h1 hvA hvB ht
    cases hu : P.underlying t with
    | none => simp [hu] at hl
    | some x =>
      cases x <;> simp only [hu, reduceCtorEq] at hl
      · simp only [Option.some.injEq] at hl
        exact leaf .b hl.symm (by simp [isAggT, hu]) hu
      · rename_i k
        cases hk : ckOf k with
        | none => simp [hk] at hl
        | some ck =>
          simp only [hk, Option.map_some, Option.some.injEq] at hl
          refine leaf ck hl.symm (by simp [isAggT, hu]) ?_
          cases ck with
          | b => cases k <;> simp [ckOf] at hk
          | i => exact ⟨k, hu⟩
          | u _ => exact ⟨k, hu⟩
      · -- an array
        rename_i n e
        have ha : isAggT P t = true := by simp [isAggT, hu]
        cases hle : leaves P d e with
        | none => simp [hle] at hl
        | some le =>
          cases hse : sizeT P e with
          | none => simp [hle, hse] at hl
          | some k =>
            simp only [hle, hse] at hl
            split at hl
            · rename_i hlen
              obtain ⟨hlen, hk0⟩ := hlen
              simp only [Option.some.injEq] at hl
              subst hl
              simp only [valT, ha, if_true]
              rw [run_equalIn_array w d' t e n k xs ys hu hse]
              have key : ∀ (q i : Nat) (r : Bool) (w : World), eqL (List.replicate q le).flatten (l.drop (i * k)) (m.drop (i * k)) = some r →
                  (Op.eqElems d' e k xs ys (List.range' i q)).run P w = .ok r w := by
                intro q
                induction q with
                | zero =>
                  intro i r w h
                  obtain ⟨f1, f2⟩ := eqL_len _ _ _ _ h
                  simp only [List.replicate_zero, List.flatten_nil] at h f1 f2
                  rw [List.eq_nil_of_length_eq_zero f1, List.eq_nil_of_length_eq_zero f2] at h
                  simp only [eqL, Option.some.injEq] at h
                  subst h
                  simp [Op.eqElems]
                | succ q ihq =>
                  intro i r w h
                  rw [List.replicate_succ, List.flatten_cons] at h
                  obtain ⟨r1, r2, g1, g2, g3, g4, g5⟩ := eqL_app _ _ _ _ _ h
                  rw [hlen] at g1 g2 g4 g5
                  simp only [List.length_drop] at g4 g5
                  have hp1 := run_part_val (P := P) w hse hle hlen xs (i * k) (by omega)
                  have hp2 := run_part_val (P := P) w hse hle hlen ys (i * k) (by omega)
                  have h1 := ih e le hle d' (by omega) _ _ _ _ r1 g1 (hx.slice (o := i * k) (n := k) (by omega)) (hy.slice (o := i * k) (n := k) (by omega)) w
                  have h2 := ihq (i + 1) r2 w (by
                    rw [List.drop_drop, List.drop_drop] at g2
                    rw [show (i + 1) * k = i * k + k by rw [Nat.add_mul, Nat.one_mul]]; exact g2)
                  rw [List.range'_succ]
                  simp only [Op.eqElems, Go.Sem.run_bind, hp1, hp2, Result.andThen_ok, h1, Go.Sem.run_ite, Go.Sem.run_pure, h2, g3]
                  cases r1 <;> simp
              have := key n 0 r w (by simpa using he)
              exact this
            · simp at hl
      · -- a struct
        rename_i fs
        have ha : isAggT P t = true := by simp [isAggT, hu]
        split at hl
        · simp at hl
        · rename_i hst
          simp only [valT, ha, if_true]
          have hf : P.fieldsOf t = fs := by simp [Go.Program.fieldsOf, hu]
          rw [Go.run_equalIn_struct w d' t xs ys (by rw [hf, hu]) (by simpa using hst), hf]
          have key : ∀ (fs : List Go.Field) (o : Nat) (ks : List CK) (r : Bool) (w : World), leafFs P (leaves P d) o fs = some ks →
              eqL ks (l.drop o) (m.drop o) = some r → (Go.Op.eqFields d' xs ys fs).run P w = .ok r w := by
            intro fs
            induction fs with
            | nil =>
              intro o ks r w h1 h2
              simp only [leafFs, Option.some.injEq] at h1
              subst h1
              obtain ⟨f1, f2⟩ := eqL_len _ _ _ _ h2
              rw [List.eq_nil_of_length_eq_zero f1, List.eq_nil_of_length_eq_zero f2] at h2
              simp only [eqL, Option.some.injEq] at h2
              subst h2
              simp [Go.Op.eqFields]
            | cons f fs ihf =>
              intro o ks r w h1 h2
              simp only [leafFs] at h1
              split at h1
              · rename_i hname
                simp only [Bool.and_eq_true, bne_iff_ne, ne_eq, beq_iff_eq] at hname
                obtain ⟨hname, hoff⟩ := hname
                cases hle : leaves P d f.type with
                | none => simp [hle] at h1
                | some le =>
                  cases hse : sizeT P f.type with
                  | none => simp [hle, hse] at h1
                  | some k =>
                    simp only [hle, hse] at h1
                    split at h1
                    · rename_i hlen
                      obtain ⟨hlen, hk0⟩ := hlen
                      cases hrest : leafFs P (leaves P d) (o + k) fs with
                      | none => simp [hrest] at h1
                      | some km =>
                        simp only [hrest, Option.some.injEq] at h1
                        subst h1
                        obtain ⟨r1, r2, g1, g2, g3, g4, g5⟩ := eqL_app _ _ _ _ _ h2
                        rw [hlen] at g1 g2 g4 g5
                        simp only [List.length_drop] at g4 g5
                        have hp1 := run_part_val (P := P) w hse hle hlen xs o (by omega)
                        have hp2 := run_part_val (P := P) w hse hle hlen ys o (by omega)
                        have h1 := ih f.type le hle d' (by omega) _ _ _ _ r1 g1 (hx.slice (o := o) (n := k) (by omega)) (hy.slice (o := o) (n := k) (by omega)) w
                        have h2 := ihf (o + k) km r2 w hrest (by rw [List.drop_drop, List.drop_drop] at g2; exact g2)
                        simp only [Go.Op.eqFields, hname, not_false_eq_true, ne_eq, if_true, Go.Sem.run_bind, hoff, hp1, hp2, Result.andThen_ok, h1, Go.Sem.run_ite, Go.Sem.run_pure, h2, g3]
                        cases r1 <;> simp
                    · simp at h1
              · simp at h1
          exact key fs.toList 0 ks r w hl (by simpa using he)

theorem CKs_beq : ∀ (l m : List CK), CKs.beq l m = true → l = m := by
  intro l
  induction l with
  | nil => intro m h; cases m <;> simp [CKs.beq] at h ⊢
  | cons x l ih =>
    intro m h
    cases m with
    | nil => simp [CKs.beq] at h
    | cons y m =>
      simp only [CKs.beq, Bool.and_eq_true] at h
      have : x = y := by
        cases x <;> cases y <;> simp [CK.beq] at h ⊢
        exact h.1
      rw [this, ih m h.2]

theorem run_eq_np (w : World) (t e : TypeId) (p : Option Addr) (h : P.underlying t = some (.pointer e)) (d : Nat) :
    (Go.Op.equalIn (d + 1) t (.pointer none) (.pointer p)).run P w = .ok p.isNone w := by
  simp only [Go.Op.equalIn, Go.Sem.run_bind, run_und h, Result.andThen_ok, Go.Sem.run_pure]
theorem run_eq_pn (w : World) (t e : TypeId) (a : Addr) (h : P.underlying t = some (.pointer e)) (d : Nat) :
    (Go.Op.equalIn (d + 1) t (.pointer (some a)) (.pointer none)).run P w = .ok false w := by
  simp only [Go.Op.equalIn, Go.Sem.run_bind, run_und h, Result.andThen_ok, Go.Sem.run_pure]
theorem run_eq_sn (w : World) (t e : TypeId) (a : Option Addr) (l k : Nat) (h : P.underlying t = some (.slice e)) (d : Nat) :
    (Go.Op.equalIn (d + 1) t (.slice a l k) (.slice none 0 0)).run P w = .ok a.isNone w := by
  cases a <;> simp only [Go.Op.equalIn, Go.Sem.run_bind, run_und h, Result.andThen_ok, Go.Sem.run_pure, Option.isNone]

theorem run_eq_fn (w : World) (t : TypeId) (a b : Array TypeId) (v : Bool) (F : Go.Fn) (xs ys : Array Value) (h : P.underlying t = some (.func a b v)) (d : Nat) :
    (Go.Op.equalIn (d + 1) t (.func F xs ys) .nilFunc).run P w = .ok false w := by
  simp only [Go.Op.equalIn, Go.Sem.run_bind, run_und h, Result.andThen_ok, Go.Sem.run_pure]
theorem run_eq_nn (w : World) (t : TypeId) (a b : Array TypeId) (v : Bool) (h : P.underlying t = some (.func a b v)) (d : Nat) :
    (Go.Op.equalIn (d + 1) t .nilFunc .nilFunc).run P w = .ok true w := by
  simp only [Go.Op.equalIn, Go.Sem.run_bind, run_und h, Result.andThen_ok, Go.Sem.run_pure]

/-- What a comparison of values that are no numbers and no strings comes to. -/
theorem eqv_ok {k : EqK} {x y : V} {X Y : Value} (hx : VR φ c x X) (hy : VR φ c y Y) {r : Bool} (h : eqV k x y = some r) {t : TypeId} (hg : P.eqGuardType P.depth t = false)
    (ht : eqTypOk P t k = true) (xo yo : Operand) (bo : Go.BinOp) (neg : Bool) (hb : eqOpOk bo neg = true) (w : World) :
    (do Go.eqGuard bo t xo yo X Y; Go.binOp bo t X Y : Sem Value).run P w = .ok (.bool (r != neg)) w := by
  have hbo : (bo = .eql ∧ neg = false) ∨ (bo = .neq ∧ neg = true) := by
    cases bo <;> cases neg <;> simp [eqOpOk] at hb ⊢
  have fin : (∀ A B, X ≠ .int A B) → (∀ A, X ≠ .string A) → (Go.eqGuard bo t xo yo X Y).run P w = .ok () w → (Go.Op.equal t X Y).run P w = .ok r w →
      (∀ A B : Unit, Go.binOp .eql t X Y = (do pure (.bool (← Go.Op.equal t X Y)))) → (∀ A B : Unit, Go.binOp .neq t X Y = (do pure (.bool (!(← Go.Op.equal t X Y))))) →
      (do Go.eqGuard bo t xo yo X Y; Go.binOp bo t X Y : Sem Value).run P w = .ok (.bool (r != neg)) w := by
    intro _ _ h1 h2 h3 h4
    rcases hbo with ⟨rfl, rfl⟩ | ⟨rfl, rfl⟩
    · simp only [Go.Sem.run_bind, h1, Result.andThen_ok, h3 () (), h2, Go.Sem.run_pure]; simp
    · simp only [Go.Sem.run_bind, h1, Result.andThen_ok, h4 () (), h2, Go.Sem.run_pure]; simp
  cases k with
  | bool =>
    cases hx <;> cases hy <;> simp only [eqV, Option.some.injEq, reduceCtorEq] at h
    subst h
    have hu : P.underlying t = some .bool := by
      cases hu : P.underlying t with
      | none => simp [eqTypOk, hu] at ht
      | some d => cases d <;> simp [eqTypOk, hu] at ht ⊢
    refine fin (by simp) (by simp) (by cases bo <;> simp [Go.eqGuard]) (Go.run_equal_bool w t _ _ hu) (fun _ _ => rfl) (fun _ _ => rfl)
  | ptr =>
    have hu : ∃ e, P.underlying t = some (.pointer e) := by
      cases hu : P.underlying t with
      | none => simp [eqTypOk, hu] at ht
      | some d => cases d <;> simp [eqTypOk, hu] at ht ⊢
    obtain ⟨e, hu⟩ := hu
    have he : (Go.Op.equalIn (9999 + 1) t X Y).run P w = .ok r w := by
      cases hx <;> cases hy <;> simp only [eqV, Option.some.injEq, reduceCtorEq] at h <;> subst h <;>
        first | exact run_eq_np w t e _ hu 9999 | exact run_eq_pn w t e _ hu 9999
    cases hx <;> cases hy <;> simp only [eqV, reduceCtorEq] at h <;>
      exact fin (by simp) (by simp) (by cases bo <;> simp [Go.eqGuard]) he (fun _ _ => rfl) (fun _ _ => rfl)
  | slice =>
    have hu : ∃ e, P.underlying t = some (.slice e) := by
      cases hu : P.underlying t with
      | none => simp [eqTypOk, hu] at ht
      | some d => cases d <;> simp [eqTypOk, hu] at ht ⊢
    obtain ⟨e, hu⟩ := hu
    have he : (Go.Op.equalIn (9999 + 1) t X Y).run P w = .ok r w := by
      cases hx <;> cases hy <;> simp only [eqV, Option.some.injEq, reduceCtorEq] at h <;> first
        | (subst h; exact run_eq_sn w t e _ _ _ hu 9999)
        | (split at h
           · simp at h
           · simp only [Option.some.injEq] at h; subst h; exact run_eq_sn w t e _ _ _ hu 9999)
        | (simp at h; done)
    cases hx <;> cases hy <;> simp only [eqV, reduceCtorEq] at h <;>
      exact fin (by simp) (by simp) (by cases bo <;> simp [Go.eqGuard]) he (fun _ _ => rfl) (fun _ _ => rfl)
  | func =>
    have hu : ∃ a b v, P.underlying t = some (.func a b v) := by
      cases hu : P.underlying t with
      | none => simp [eqTypOk, hu] at ht
      | some d => cases d <;> simp [eqTypOk, hu] at ht ⊢
    obtain ⟨a, b, v, hu⟩ := hu
    have he : (Go.Op.equalIn (9999 + 1) t X Y).run P w = .ok r w := by
      cases hx <;> cases hy <;> simp only [eqV, Option.some.injEq, reduceCtorEq] at h <;> subst h <;>
        first | exact run_eq_fn w t a b v _ _ _ hu 9999 | exact run_eq_nn w t a b v hu 9999
    cases hx <;> cases hy <;> simp only [eqV, reduceCtorEq] at h <;>
      exact fin (by simp) (by simp) (by cases bo <;> simp [Go.eqGuard]) he (fun _ _ => rfl) (fun _ _ => rfl)
  | agg ks =>
    cases hx <;> cases hy <;> simp only [eqV, reduceCtorEq] at h
    rename_i l xs hl1 hl2 m ys hm1 hm2
    have hu : isAggT P t = true ∧ leaves P 20 t = some ks := by
      have fl : (match leaves P 20 t with
          | some l => CKs.beq l ks
          | none => false) = true → leaves P 20 t = some ks := by
        intro h
        cases hle : leaves P 20 t with
        | none => simp [hle] at h
        | some le => simp only [hle] at h; rw [CKs_beq _ _ h]
      unfold isAggT
      cases hu : P.underlying t with
      | none => simp [eqTypOk, hu] at ht
      | some d => cases d <;> simp only [eqTypOk, hu, Bool.false_eq_true] at ht ⊢ <;> exact ⟨trivial, fl ht⟩
    have he := equal_ok 20 t ks hu.2 10000 (by omega) l m xs ys r h ⟨hl1, hl2⟩ ⟨hm1, hm2⟩ w
    simp only [valT, hu.1, if_true] at he
    exact fin (by simp) (by simp) (Go.run_eqGuard_agg w bo t xo yo xs ys hg) he (fun _ _ => rfl) (fun _ _ => rfl)

end
end Mir
