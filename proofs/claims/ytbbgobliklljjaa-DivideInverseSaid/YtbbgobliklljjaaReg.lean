/- A region of operations: in text order, and in whatever order the machine takes. Conditions: none. -/
import Derived.Test.YtbbgobliklljjaaStep
set_option linter.unusedVariables false
set_option linter.unusedSimpArgs false
namespace Mir
open Go (Value Addr IntKind World Obj Act Program FuncId TypeId Operand Op Oper Code TypeDesc Sem Result)

/- ## Slots as bits -/

def bits (l : List Nat) : Nat := l.foldl (fun m s => m ||| (1 <<< s)) 0

theorem bits_fold (l : List Nat) : ∀ (m s : Nat), (l.foldl (fun m s => m ||| (1 <<< s)) m).testBit s = true ↔ (m.testBit s = true ∨ s ∈ l) := by
  induction l with
  | nil => intro m s; simp
  | cons x l ih =>
    intro m s
    simp only [List.foldl_cons, ih, Nat.testBit_or, Bool.or_eq_true, List.mem_cons, Nat.testBit_shiftLeft, Bool.and_eq_true, decide_eq_true_eq]
    constructor
    · rintro ((h | ⟨h1, h2⟩) | h)
      · exact .inl h
      · have : s - x = 0 := by
          rw [Nat.testBit_one_eq_true_iff_self_eq_zero] at h2
          exact h2
        exact .inr (.inl (by omega))
      · exact .inr (.inr h)
    · rintro (h | rfl | h)
      · exact .inl (.inl h)
      · exact .inl (.inr ⟨Nat.le_refl _, by simp⟩)
      · exact .inr h

theorem bits_mem (l : List Nat) (s : Nat) : (bits l).testBit s = true ↔ s ∈ l := by
  unfold bits
  rw [bits_fold]
  simp

theorem bits_apart {a b s : Nat} (h : a &&& b = 0) (ha : a.testBit s = true) (hb : b.testBit s = true) : False := by
  have := congrArg (fun x => x.testBit s) h
  simp [Nat.testBit_and, ha, hb] at this

/- ## Checks -/

/-- No operation writes a slot of which an address has been made before (or is made by itself). -/
def okB (D : Nat) : List MO → Bool
  | [] => true
  | m :: r => (match m.d with
    | some d => !(D ||| bits m.op.addrs).testBit d
    | none => true) && okB (D ||| bits m.op.addrs) r

def okD (D : List Nat) : List MO → Prop
  | [] => True
  | m :: r => (∀ d, m.d = some d → d ∉ D ++ m.op.addrs) ∧ okD (D ++ m.op.addrs) r

def okPair (x y : MO) : Prop := ∀ d, y.d = some d → d ∉ x.op.addrs

theorem okD_iff : ∀ (l : List MO) (D : List Nat), okD D l ↔ (∀ m ∈ l, ∀ d, m.d = some d → d ∉ D ∧ d ∉ m.op.addrs) ∧ l.Pairwise okPair
  | [], D => by simp [okD]
  | m :: l, D => by
    simp only [okD, okD_iff l, List.pairwise_cons, List.mem_append, not_or]
    constructor
    · rintro ⟨h1, h2, h3⟩
      refine ⟨fun x hx d hd => ?_, fun y hy d hd => ?_, h3⟩
      · rcases List.mem_cons.1 hx with rfl | hx
        · exact h1 d hd
        · exact ⟨(h2 x hx d hd).1.1, (h2 x hx d hd).2⟩
      · exact (h2 y hy d hd).1.2
    · rintro ⟨h1, h2, h3⟩
      exact ⟨h1 m (by simp), fun x hx d hd => ⟨⟨(h1 x (by simp [hx]) d hd).1, h2 x hx d hd⟩, (h1 x (by simp [hx]) d hd).2⟩, h3⟩

theorem okB_ok : ∀ (l : List MO) (D : Nat) (E : List Nat), (∀ s, D.testBit s = true ↔ s ∈ E) → okB D l = true → okD E l
  | [], _, _, _, _ => trivial
  | m :: l, D, E, hD, h => by
    simp only [okB, Bool.and_eq_true] at h
    have hD' : ∀ s, (D ||| bits m.op.addrs).testBit s = true ↔ s ∈ E ++ m.op.addrs := by
      intro s
      simp [Nat.testBit_or, hD, bits_mem]
    refine ⟨fun d hd hm => ?_, okB_ok l _ _ hD' h.2⟩
    have h1 := h.1
    simp only [hd, Bool.not_eq_true'] at h1
    rw [(hD' d).2 hm] at h1
    cases h1

/-- The slots that an operation reads and writes, as bits; how it stands to the small heap. -/
def sumUp (m : MO) : Nat × Nat × Nat := (bits m.reads, bits m.writes, m.op.cls)

def indepB (x y : Nat × Nat × Nat) : Bool :=
  (x.2.1 &&& (y.1 ||| y.2.1)) == 0 && (y.2.1 &&& x.1) == 0 && (Nat.beq x.2.2 0 || Nat.beq y.2.2 0 || (Nat.beq x.2.2 1 && Nat.beq y.2.2 1))

theorem indepB_ok {x y : MO} (h : indepB (sumUp x) (sumUp y) = true) : Indep x y := by
  simp only [indepB, sumUp, Bool.and_eq_true, beq_iff_eq, Bool.or_eq_true, Nat.beq_eq_true_eq] at h
  obtain ⟨⟨h1, h2⟩, h3⟩ := h
  have hb : ∀ a b : Nat, a.beq b = true ↔ a = b := fun a b => ⟨Nat.eq_of_beq_eq_true, fun h => by subst h; simp⟩
  simp only [hb] at h3
  refine ⟨fun s hs hr => bits_apart h1 ((bits_mem _ _).2 hs) (by simp [Nat.testBit_or, (bits_mem _ _).2 hr]), fun s hs hr => bits_apart h1 ((bits_mem _ _).2 hs) (by simp [Nat.testBit_or, (bits_mem _ _).2 hr]),
    fun s hs hr => bits_apart h2 ((bits_mem _ _).2 hs) ((bits_mem _ _).2 hr), fun e => ?_, fun e => ?_⟩ <;> omega

/-- What must come before each operation, as bits. -/
def ancs : List Oper → List Nat → List Nat
  | [], acc => acc
  | o :: r, acc => ancs r (acc ++ [o.after.toList.foldl (fun m e => if Go.Region.binds .any e then m ||| (1 <<< e.on) ||| acc.getD e.on 0 else m) 0])

def ancOk (A : List Nat) (o : Oper) (j aj : Nat) : Bool :=
  o.after.toList.all (fun e => !Go.Region.binds .any e || decide (e.on < j)) &&
    aj == o.after.toList.foldl (fun m e => if Go.Region.binds .any e then m ||| (1 <<< e.on) ||| A.getD e.on 0 else m) 0

def drawOkG (A : List Nat) (I : List (Nat × Nat × Nat)) (ops : List Oper) : Nat → List Oper → List Nat → List (Nat × Nat × Nat) → Bool
  | _, [], _, _ => true
  | j, o :: os, aj :: as, ij :: is => ancOk A o j aj && (List.range j).all (fun i => aj.testBit i || indepB (I.getD i (0, 0, 0)) ij) && drawOkG A I ops (j + 1) os as is
  | _, _, _, _ => false

def drawOk (ops : List Oper) (ms : List MO) : Bool := drawOkG (ancs ops []) (ms.map sumUp) ops 0 ops (ancs ops []) (ms.map sumUp)

theorem drawOkG_spec {A : List Nat} {I : List (Nat × Nat × Nat)} {ops0 : List Oper} : ∀ (os : List Oper) (as : List Nat) (is : List (Nat × Nat × Nat)) (k : Nat), drawOkG A I ops0 k os as is = true →
    ∀ (j : Nat) (o : Oper), os[j]? = some o → ∃ aj ij, as[j]? = some aj ∧ is[j]? = some ij ∧ ancOk A o (k + j) aj = true ∧ ∀ i, i < k + j → (aj.testBit i = true ∨ indepB (I.getD i (0, 0, 0)) ij = true)
  | [], _, _, k, _, j, o, h => by simp at h
  | o0 :: os, [], _, k, h, j, o, _ => by simp [drawOkG] at h
  | o0 :: os, _ :: _, [], k, h, j, o, _ => by simp [drawOkG] at h
  | o0 :: os, a :: as, i0 :: is, k, h, j, o, ho => by
    simp only [drawOkG, Bool.and_eq_true, List.all_eq_true, List.mem_range, Bool.or_eq_true] at h
    cases j with
    | zero =>
      simp at ho
      subst ho
      exact ⟨a, i0, rfl, rfl, h.1.1, fun i hi => h.1.2 i hi⟩
    | succ j =>
      obtain ⟨aj, ij, h1, h2, h3, h4⟩ := drawOkG_spec os as is (k + 1) h.2 j o (by simpa using ho)
      refine ⟨aj, ij, by simpa using h1, by simpa using h2, ?_, fun i hi => h4 i (by omega)⟩
      have : k + (j + 1) = k + 1 + j := by omega
      rw [this]; exact h3

theorem ancFold (A : List Nat) : ∀ (es : List Go.Edge) (m i : Nat), (es.foldl (fun m e => if Go.Region.binds .any e then m ||| (1 <<< e.on) ||| A.getD e.on 0 else m) m).testBit i = true →
    m.testBit i = true ∨ ∃ e ∈ es, Go.Region.binds .any e = true ∧ (i = e.on ∨ (A.getD e.on 0).testBit i = true)
  | [], m, i, h => .inl h
  | e :: es, m, i, h => by
    simp only [List.foldl_cons] at h
    rcases ancFold A es _ i h with h | ⟨e', h1, h2⟩
    · by_cases hb : Go.Region.binds .any e = true
      · simp only [hb, if_true, Nat.testBit_or, Bool.or_eq_true, Nat.testBit_shiftLeft, Bool.and_eq_true, decide_eq_true_eq] at h
        rcases h with (h | ⟨h1, h2⟩) | h
        · exact .inl h
        · rw [Nat.testBit_one_eq_true_iff_self_eq_zero] at h2
          exact .inr ⟨e, by simp, hb, .inl (by omega)⟩
        · exact .inr ⟨e, by simp, hb, .inr h⟩
      · simp only [hb] at h
        exact .inl h
    · exact .inr ⟨e', by simp [h1], h2⟩

/- ## The orders that the machine may take -/

/-- What must come before an operation does. -/
def Topo (ops : Array Oper) (L : List Nat) : Prop :=
  ∀ pre j suf, L = pre ++ j :: suf → ∀ o, ops[j]? = some o → ∀ e ∈ o.after, Go.Region.binds .any e = true → e.on ∈ pre

theorem Topo.snoc {ops : Array Oper} {L : List Nat} {i : Nat} (h : Topo ops L) (hi : ∀ o, ops[i]? = some o → ∀ e ∈ o.after, Go.Region.binds .any e = true → e.on ∈ L) : Topo ops (L ++ [i]) := by
  intro pre j suf he o ho e hm hb
  rcases List.append_eq_append_iff.1 he with ⟨as, h1, h2⟩ | ⟨bs, h1, h2⟩
  · rcases List.append_eq_cons_iff.1 h2.symm with ⟨h3, h4⟩ | ⟨as', h3, h4⟩
    · simp at h4
      subst h3
      simp at h1
      subst h1
      rw [h4.1] at ho
      exact hi o ho e hm hb
    · simp at h4
  · cases bs with
    | nil =>
      simp at h1 h2
      subst h1
      rw [h2.1] at ho
      exact hi o ho e hm hb
    | cons b bs =>
      simp at h2
      exact h pre j bs (by rw [h1, h2.1]) o ho e hm hb

theorem sorted_full : ∀ (l : List Nat) (k : Nat), l.Pairwise (· < ·) → (∀ x ∈ l, k ≤ x ∧ x < k + l.length) → l = List.range' k l.length
  | [], k, _, _ => rfl
  | x :: r, k, hp, hx => by
    obtain ⟨h1, h2⟩ := List.pairwise_cons.1 hp
    have hxk := hx x (by simp)
    have ih := sorted_full r (k + 1) h2 (fun y hy => by
      have := h1 y hy
      have := hx y (by simp [hy])
      simp at this
      omega)
    have : x = k := by
      cases r with
      | nil => simp at hxk; omega
      | cons y r' =>
        have h3 : y = k + 1 := by
          rw [List.length_cons, List.range'_succ] at ih
          exact (List.cons.inj ih).1
        have := h1 y (by simp)
        omega
    subst this
    rw [List.length_cons, List.range'_succ, ← ih]

theorem perm_range {l : List Nat} {n : Nat} (h1 : l.Nodup) (h2 : ∀ x ∈ l, x < n) (h3 : l.length = n) : l.Perm (List.range n) := by
  obtain ⟨g1, g2⟩ := isort_spec l h1
  have hl : (isort l).length = n := by rw [g2.length_eq, h3]
  have := sorted_full (isort l) 0 g1 (fun x hx => ⟨Nat.zero_le _, by rw [hl]; simpa using h2 x (g2.subset hx)⟩)
  rw [hl, ← List.range_eq_range'] at this
  rw [← this]
  exact g2.symm

theorem go_spec {ops : Array Oper} (hback : ∀ (j : Nat) o, ops[j]? = some o → ∀ e ∈ o.after, Go.Region.binds .any e = true → e.on < j) :
    ∀ (fuel t : Nat) (listed : Array Bool) (acc : List Nat), listed.size = ops.size → (∀ i, i < ops.size → (listed.getD i false = true ↔ i ∈ acc)) → acc.Nodup → (∀ i ∈ acc, i < ops.size) →
      fuel + acc.length = ops.size → Topo ops acc.reverse → (Go.Region.linearise.go .any ops fuel t listed acc).Perm (List.range ops.size) ∧ Topo ops (Go.Region.linearise.go .any ops fuel t listed acc)
  | 0, t, listed, acc, hs, hl, hn, hb, hf, ht => by
    simp only [Go.Region.linearise.go]
    exact ⟨(List.reverse_perm acc).trans (perm_range hn hb (by omega)), ht⟩
  | fuel + 1, t, listed, acc, hs, hl, hn, hb, hf, ht => by
    simp only [Go.Region.linearise.go]
    change (match (Go.Region.ready .any ops listed)[t % (Go.Region.ready .any ops listed).length]? with
      | some i => Go.Region.linearise.go .any ops fuel (t / (Go.Region.ready .any ops listed).length) (listed.setIfInBounds i true) (i :: acc)
      | none => acc.reverse).Perm (List.range ops.size) ∧ Topo ops (match (Go.Region.ready .any ops listed)[t % (Go.Region.ready .any ops listed).length]? with
      | some i => Go.Region.linearise.go .any ops fuel (t / (Go.Region.ready .any ops listed).length) (listed.setIfInBounds i true) (i :: acc)
      | none => acc.reverse)
    have hgd : ∀ i, i < ops.size → listed.getD i true = listed.getD i false := by
      intro i hi
      have : i < listed.size := by omega
      simp [this]
    cases hi : (Go.Region.ready .any ops listed)[t % (Go.Region.ready .any ops listed).length]? with
    | some i =>
      simp only []
      have hmem := List.mem_of_getElem? hi
      obtain ⟨h0, o, ho, hall⟩ := Go.mem_ready.1 hmem
      have hin : i < ops.size := (Array.getElem?_eq_some_iff.1 ho).1
      have hna : i ∉ acc := fun h => by
        rw [hgd i hin, (hl i hin).2 h] at h0
        cases h0
      refine go_spec hback fuel _ _ (i :: acc) (by simp [hs]) (fun j hj => ?_) (List.nodup_cons.2 ⟨hna, hn⟩) (fun j hj => ?_) (by simp; omega) ?_
      · by_cases hij : i = j
        · subst hij
          have : i < listed.size := by omega
          simp [this]
        · rw [Go.getD_set_ne false hij, hl j hj]
          simp [Ne.symm hij]
      · rcases List.mem_cons.1 hj with rfl | hj
        · exact hin
        · exact hb j hj
      · rw [List.reverse_cons]
        refine ht.snoc fun o' ho' e he hbind => ?_
        rw [ho] at ho'
        simp at ho'
        subst ho'
        have h1 := hall e he hbind
        have h2 := hback i o ho e he hbind
        exact List.mem_reverse.2 ((hl e.on (by omega)).1 h1)
    | none =>
      simp only []
      have hnil : Go.Region.ready .any ops listed = [] := by
        cases hr : Go.Region.ready .any ops listed with
        | nil => rfl
        | cons x xs =>
          rw [hr] at hi
          have hlt : t % (x :: xs).length < (x :: xs).length := Nat.mod_lt _ (by simp)
          rw [List.getElem?_eq_none_iff] at hi
          omega
      have hall : ∀ i, i < ops.size → i ∈ acc := by
        intro i
        induction i using Nat.strongRecOn with
        | _ i ih =>
          intro hi
          apply Classical.byContradiction
          intro hna
          have : i ∈ Go.Region.ready .any ops listed := by
            refine Go.mem_ready.2 ⟨?_, ops[i], by simp [hi], fun e he hbind => ?_⟩
            · rw [hgd i hi, ← Bool.not_eq_true, hl i hi]
              exact hna
            · have h1 := hback i ops[i] (by simp [hi]) e he hbind
              exact (hl e.on (by omega)).2 (ih e.on h1 (by omega))
          rw [hnil] at this
          simp at this
      exact ⟨(List.perm_ext_iff_of_nodup ((List.reverse_perm acc).nodup_iff.2 hn) List.nodup_range).2 fun x => ⟨fun h => by simpa using hb x (by simpa using h), fun h => by simpa using hall x (by simpa using h)⟩, ht⟩

theorem schedule_spec {ops : Array Oper} (hback : ∀ (j : Nat) o, ops[j]? = some o → ∀ e ∈ o.after, Go.Region.binds .any e = true → e.on < j) (t : Nat) :
    (Go.Region.schedule true ops t).Perm (List.range ops.size) ∧ Topo ops (Go.Region.schedule true ops t) := by
  simp only [Go.Region.schedule, Bool.true_or, if_true, Go.Region.linearise]
  refine go_spec hback ops.size t _ [] (by simp) (fun i hi => by simp [hi]) List.nodup_nil (by simp) (by simp) ?_
  intro pre j suf h
  simp at h

/- ## Regions -/

theorem addrs_reads (m : MOp) : ∀ s, s ∈ m.addrs → s ∈ m.reads := by
  intro s h
  cases m <;> simp only [MOp.addrs] at h <;> simp only [MOp.reads] <;> first
    | (simp at h; done)
    | exact h
    | (simp only [List.mem_append, List.mem_cons]; simp only [h, true_or, or_true]; done)

section
variable {P : Program} {φ : Nat → Option FuncId} {ψ : Prim → FuncId → Bool} {B : Base} {n : Nat} {c : Call}

theorem ops_wp (hE : Env0 P φ ψ) (hC : CallOk P φ c) {ops : Array Oper} {M : Nat → MO} {Q : Go.Exit → Act → World → Prop} : ∀ (L : List Nat) {st st' : St} {a : Act} {w : World} {O : Nat → Prop} {loc : List (Nat × Nat)} {D : List Nat},
    Sim φ B n st a w O loc D → (∀ i ∈ L, ∃ o, ops[i]? = some o ∧ chkOper P φ ψ n ops.toList o (M i) = true) → okD D (L.map M) → execOps c (L.map M) st = some st' →
    (∀ a' w' O' loc' D', Sim φ B n st' a' w' O' loc' D' → Q .normal a' w') → Go.wpOps P ops Q L a w
  | [], st, st', a, w, O, loc, D, hs, _, _, he, hQ => by
    simp [execOps] at he
    subst he
    exact hQ _ _ _ _ _ hs
  | i :: L, st, st', a, w, O, loc, D, hs, hc, hd, he, hQ => by
    rw [Go.wpOps_cons]
    simp only [List.map_cons, execOps] at he
    split at he
    · rename_i s1 h1
      obtain ⟨o, ho, hco⟩ := hc i (by simp)
      exact oper_step hs hE hC ho hco h1 hd.1 fun a' w' O' loc' h => ops_wp hE hC L h (fun j hj => hc j (by simp [hj])) hd.2 he hQ
    · simp at he

def chkOpers (P : Program) (φ : Nat → Option FuncId) (ψ : Prim → FuncId → Bool) (n : Nat) (ops : List Oper) : List Oper → List MO → Bool
  | [], [] => true
  | o :: os, m :: ms => chkOper P φ ψ n ops o m && chkOpers P φ ψ n ops os ms
  | _, _ => false

theorem chkOpers_spec {ops : List Oper} : ∀ (os : List Oper) (ms : List MO), chkOpers P φ ψ n ops os ms = true → os.length = ms.length ∧ ∀ (j : Nat) o m, os[j]? = some o → ms[j]? = some m → chkOper P φ ψ n ops o m = true
  | [], [], _ => ⟨rfl, fun j o m h => by simp at h⟩
  | [], _ :: _, h => by simp [chkOpers] at h
  | _ :: _, [], h => by simp [chkOpers] at h
  | o :: os, m :: ms, h => by
    simp only [chkOpers, Bool.and_eq_true] at h
    obtain ⟨h1, h2⟩ := chkOpers_spec os ms h.2
    refine ⟨by simp [h1], fun j o' m' ho hm => ?_⟩
    cases j with
    | zero => simp at ho hm; subst ho hm; exact h.1
    | succ j => exact h2 j o' m' (by simpa using ho) (by simpa using hm)

def chkReg (P : Program) (φ : Nat → Option FuncId) (ψ : Prim → FuncId → Bool) (n : Nat) (ops : Array Oper) (draw : Bool) (ms : List MO) : Bool :=
  chkOpers P φ ψ n ops.toList ops.toList ms && okB 0 ms && (!draw || drawOk ops.toList ms)

theorem Sim.eqv {st st1 : St} {a : Act} {w : World} {O : Nat → Prop} {loc : List (Nat × Nat)} {D : List Nat} (hs : Sim φ B n st a w O loc D) (he : Eqv st st1) : Sim φ B n st1 a w O loc D := by
  obtain ⟨h1, h2⟩ := he
  exact { hs with
    heap := h2 ▸ hs.heap
    env := fun s => h1 s ▸ hs.env s
    lps := fun s s' o h => hs.lps s s' o ((h1 s).trans h)
    lss := fun s z s' o m k h => hs.lss s z s' o m k ((h1 s).trans h)
    locs := fun s s' l l' b h h' => hs.locs s s' l l' b ((h1 s).trans h) ((h1 s').trans h')
    locH := fun s l b k r δ h hx hr => hs.locH s l b k r δ ((h1 s).trans h) hx (h2 ▸ hr)
    fresh := fun s l b h => hs.fresh s l b ((h1 s).trans h)
    freshH := fun k r b δ hr => hs.freshH k r b δ (h2 ▸ hr) }

theorem reg_wp (hE : Env0 P φ ψ) (hC : CallOk P φ c) (hm : P.follows .mixedOrders = true) {id : Nat} {ops : Array Oper} {draw : Bool} {ms : List MO} (hc : chkReg P φ ψ n ops draw ms = true)
    {Q : Go.Exit → Act → World → Prop} {st st' : St} {a : Act} {w : World} {O : Nat → Prop} {loc : List (Nat × Nat)} (hs : Sim φ B n st a w O loc []) (he : execOps c ms st = some st')
    (hQ : ∀ a' w' O' loc' D', Sim φ B n st' a' w' O' loc' D' → Q .normal a' w') : (Code.region id ops draw).wp P Q a w := by
  simp only [chkReg, Bool.and_eq_true] at hc
  obtain ⟨⟨h1, h2⟩, h3⟩ := hc
  obtain ⟨hlen, hop⟩ := chkOpers_spec _ _ h1
  have hlen' : ops.size = ms.length := by simpa using hlen
  let M : Nat → MO := fun i => ms.getD i ⟨none, none, .fail⟩
  have hMi : ∀ i m, ms[i]? = some m → M i = m := fun i m h => by simp [M, h]
  have hM : (List.range ops.size).map M = ms := by
    apply List.ext_getElem
    · simp [hlen']
    · intro i h4 h5
      simp [M, h5]
  have hopM : ∀ i, i < ops.size → ∃ o, ops[i]? = some o ∧ chkOper P φ ψ n ops.toList o (M i) = true := by
    intro i hi
    refine ⟨ops[i], by simp [hi], hop i ops[i] (M i) (by simp [hi]) ?_⟩
    have : i < ms.length := by omega
    simp [M, this]
  have hok : okD [] ms := okB_ok ms 0 [] (by simp) h2
  cases draw with
  | false =>
    refine Go.wp_region (ops_wp hE hC (M := M) _ hs (fun i hi => hopM i (by simpa using hi)) (by rw [hM]; exact hok) (by rw [hM]; exact he) hQ)
  | true =>
    simp only [Bool.not_true, Bool.false_or, drawOk] at h3
    have hspec := drawOkG_spec _ _ _ 0 h3
    have hg : ∀ i, i < ops.size → guardW (M i) = true := by
      intro i hi
      obtain ⟨o, _, h⟩ := hopM i hi
      simp only [chkOper, dstOk, Bool.and_eq_true] at h
      exact h.1.1.2.2
    have hw : ∀ i, i < ops.size → ∀ d, (M i).d = some d → d ∈ (M i).writes := by
      intro i hi d hd
      obtain ⟨o, _, h⟩ := hopM i hi
      simp only [chkOper, dstOk, Bool.and_eq_true] at h
      have h4 := h.1.1.2.1.1
      generalize M i = m at hd h4
      obtain ⟨d', g, op⟩ := m
      simp only at hd h4
      subst hd
      cases op <;> simp [MO.writes] at h4 ⊢
    have hback : ∀ (j : Nat) o, ops[j]? = some o → ∀ e ∈ o.after, Go.Region.binds .any e = true → e.on < j := by
      intro j o ho e hm hb
      obtain ⟨aj, ij, _, _, h4, _⟩ := hspec j o (by simpa using ho)
      simp only [ancOk, Bool.and_eq_true, List.all_eq_true, Bool.or_eq_true, Bool.not_eq_true', decide_eq_true_eq, Nat.zero_add] at h4
      rcases h4.1 e (by simpa using hm) with h5 | h5
      · rw [hb] at h5; cases h5
      · exact h5
    -- what must come before comes before
    have hanc : ∀ (L : List Nat), Topo ops L → ∀ (j : Nat) pre suf, L = pre ++ j :: suf → ∀ aj, (ancs ops.toList []).getD j 0 = aj → j < ops.size → ∀ i, aj.testBit i = true → i ∈ pre := by
      intro L hT j
      induction j using Nat.strongRecOn with
      | _ j ih =>
        intro pre suf hL aj haj hj i hi
        obtain ⟨aj', ij, h4, h5, h6, _⟩ := hspec j ops[j] (by simp [hj])
        have : aj = aj' := by rw [← haj]; simp [List.getD_eq_getElem?_getD, h4]
        subst this
        simp only [ancOk, Bool.and_eq_true, beq_iff_eq] at h6
        rw [h6.2] at hi
        rcases ancFold _ _ _ _ hi with h7 | ⟨e, h7, h8, h9⟩
        · simp at h7
        · have hej := hback j ops[j] (by simp [hj]) e (by simpa using h7) h8
          have hep := hT pre j suf hL ops[j] (by simp [hj]) e (by simpa using h7) h8
          rcases h9 with rfl | h9
          · exact hep
          · obtain ⟨p1, p2, hp⟩ := List.append_of_mem hep
            have := ih e.on hej p1 (p2 ++ j :: suf) (by rw [hL, hp]; simp) _ rfl (by omega) i h9
            rw [hp]
            exact List.mem_append_left _ this
    refine Go.wp_region_draw fun t => ?_
    rw [hm]
    obtain ⟨hperm, htopo⟩ := schedule_spec hback t
    generalize Go.Region.schedule true ops t = L at hperm htopo
    have hnd : L.Nodup := hperm.nodup_iff.2 List.nodup_range
    have hlt : ∀ i ∈ L, i < ops.size := fun i hi => by simpa using hperm.subset hi
    have hpair : L.Pairwise (fun x y => y < x → Indep (M y) (M x)) := by
      rw [List.pairwise_iff_getElem]
      intro p q hp hq hpq hlt'
      have hx := hlt _ (List.getElem_mem hp)
      have hy := hlt _ (List.getElem_mem hq)
      obtain ⟨aj, ij, h4, h5, h6, h7⟩ := hspec L[p] ops[L[p]] (by simp [hx])
      rcases h7 L[q] (by omega) with h8 | h8
      · -- it would have to come before
        exfalso
        have hsplit : L = L.take p ++ L[p] :: L.drop (p + 1) := by simp
        have := hanc L htopo L[p] (L.take p) (L.drop (p + 1)) hsplit aj (by simp [List.getD_eq_getElem?_getD, h4]) hx _ h8
        obtain ⟨r, hr, he⟩ := List.getElem_of_mem this
        simp only [List.length_take] at hr
        simp only [List.getElem_take] at he
        have := (List.pairwise_iff_getElem.1 hnd) r q (by omega) hq (by omega)
        exact this he
      · have e1 : (ms.map sumUp).getD L[q] (0, 0, 0) = sumUp (M L[q]) := by
          have : L[q] < ms.length := by omega
          simp [M, List.getD_eq_getElem?_getD, this]
        have e2 : ij = sumUp (M L[p]) := by
          have hx' : L[p] < ms.length := by omega
          simp only [List.getElem?_map] at h5
          simp [hx'] at h5
          rw [← h5]
          simp [M, hx']
        rw [e1, e2] at h8
        exact indepB_ok h8
    obtain ⟨st2, he2, hEq⟩ := order_free (c := c) M L hnd hpair (fun i hi => hg i (hlt i hi)) (st := st) (st' := st') (by rw [isort_range hperm, hM]; exact he)
    have hokL : okD [] (L.map M) := by
      rw [okD_iff] at hok ⊢
      refine ⟨fun m hm d hd => ?_, ?_⟩
      · obtain ⟨i, hi, rfl⟩ := List.mem_map.1 hm
        exact hok.1 _ (by rw [← hM]; exact List.mem_map.2 ⟨i, by simpa using hlt i hi, rfl⟩) d hd
      · rw [List.pairwise_map]
        rw [List.pairwise_iff_getElem] at hpair ⊢
        intro p q hp hq hpq
        have hx := hlt _ (List.getElem_mem hp)
        have hy := hlt _ (List.getElem_mem hq)
        have h4 := hok.2
        rw [← hM, List.pairwise_map, List.pairwise_iff_getElem] at h4
        rcases Nat.lt_trichotomy L[p] L[q] with h5 | h5 | h5
        · have h6 := h4 L[p] L[q] (by simpa using hx) (by simpa using hy) h5
          simp only [List.getElem_range] at h6
          exact h6
        · exfalso
          exact (List.pairwise_iff_getElem.1 hnd) p q hp hq hpq h5
        · have hi := hpair p q hp hq hpq h5
          intro d hd hm
          exact hi.xr d (hw _ hy d hd) (List.mem_append_right _ (addrs_reads _ _ hm))
    refine ops_wp hE hC (M := M) L (st := st) (st' := st2) (w := { w with drawn := w.drawn + 1 }) hs.drew (fun i hi => hopM i (hlt i hi)) hokL he2 fun a' w' O' loc' D' h => hQ a' w' O' loc' D' (h.eqv hEq.symm)

end
end Mir
