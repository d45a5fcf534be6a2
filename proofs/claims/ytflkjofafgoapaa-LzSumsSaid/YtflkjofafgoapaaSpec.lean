/- The plain model of the lz block: sequences, what a block parses to, what it opens to. No program in sight but the printed names' own types. -/
import Derived.Test.YtflkjofafgoapaaQx0
namespace Go.Proofs.Ytflkjofafgoapaa.Lz

/-- A sequence: literals, distance, how many bytes are repeated. -/
abbrev Sq := List UInt8 × Nat × Nat

def pExt : Nat → List UInt8 → Option (Nat × List UInt8)
  | _, [] => none
  | n, c :: r => if c.toNat < 255 then some (n + c.toNat, r) else pExt (n + 255) r
def pNum (n : Nat) (l : List UInt8) : Option (Nat × List UInt8) := if n < 15 then some (n, l) else pExt n l

def parse : Nat → Nat → List UInt8 → Option (List Sq)
  | 0, _, _ => none
  | _ + 1, _, [] => none
  | k + 1, long, t :: r =>
    match pNum (t.toNat / 16) r with
    | none => none
    | some (L, r1) =>
      if r1.length < L then none else
      match r1.drop L with
      | [] => if t.toNat % 16 = 0 then some [(r1.take L, 0, 0)] else none
      | [_] => none
      | a :: b :: r3 =>
        match pNum (t.toNat % 16) r3 with
        | none => none
        | some (M, r4) =>
          if a.toNat + 256 * b.toNat = 0 then none else
          if long + L < a.toNat + 256 * b.toNat then none else
          (parse k (long + L + (M + 4)) r4).map ((r1.take L, a.toNat + 256 * b.toNat, M + 4) :: ·)

/-- A text's parse. -/
def parseOf (s : ByteArray) : Option (List Sq) := parse s.size 0 s.data.toList

def total : List Sq → Nat
  | [] => 0
  | (l, _, m) :: r => l.length + m + total r

/-- One byte is repeated. -/
def rep (out : List UInt8) (d : Nat) : Nat → List UInt8
  | 0 => out
  | m + 1 => rep (out ++ [out.getD (out.length - d) 0]) d m

def openFrom (out : List UInt8) : List Sq → List UInt8
  | [] => out
  | (l, d, m) :: r => openFrom (rep (out ++ l) d m) r
def openL (l : List Sq) : List UInt8 := openFrom [] l

/-- What each sequence asks of what is ahead of it. -/
def Fits : Nat → List Sq → Prop
  | _, [] => True
  | n, (l, d, m) :: r => (m ≠ 0 → 1 ≤ d ∧ d ≤ n + l.length) ∧ Fits (n + l.length + m) r

theorem length_rep (d m : Nat) : ∀ out : List UInt8, (rep out d m).length = out.length + m := by
  induction m with
  | zero => intro out; rfl
  | succ m ih => intro out; rw [rep, ih]; simp; omega

theorem length_openFrom (l : List Sq) : ∀ out, (openFrom out l).length = out.length + total l := by
  induction l with
  | nil => intro out; simp [openFrom, total]
  | cons x r ih => obtain ⟨a, d, m⟩ := x; intro out; rw [openFrom, ih, length_rep]; simp [total]; omega

theorem length_openL (l : List Sq) : (openL l).length = total l := by rw [openL, length_openFrom]; simp

theorem pExt_lt : ∀ (l : List UInt8) (n m : Nat) (r : List UInt8), pExt n l = some (m, r) → r.length < l.length ∧ m < n + 255 * l.length := by
  intro l
  induction l with
  | nil => intro n m r h; simp [pExt] at h
  | cons c t ih =>
    intro n m r h
    rw [pExt] at h
    split at h
    · simp at h; obtain ⟨rfl, rfl⟩ := h; simp; omega
    · have := ih _ _ _ h; simp; omega
theorem pNum_le (l : List UInt8) (n m : Nat) (r : List UInt8) (h : pNum n l = some (m, r)) : r.length ≤ l.length ∧ m ≤ n + 255 * l.length := by
  unfold pNum at h
  split at h
  · simp at h; obtain ⟨rfl, rfl⟩ := h; omega
  · have := pExt_lt l n m r h; omega

theorem parse_fits : ∀ (k long : Nat) (bs : List UInt8) (l : List Sq), parse k long bs = some l → Fits long l := by
  intro k
  induction k with
  | zero => intro long bs l h; simp [parse] at h
  | succ k ih =>
    intro long bs l h
    cases bs with
    | nil => simp [parse] at h
    | cons t r =>
      simp only [parse] at h
      split at h
      · cases h
      · rename_i L r1 e1
        split at h
        · cases h
        · split at h
          · split at h
            · simp at h; subst h; simp [Fits]
            · cases h
          · cases h
          · rename_i hlt a b r3 e2
            split at h
            · cases h
            · rename_i M r4 e3
              split at h
              · cases h
              · split at h
                · cases h
                · simp only [Option.map_eq_some_iff] at h
                  obtain ⟨q, hq, rfl⟩ := h
                  have hl : (r1.take L).length = L := by simp; omega
                  refine ⟨fun _ => ⟨by omega, by omega⟩, ?_⟩
                  rw [hl]
                  exact ih _ _ _ hq

theorem parse_len : ∀ (k long : Nat) (bs : List UInt8) (l : List Sq), parse k long bs = some l → l.length ≤ bs.length := by
  intro k
  induction k with
  | zero => intro long bs l h; simp [parse] at h
  | succ k ih =>
    intro long bs l h
    cases bs with
    | nil => simp [parse] at h
    | cons t r =>
      simp only [parse] at h
      split at h
      · cases h
      · rename_i L r1 e1
        have g1 := pNum_le _ _ _ _ e1
        split at h
        · cases h
        · split at h
          · split at h
            · simp at h; subst h; simp
            · cases h
          · cases h
          · rename_i hlt a b r3 e2
            have g2 := congrArg List.length e2
            simp at g2
            split at h
            · cases h
            · rename_i M r4 e3
              have g3 := pNum_le _ _ _ _ e3
              split at h
              · cases h
              · split at h
                · cases h
                · simp only [Option.map_eq_some_iff] at h
                  obtain ⟨q, hq, rfl⟩ := h
                  have := ih _ _ _ hq
                  simp
                  omega

def mk (l : List UInt8) : ByteArray := ⟨l.toArray⟩
theorem mk_toList (s : ByteArray) : mk s.data.toList = s := by cases s; simp [mk]
theorem mk_inj {a b : List UInt8} (h : mk a = mk b) : a = b := by
  have : (mk a).data.toList = (mk b).data.toList := by rw [h]
  simpa [mk] using this

/-- What a text unpacks to: the bytes and a code. -/
def unpackOf (s : ByteArray) (n : Int) : ByteArray × Int :=
  if n < 0 then (⟨#[]⟩, 1) else if n > 1048576 then (⟨#[]⟩, 1) else
  match parseOf s with
  | none => (⟨#[]⟩, 120)
  | some l => if (total l : Int) = n then (mk (openL l), 0) else (⟨#[]⟩, 120)

end Go.Proofs.Ytflkjofafgoapaa.Lz
