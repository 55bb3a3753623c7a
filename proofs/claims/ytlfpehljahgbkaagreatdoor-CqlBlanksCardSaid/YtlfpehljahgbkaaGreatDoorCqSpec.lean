/-
  What the functions of chapter 11 compute, as plain functions on lists of bytes. Own text. Conditions: none.
-/
namespace Cq
def blank (c : UInt8) : Bool := (c.toNat : Int) == 32 || (c.toNat : Int) == 9 || (c.toNat : Int) == 10 || (c.toNat : Int) == 13
def plain (c : UInt8) : Bool := !blank c && (c.toNat : Int) != 40 && (c.toNat : Int) != 41 && (c.toNat : Int) != 34 && (c.toNat : Int) != 61 && (c.toNat : Int) != 60 && (c.toNat : Int) != 62

/-- What stands in a string behind its first quote, and how many bytes that is with the last one. -/
def quoted : List UInt8 → Option (List UInt8 × Nat)
  | [] => none
  | c :: r =>
    if c = 34 then some ([], 1)
    else if c = 92 then
      match r with
      | [] => none
      | d :: r' => (quoted r').map fun p => (d :: p.1, p.2 + 2)
    else (quoted r).map fun p => (c :: p.1, p.2 + 1)

structure Tok where
  kind : Nat
  text : List UInt8
  pos : Nat
deriving DecidableEq

/-- The token at the head of the rest, which has no blank in front, and its length. -/
def head (rest : List UInt8) (j : Nat) : Tok × Nat :=
  match rest with
  | [] => (⟨0, [], j⟩, 0)
  | c :: r =>
    if c = 34 then
      match quoted r with
      | some (t, n) => (⟨2, t, j⟩, n + 1)
      | none => (⟨4, [], j⟩, r.length + 1)
    else if c = 61 ∧ r.head? = some 61 then (⟨1, [61, 61], j⟩, 2)
    else if c = 62 ∧ r.head? = some 61 then (⟨1, [62, 61], j⟩, 2)
    else if c = 62 then (⟨4, [], j⟩, 0)
    else if plain c then (⟨3, (c :: r).takeWhile plain, j⟩, ((c :: r).takeWhile plain).length)
    else (⟨1, [c], j⟩, 1)
def skip (s : List UInt8) (i : Nat) : Nat := i + ((s.drop i).takeWhile blank).length
def lex (s : List UInt8) (i : Nat) : Tok × Nat := let r := head (s.drop (skip s i)) (skip s i); (r.1, skip s i + r.2)
def over (t : Tok) : Bool := t.kind == 0 || t.kind == 4
def toks (s : List UInt8) : Nat → Nat → List Tok
  | 0, _ => []
  | f + 1, i => if over (lex s i).1 then [(lex s i).1] else (lex s i).1 :: toks s f (lex s i).2
def tokens (s : List UInt8) : List Tok := toks s (s.length + 1) 0

def low (c : UInt8) : UInt8 := if 65 ≤ c.toNat ∧ c.toNat ≤ 90 then c + 32 else c
def small (s : List UInt8) : List UInt8 := s.map low
def indexes : List (List UInt8) := [[116, 105, 116, 108, 101], [97, 117, 116, 104, 111, 114], [115, 117, 98, 106, 101, 99, 116], [105, 115, 98, 110], [97, 110, 121], [121, 101, 97, 114]]
def relations : List (List UInt8) := [[61], [61, 61], [60], [62, 61], [97, 110, 121], [97, 108, 108]]
def operator (t : Tok) : Nat :=
  if t.kind ≠ 3 then 0
  else if small t.text = [97, 110, 100] then 2 else if small t.text = [111, 114] then 3 else if small t.text = [110, 111, 116] then 4 else 0
def relation (t : Tok) : Bool := relations.contains (small t.text) && (t.kind == 3 || t.kind == 1)

/-- Lists of queries. -/
inductive Qs where
  | nil
  | cons (k : Int) (i r t : List UInt8) (ps rest : Qs)
deriving DecidableEq
structure Qn where
  k : Int
  i : List UInt8
  r : List UInt8
  t : List UInt8
  ps : Qs
deriving DecidableEq
def Qs.len : Qs → Nat
  | .nil => 0
  | .cons _ _ _ _ _ rest => rest.len + 1
def Qn.push (q : Qn) (rest : Qs) : Qs := .cons q.k q.i q.r q.t q.ps rest
def two (op : Nat) (a b : Qn) : Qn := ⟨op, [], [], [], a.push (b.push .nil)⟩
def zero : Qn := ⟨0, [], [], [], .nil⟩

inductive Res where
  | ok (q : Qn) (ts : List Tok)
  | err (pos e : Nat)
deriving DecidableEq

def lp : Tok → Bool := fun t => t.kind == 1 && t.text == [40]
def rp : Tok → Bool := fun t => t.kind == 1 && t.text == [41]
def isTerm (t : Tok) : Bool := (t.kind == 2 || t.kind == 3) && operator t == 0
mutual
def clause : Nat → Nat → List Tok → Res
  | 0, _, _ => .err 0 0
  | _ + 1, _, [] => .err 0 0
  | f + 1, deep, t :: r =>
    if lp t then
      if deep + 1 > 50 then .err t.pos 41
      else match query f (deep + 1) r with
        | .err p e => .err p e
        | .ok _ [] => .err 0 0
        | .ok q (t2 :: r2) => if rp t2 then .ok q r2 else .err t2.pos 40
    else if !isTerm t then .err t.pos 40
    else match t.kind == 3, r with
      | true, t2 :: r2 =>
        if relation t2 then
          if !indexes.contains (small t.text) then .err t.pos 42
          else match r2 with
            | [] => .err 0 0
            | t3 :: r3 => if isTerm t3 then .ok ⟨1, small t.text, small t2.text, t3.text, .nil⟩ r3 else .err t3.pos 40
        else .ok ⟨1, [97, 110, 121], [61], t.text, .nil⟩ r
      | _, _ => .ok ⟨1, [97, 110, 121], [61], t.text, .nil⟩ r
def query : Nat → Nat → List Tok → Res
  | 0, _, _ => .err 0 0
  | f + 1, deep, ts =>
    match clause f deep ts with
    | .err p e => .err p e
    | .ok q ts2 => more f deep q ts2
def more : Nat → Nat → Qn → List Tok → Res
  | 0, _, _, _ => .err 0 0
  | _ + 1, _, _, [] => .err 0 0
  | f + 1, deep, q, t :: r =>
    if operator t = 0 then .ok q (t :: r)
    else match clause f deep r with
      | .err p e => .err p e
      | .ok q2 ts2 => more f deep (two (operator t) q q2) ts2
end
/-- The query, the offset and the error. -/
def parse (s : List UInt8) : Qn × Nat × Nat :=
  match query (4 * s.length + 9) 0 (tokens s) with
  | .ok q (t :: _) => if t.kind = 0 then (q, 0, 0) else (zero, t.pos, 40)
  | .ok _ [] => (zero, 0, 40)
  | .err p e => (zero, p, e)
end Cq
