/- Tokens as plain functions: m: the converted bytes, l: the raw ones, p: the place. -/
import Derived.Test.YtmjeajfakhmakaaDoorLexS
namespace Hb

/-- What a reader returns: a token without its Layout, or an error. -/
structure LexR where
  kind : Int
  text : List UInt8
  n : Int
  at_ : Int
  end_ : Int
  err : Int
def errR (e : Int) : LexR := ⟨0, [], 0, 0, 0, e⟩
def namedR (kind : Int) (text : List UInt8) (at_ end_ : Int) : LexR := if 100 < text.length then errR 2 else ⟨kind, text, 0, at_, end_, 0⟩
def wordKind (c : Int) : Int := if cls c = 3 then 3 else 1
def soloKind (c : Int) : Int := if c = 33 ∨ c = 59 then 1 else 6
def wordR (m : List UInt8) (p : Nat) : LexR := namedR (wordKind (rawAt m p)) ((m.drop p).take (span alnum (m.drop p))) p (p + span alnum (m.drop p))
/-- May what begins with a dot be the end token? -/
def endNext (c : Int) : Bool := decide (c < 0) || (c == 37 || cls c == 1)
def symR (m : List UInt8) (p : Nat) : LexR :=
  if rawAt m p = 46 ∧ endNext (rawAt m (p + 1)) = true then ⟨7, [46], 0, p, p + 1, 0⟩
  else namedR 1 ((m.drop p).take (span isSym (m.drop p))) p (p + span isSym (m.drop p))
def soloR (m : List UInt8) (p : Nat) : LexR := namedR (soloKind (rawAt m p)) ((m.drop p).take 1) p (p + 1)

/-- The number of digits. -/
def natOf (base : Int) (l : List UInt8) : Nat := l.foldl (fun a b => a * base.toNat + (digV (b.toNat : Int) base).toNat) 0
def intR (base : Int) (text : List UInt8) (p e : Int) : LexR :=
  if natOf base text ≤ 9223372036854775808 then ⟨4, [], if natOf base text = 9223372036854775808 then -9223372036854775808 else natOf base text, p, e, 0⟩ else errR 7
def isDig (base : Int) (c : Int) : Bool := digOk c base

/-- A quoted character at the head, and its length. -/
def escBase (l : List UInt8) : Int := if rawAt l 1 = 120 then 16 else 8
def escFrom (l : List UInt8) : Nat := if rawAt l 1 = 120 then 2 else 1
def escLen (l : List UInt8) : Nat := span (isDig (escBase l)) (l.drop (escFrom l))
def escNum (l : List UInt8) : Nat := natOf (escBase l) ((l.drop (escFrom l)).take (escLen l))
def quotedS (l : List UInt8) (q : Int) : Option (Int × Nat) :=
  if rawAt l 0 < 0 ∨ rawAt l 0 = 10 then none
  else if rawAt l 0 = q then (if rawAt l 1 = q then some (q, 2) else none)
  else if rawAt l 0 ≠ 92 then some (rawAt l 0, 1)
  else if uneOk (rawAt l 1) = true then some (uneV (rawAt l 1), 2)
  else if 0 < escLen l ∧ escNum l ≤ 255 ∧ rawAt l (escFrom l + escLen l) = 92 then some (escNum l, escFrom l + escLen l + 1)
  else none

def numBase (m : List UInt8) (p : Nat) : Int := if rawAt m p = 48 then (if rawAt m (p + 1) = 120 then 16 else if rawAt m (p + 1) = 111 then 8 else if rawAt m (p + 1) = 98 then 2 else 0) else 0
def numR (m l : List UInt8) (p : Nat) : LexR :=
  if rawAt m p = 48 ∧ rawAt m (p + 1) = 39 then
    match quotedS (l.drop (p + 2)) 39 with
    | none => errR 7
    | some (c, k) => ⟨4, [], c, p, p + 2 + k, 0⟩
  else if 0 < numBase m p ∧ 0 < span (isDig (numBase m p)) (m.drop (p + 2)) then
    intR (numBase m p) ((m.drop (p + 2)).take (span (isDig (numBase m p)) (m.drop (p + 2)))) p (p + 2 + span (isDig (numBase m p)) (m.drop (p + 2)))
  else intR 10 ((m.drop p).take (span (isDig 10) (m.drop p))) p (p + span (isDig 10) (m.drop p))

/-- A quoted item behind its opening quote: its characters and its length without the closing quote. -/
def itemF : Nat → List UInt8 → Int → Option (List UInt8 × Nat)
  | 0, _, _ => none
  | f + 1, l, q =>
    if rawAt l 0 = q ∧ ¬rawAt l 1 = q then some ([], 0)
    else if rawAt l 0 = 92 ∧ rawAt l 1 = 10 then (itemF f (l.drop 2) q).map fun x => (x.1, x.2 + 2)
    else match quotedS l q with
      | none => none
      | some (c, k) => (itemF f (l.drop k) q).map fun x => (c.toNat.toUInt8 :: x.1, x.2 + k)
def item (l : List UInt8) (q : Int) : Option (List UInt8 × Nat) := itemF (l.length + 1) l q
def strRes (p : Nat) : Option (List UInt8 × Nat) → LexR
  | none => errR 7
  | some x => ⟨5, x.1, 0, p, p + 1 + x.2 + 1, 0⟩
def nmRes (p : Nat) : Option (List UInt8 × Nat) → LexR
  | none => errR 7
  | some x => namedR 2 x.1 p (p + 1 + x.2 + 1)
def quoteR (m l : List UInt8) (p : Nat) : LexR :=
  if rawAt m p = 34 then strRes p (item (l.drop (p + 1)) 34)
  else if rawAt m p = 39 then nmRes p (item (l.drop (p + 1)) 39)
  else errR 7
def tokR (m l : List UInt8) (p : Nat) : LexR :=
  if rawAt m p = 47 ∧ rawAt m (p + 1) = 42 then errR 7
  else if cls (rawAt m p) = 2 ∨ cls (rawAt m p) = 3 then wordR m p
  else if cls (rawAt m p) = 4 then numR m l p
  else if cls (rawAt m p) = 5 then symR m p
  else if cls (rawAt m p) = 6 then soloR m p
  else if cls (rawAt m p) = 7 then quoteR m l p
  else errR 7

/-- What Next returns: the token, its Layout, the offset of an error. -/
structure NextR where
  r : LexR
  lay : Bool
  where_ : Int
def nextR (m l : List UInt8) (a : Nat) : NextR :=
  let p := a + skipN (m.drop a)
  if p = l.length then ⟨errR 14, false, p⟩
  else if (tokR m l p).err = 0 then ⟨tokR m l p, decide (a < p), 0⟩
  else ⟨errR (tokR m l p).err, false, p⟩
end Hb
