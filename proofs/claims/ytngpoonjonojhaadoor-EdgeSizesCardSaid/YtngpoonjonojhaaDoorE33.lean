/- Plain laws: rows of parts. -/
import Derived.Test.YtngpoonjonojhaaDoorE03
set_option linter.all false
namespace Go.Proofs.YtngpoonjonojhaaDoor
structure RSt where
  out : List Nd
  edge : Int
  ended : Bool
/-- One part of a row: an error, or the state behind it. -/
def rowStep (sb axis kerf : Int) (x : Sp) (part : List Nd) (st : RSt) : Except Int RSt :=
  if x.b ≤ x.a then .error 19
  else if st.ended = true ∨ x.a ≠ st.edge ∧ x.a ≤ st.edge + kerf then .error 11
  else if sb < x.b then .error 20
  else .ok { out := ((if st.edge < x.a then st.out ++ [⟨axis, x.a - kerf⟩, ⟨0, 0⟩] else st.out) ++ (if x.b = sb then [] else [⟨axis, x.b⟩])) ++ part, edge := mni (x.b + kerf) sb, ended := decide (x.b = sb) }
def rowTo_ (sa sb axis kerf : Int) (xs : List Sp) (parts : List (List Nd)) : Nat → Except Int RSt
  | 0 => .ok { out := [], edge := sa, ended := false }
  | n + 1 => match rowTo_ sa sb axis kerf xs parts n with
    | .error e => .error e
    | .ok st => rowStep sb axis kerf (rd_Sp xs (n : Nat)) (rd_L18 parts (n : Nat)) st
def rowEnd (r : Except Int RSt) : List Nd × Int :=
  match r with
  | .error e => ([], e)
  | .ok st => if 127 < (if st.ended then st.out else st.out ++ [⟨0, 0⟩]).length then ([], 4) else (if st.ended then st.out else st.out ++ [⟨0, 0⟩], 0)
/-- The nodes of a row along the x axis of a valid frame, with as many parts as spans. -/
def rowNodes (sa sb axis kerf : Int) (xs : List Sp) (parts : List (List Nd)) : List Nd × Int := rowEnd (rowTo_ sa sb axis kerf xs parts xs.length)
end Go.Proofs.YtngpoonjonojhaaDoor
