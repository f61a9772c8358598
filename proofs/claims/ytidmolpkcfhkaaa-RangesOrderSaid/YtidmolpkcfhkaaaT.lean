/- The types of the program, as a table that can be looked at quickly. -/
import Derived.Test.YtidmolpkcfhkaaaK2
import Derived.Test.YtidmolpkcfhkaaaRows
namespace Go.Proofs.Ytidmolpkcfhkaaa
open Go

inductive KD where
  | int (k : IntKind) | bool | string | slice | pointer | struct | array | map
  deriving DecidableEq

/-- A type: its cells, its bytes, is it a struct or an array, its zero cells, its fields (offset, cells, is it a struct or an array), its element, an array's length, its kind. -/
structure TD where
  size : Nat
  bytes : Nat
  agg : Bool
  zero : List Value
  fs : List (Nat × Nat × Bool)
  elem : Nat
  len : Nat
  kind : KD


def tab (t : Nat) : Option TD := bif Nat.blt t 161 then
 bif Nat.blt t 60 then
  bif Nat.blt t 18 then
   bif Nat.blt t 10 then
    bif Nat.blt t 6 then
     bif Nat.blt t 4 then
      bif Nat.blt t 3 then
       bif Nat.beq t 2 then some ⟨1, 8, false, [.int .i64 0], [], 0, 0, .int .i64⟩ else none
      else
       bif Nat.beq t 3 then some ⟨1, 8, false, [.int .i64 0], [], 0, 0, .int .i64⟩ else none
     else
      bif Nat.blt t 5 then
       bif Nat.beq t 4 then some ⟨1, 1, false, [.bool false], [], 0, 0, .bool⟩ else none
      else
       bif Nat.beq t 5 then some ⟨1, 1, false, [.int .u8 0], [], 0, 0, .int .u8⟩ else none
    else
     bif Nat.blt t 8 then
      bif Nat.blt t 7 then
       bif Nat.beq t 6 then some ⟨1, 1, false, [.int .u8 0], [], 0, 0, .int .u8⟩ else none
      else
       bif Nat.beq t 7 then some ⟨4, 24, true, [.int .i64 0, .int .i64 0, .bool false, .int .u8 0], [(0, 1, false), (1, 1, false), (2, 1, false), (3, 1, false)], 0, 0, .struct⟩ else none
     else
      bif Nat.blt t 9 then
       bif Nat.beq t 8 then some ⟨4, 24, true, [.int .i64 0, .int .i64 0, .bool false, .int .u8 0], [(0, 1, false), (1, 1, false), (2, 1, false), (3, 1, false)], 0, 0, .struct⟩ else none
      else
       bif Nat.beq t 9 then some ⟨1, 16, false, [.string .empty], [], 0, 0, .string⟩ else none
   else
    bif Nat.blt t 14 then
     bif Nat.blt t 12 then
      bif Nat.blt t 11 then
       bif Nat.beq t 10 then some ⟨1, 16, false, [.string .empty], [], 0, 0, .string⟩ else none
      else
       bif Nat.beq t 11 then some ⟨1, 16, false, [.string .empty], [], 0, 0, .string⟩ else none
     else
      bif Nat.blt t 13 then
       bif Nat.beq t 12 then some ⟨1, 8, false, [.int .u64 0], [], 0, 0, .int .u64⟩ else none
      else
       bif Nat.beq t 13 then some ⟨2, 24, true, [.string .empty, .int .u64 0], [(0, 1, false), (1, 1, false)], 0, 0, .struct⟩ else none
    else
     bif Nat.blt t 16 then
      bif Nat.blt t 15 then
       bif Nat.beq t 14 then some ⟨2, 24, true, [.string .empty, .int .u64 0], [(0, 1, false), (1, 1, false)], 0, 0, .struct⟩ else none
      else
       bif Nat.beq t 15 then some ⟨1, 8, false, [.pointer none], [], 151, 0, .pointer⟩ else none
     else
      bif Nat.blt t 17 then
       bif Nat.beq t 16 then some ⟨1, 8, false, [.pointer none], [], 154, 0, .pointer⟩ else none
      else
       bif Nat.beq t 17 then some ⟨1, 8, false, [.pointer none], [], 162, 0, .pointer⟩ else none
  else
   bif Nat.blt t 36 then
    bif Nat.blt t 23 then
     bif Nat.blt t 21 then
      bif Nat.blt t 19 then
       bif Nat.beq t 18 then some ⟨1, 8, true, [.pointer none], [(0, 1, false)], 0, 0, .struct⟩ else none
      else
       bif Nat.beq t 19 then some ⟨1, 8, true, [.pointer none], [(0, 1, false)], 0, 0, .struct⟩ else none
     else
      bif Nat.blt t 22 then
       bif Nat.beq t 21 then some ⟨1, 4, false, [.int .i32 0], [], 0, 0, .int .i32⟩ else none
      else
       bif Nat.beq t 22 then some ⟨1, 24, false, [.slice none 0 0], [], 3, 0, .slice⟩ else none
    else
     bif Nat.blt t 33 then
      bif Nat.blt t 32 then
       bif Nat.beq t 23 then some ⟨1, 24, false, [.slice none 0 0], [], 5, 0, .slice⟩ else none
      else
       bif Nat.beq t 32 then some ⟨1, 8, false, [.int .u64 0], [], 0, 0, .int .u64⟩ else none
     else
      bif Nat.blt t 35 then
       bif Nat.beq t 33 then some ⟨1, 8, false, [.map none], [], 3, 0, .map⟩ else none
      else
       bif Nat.beq t 35 then some ⟨1, 24, false, [.slice none 0 0], [], 23, 0, .slice⟩ else none
   else
    bif Nat.blt t 52 then
     bif Nat.blt t 50 then
      bif Nat.blt t 48 then
       bif Nat.beq t 36 then some ⟨1, 8, false, [.pointer none], [], 96, 0, .pointer⟩ else none
      else
       bif Nat.beq t 48 then some ⟨1, 8, false, [.pointer none], [], 99, 0, .pointer⟩ else none
     else
      bif Nat.blt t 51 then
       bif Nat.beq t 50 then some ⟨1, 8, false, [.pointer none], [], 52, 0, .pointer⟩ else none
      else
       bif Nat.beq t 51 then some ⟨3, 40, true, [.slice none 0 0, .int .i64 0, .bool false], [(0, 1, false), (1, 1, false), (2, 1, false)], 0, 0, .struct⟩ else none
    else
     bif Nat.blt t 58 then
      bif Nat.blt t 56 then
       bif Nat.beq t 52 then some ⟨3, 40, true, [.slice none 0 0, .int .i64 0, .bool false], [(0, 1, false), (1, 1, false), (2, 1, false)], 0, 0, .struct⟩ else none
      else
       bif Nat.beq t 56 then some ⟨1, 24, false, [.slice none 0 0], [], 61, 0, .slice⟩ else none
     else
      bif Nat.blt t 59 then
       bif Nat.beq t 58 then some ⟨9, 88, true, [.int .i64 0, .int .i64 0, .int .i64 0, .int .i64 0, .int .i64 0, .slice none 0 0, .bool false, .int .i64 0, .int .i64 0], [(0, 1, false), (1, 1, false), (2, 1, false), (3, 1, false), (4, 1, false), (5, 1, false), (6, 1, false), (7, 1, false), (8, 1, false)], 0, 0, .struct⟩ else none
      else
       bif Nat.beq t 59 then some ⟨9, 88, true, [.int .i64 0, .int .i64 0, .int .i64 0, .int .i64 0, .int .i64 0, .slice none 0 0, .bool false, .int .i64 0, .int .i64 0], [(0, 1, false), (1, 1, false), (2, 1, false), (3, 1, false), (4, 1, false), (5, 1, false), (6, 1, false), (7, 1, false), (8, 1, false)], 0, 0, .struct⟩ else none
 else
  bif Nat.blt t 130 then
   bif Nat.blt t 86 then
    bif Nat.blt t 79 then
     bif Nat.blt t 64 then
      bif Nat.blt t 61 then
       bif Nat.beq t 60 then some ⟨12, 128, true, [.int .i64 0, .int .i64 0, .slice none 0 0, .int .i64 0, .int .i64 0, .int .i64 0, .int .i64 0, .int .i64 0, .slice none 0 0, .bool false, .int .i64 0, .int .i64 0], [(0, 1, false), (1, 1, false), (2, 1, false), (3, 9, true)], 0, 0, .struct⟩ else none
      else
       bif Nat.beq t 61 then some ⟨12, 128, true, [.int .i64 0, .int .i64 0, .slice none 0 0, .int .i64 0, .int .i64 0, .int .i64 0, .int .i64 0, .int .i64 0, .slice none 0 0, .bool false, .int .i64 0, .int .i64 0], [(0, 1, false), (1, 1, false), (2, 1, false), (3, 9, true)], 0, 0, .struct⟩ else none
     else
      bif Nat.blt t 78 then
       bif Nat.beq t 64 then some ⟨1, 8, false, [.int .i64 0], [], 0, 0, .int .i64⟩ else none
      else
       bif Nat.beq t 78 then some ⟨1, 24, false, [.slice none 0 0], [], 82, 0, .slice⟩ else none
    else
     bif Nat.blt t 82 then
      bif Nat.blt t 81 then
       bif Nat.beq t 79 then some ⟨1, 8, false, [.pointer none], [], 114, 0, .pointer⟩ else none
      else
       bif Nat.beq t 81 then some ⟨4, 24, true, [.int .i64 0, .int .i64 0, .bool false, .bool false], [(0, 1, false), (1, 1, false), (2, 1, false), (3, 1, false)], 0, 0, .struct⟩ else none
     else
      bif Nat.blt t 84 then
       bif Nat.beq t 82 then some ⟨4, 24, true, [.int .i64 0, .int .i64 0, .bool false, .bool false], [(0, 1, false), (1, 1, false), (2, 1, false), (3, 1, false)], 0, 0, .struct⟩ else none
      else
       bif Nat.beq t 84 then some ⟨1, 24, false, [.slice none 0 0], [], 87, 0, .slice⟩ else none
   else
    bif Nat.blt t 98 then
     bif Nat.blt t 95 then
      bif Nat.blt t 87 then
       bif Nat.beq t 86 then some ⟨2, 16, true, [.int .i64 0, .int .i64 0], [(0, 1, false), (1, 1, false)], 0, 0, .struct⟩ else none
      else
       bif Nat.beq t 87 then some ⟨2, 16, true, [.int .i64 0, .int .i64 0], [(0, 1, false), (1, 1, false)], 0, 0, .struct⟩ else none
     else
      bif Nat.blt t 96 then
       bif Nat.beq t 95 then some ⟨4, 48, true, [.slice none 0 0, .int .i64 0, .int .i64 0, .bool false], [(0, 1, false), (1, 1, false), (2, 1, false), (3, 1, false)], 0, 0, .struct⟩ else none
      else
       bif Nat.beq t 96 then some ⟨4, 48, true, [.slice none 0 0, .int .i64 0, .int .i64 0, .bool false], [(0, 1, false), (1, 1, false), (2, 1, false), (3, 1, false)], 0, 0, .struct⟩ else none
    else
     bif Nat.blt t 113 then
      bif Nat.blt t 99 then
       bif Nat.beq t 98 then some ⟨3, 40, true, [.slice none 0 0, .int .i64 0, .bool false], [(0, 1, false), (1, 1, false), (2, 1, false)], 0, 0, .struct⟩ else none
      else
       bif Nat.beq t 99 then some ⟨3, 40, true, [.slice none 0 0, .int .i64 0, .bool false], [(0, 1, false), (1, 1, false), (2, 1, false)], 0, 0, .struct⟩ else none
     else
      bif Nat.blt t 114 then
       bif Nat.beq t 113 then some ⟨1, 24, true, [.slice none 0 0], [(0, 1, false)], 0, 0, .struct⟩ else none
      else
       bif Nat.beq t 114 then some ⟨1, 24, true, [.slice none 0 0], [(0, 1, false)], 0, 0, .struct⟩ else none
  else
   bif Nat.blt t 152 then
    bif Nat.blt t 145 then
     bif Nat.blt t 140 then
      bif Nat.blt t 138 then
       bif Nat.beq t 130 then some ⟨1, 8, false, [.int .i64 0], [], 0, 0, .int .i64⟩ else none
      else
       bif Nat.beq t 138 then some ⟨1, 4, false, [.int .u32 0], [], 0, 0, .int .u32⟩ else none
     else
      bif Nat.blt t 141 then
       bif Nat.beq t 140 then some ⟨1, 8, false, [.int .u64 0], [], 0, 0, .int .u64⟩ else none
      else
       bif Nat.beq t 141 then some ⟨1, 8, false, [.int .u64 0], [], 0, 0, .int .u64⟩ else none
    else
     bif Nat.blt t 150 then
      bif Nat.blt t 147 then
       bif Nat.beq t 145 then some ⟨1, 8, false, [.pointer none], [], 3, 0, .pointer⟩ else none
      else
       bif Nat.beq t 147 then some ⟨1, 8, false, [.pointer none], [], 141, 0, .pointer⟩ else none
     else
      bif Nat.blt t 151 then
       bif Nat.beq t 150 then some ⟨4, 40, true, [.pointer none, .pointer none, .pointer none, .string .empty], [(0, 1, false), (1, 1, false), (2, 1, false), (3, 1, false)], 0, 0, .struct⟩ else none
      else
       bif Nat.beq t 151 then some ⟨4, 40, true, [.pointer none, .pointer none, .pointer none, .string .empty], [(0, 1, false), (1, 1, false), (2, 1, false), (3, 1, false)], 0, 0, .struct⟩ else none
   else
    bif Nat.blt t 156 then
     bif Nat.blt t 154 then
      bif Nat.blt t 153 then
       bif Nat.beq t 152 then some ⟨0, 0, true, [], [], 16, 0, .array⟩ else none
      else
       bif Nat.beq t 153 then some ⟨0, 0, true, [], [(0, 0, true)], 0, 0, .struct⟩ else none
     else
      bif Nat.blt t 155 then
       bif Nat.beq t 154 then some ⟨0, 0, true, [], [(0, 0, true)], 0, 0, .struct⟩ else none
      else
       bif Nat.beq t 155 then some ⟨1, 1, false, [.int .u8 0], [], 0, 0, .int .u8⟩ else none
    else
     bif Nat.blt t 159 then
      bif Nat.blt t 158 then
       bif Nat.beq t 156 then some ⟨1, 1, false, [.int .u8 0], [], 0, 0, .int .u8⟩ else none
      else
       bif Nat.beq t 158 then some ⟨1, 8, false, [.pointer none], [], 5, 0, .pointer⟩ else none
     else
      bif Nat.blt t 160 then
       bif Nat.beq t 159 then some ⟨1, 4, false, [.int .i32 0], [], 0, 0, .int .i32⟩ else none
      else
       bif Nat.beq t 160 then some ⟨1, 4, false, [.int .i32 0], [], 0, 0, .int .i32⟩ else none
 else none

def beqV : Value → Value → Bool
  | .int k n, .int k' n' => decide (k = k') && decide (n = n')
  | .bool a, .bool b => decide (a = b)
  | .string a, .string b => decide (a.data = b.data)
  | .pointer none, .pointer none => true
  | .slice none 0 0, .slice none 0 0 => true
  | .map none, .map none => true
  | _, _ => false
theorem beqV_eq {a b : Value} (h : beqV a b = true) : a = b := by
  unfold beqV at h
  split at h <;> simp_all
  rename_i x y
  cases x; cases y; simp_all
def beqVs : List Value → List Value → Bool
  | [], [] => true
  | a :: r, b :: s => beqV a b && beqVs r s
  | _, _ => false
theorem beqVs_eq : ∀ {a b : List Value}, beqVs a b = true → a = b
  | [], [], _ => rfl
  | a :: r, b :: s, h => by
    simp only [beqVs, Bool.and_eq_true] at h
    rw [beqV_eq h.1, beqVs_eq h.2]
  | [], _ :: _, h => by simp [beqVs] at h
  | _ :: _, [], h => by simp [beqVs] at h

def isAggD : TypeDesc → Bool
  | .struct _ => true
  | .array _ _ => true
  | _ => false

def fieldsOf (P : Program) (fs : List Field) : List (Nat × Nat × Bool) :=
  fs.map fun f => (f.offset, P.cellsOf f.type, ((P.underlying f.type).map isAggD).getD false)

def kindOk (P : Program) (d : TD) : TypeDesc → Bool
  | .int k => decide (d.kind = .int k)
  | .bool => decide (d.kind = .bool)
  | .string => decide (d.kind = .string)
  | .slice e => decide (d.kind = .slice) && decide (d.elem = e)
  | .pointer e => decide (d.kind = .pointer) && decide (d.elem = e)
  | .array n e => decide (d.kind = .array) && decide (d.elem = e) && decide (d.len = n)
  | .map _ e => decide (d.kind = .map) && decide (d.elem = e)
  | .struct fs => decide (d.kind = .struct) && decide (fieldsOf P fs.toList = d.fs) && fs.toList.all fun f => (P.info? f.type).isSome && (P.underlying f.type).isSome
  | _ => false

def chkT (P : Program) (t : Nat) (d : TD) : Bool :=
  match P.info? t, P.underlying t with
  | some i, some u =>
    decide (i.size = d.size) && decide (i.bytes = d.bytes) && decide (isAggD u = d.agg) && kindOk P d u &&
    match i.zero with
    | some (.agg z) => beqVs z.toList d.zero && d.agg
    | some z => beqVs [z] d.zero && !d.agg
    | none => false
  | _, _ => false

def chkO (P : Program) (t : Nat) : Option TD → Bool
  | some d => chkT P t d
  | none => true
theorem tab_ok : (List.range 161).all (fun t => chkO Try.prog t (tab t)) = true := by kernel_rfl
theorem tab_lt {t : Nat} {d : TD} (h : tab t = some d) : t < 161 := by
  unfold tab at h
  cases hb : Nat.blt t 161
  · rw [hb] at h; simp at h
  · exact Nat.blt_eq.mp hb
end Go.Proofs.Ytidmolpkcfhkaaa
