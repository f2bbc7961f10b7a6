/-
  Typed values over the abstract states, first part: values, operations, calls. No condition; nothing here is trusted.
-/
import Derived.Test.YtnehieeplbgaiacDoorEngB
import Derived.Lib.ConvBytes
set_option linter.unusedVariables false
set_option linter.unusedSimpArgs false
namespace Go.Proofs.YtnehieeplbgaiacDoor.Eng
open Go
inductive Ty where
 | int (k : IntKind)
 | byte
 | bool
 | str
 | slice (t : Ty)
 | one (t : Ty)
 | pair (a b : Ty)
 | ptr (t : Ty)
 | nilS
 | nilI
 | adr
 | mp (t : Ty)
 | mq (t : Ty)
 | fnc (f : Nat)
 | clo (f : Nat) (c : Ty)
 | ref (t : Ty)
 deriving DecidableEq
def Ty.den : Ty → Type
 | .int _ => Int
 | .byte => UInt8
 | .bool => Bool
 | .str => ByteArray
 | .slice t => List t.den
 | .one t => t.den
 | .pair a b => a.den × b.den
 | .ptr t => Option t.den
 | .nilS => Unit
 | .nilI => Unit
 | .adr => Nat
 | .mp t => List (ByteArray × t.den)
 | .mq t => List (ByteArray × t.den)
 | .fnc _ => Unit
 | .clo _ c => c.den
 | .ref t => t.den
def Ty.d : (t : Ty) → t.den
 | .int _ => (0 : Int)
 | .byte => (0 : UInt8)
 | .bool => false
 | .str => ByteArray.empty
 | .slice t => ([] : List t.den)
 | .one t => t.d
 | .pair a b => (a.d, b.d)
 | .ptr t => (none : Option t.den)
 | .nilS => ()
 | .nilI => ()
 | .adr => (0 : Nat)
 | .mp t => ([] : List (ByteArray × t.den))
 | .mq t => ([] : List (ByteArray × t.den))
 | .fnc _ => ()
 | .clo _ c => c.d
 | .ref t => t.d
def Ty.size : Ty → Nat
 | .one t => t.size
 | .pair a b => a.size + b.size
 | .int _ | .byte | .bool | .str | .slice _ | .ptr _ | .nilS | .nilI | .adr | .mp _ | .mq _ | .fnc _ | .clo _ _ | .ref _ => 1
def Ty.isAgg : Ty → Bool
 | .one _ | .pair _ _ => true
 | .int _ | .byte | .bool | .str | .slice _ | .ptr _ | .nilS | .nilI | .adr | .mp _ | .mq _ | .fnc _ | .clo _ _ | .ref _ => false
def Ty.pvs : (t : Ty) → t.den → List Value
 | .int k, x => [.int k x]
 | .byte, x => [.int .u8 ((UInt8.toNat x : Nat) : Int)]
 | .bool, x => [.bool x]
 | .str, x => [.string x]
 | .pair a b, x => a.pvs x.1 ++ b.pvs x.2
 | .slice _, _ | .one _, _ | .ptr _, _ | .nilS, _ | .nilI, _ | .adr, _ | .mp _, _ | .mq _, _ | .fnc _, _ | .clo _ _, _ | .ref _, _ => []
def Ty.vl : (t : Ty) → t.den → Value
 | .int k, x => .int k x
 | .byte, x => .int .u8 ((UInt8.toNat x : Nat) : Int)
 | .bool, x => .bool x
 | .str, x => .string x
 | .pair a b, x => .agg (a.pvs x.1 ++ b.pvs x.2).toArray
 | .slice _, _ | .one _, _ | .ptr _, _ | .nilS, _ | .nilI, _ | .adr, _ | .mp _, _ | .mq _, _ | .fnc _, _ | .clo _ _, _ | .ref _, _ => .tuple #[]
def Ty.scal : Ty → Bool
 | .int _ | .byte | .bool | .str => true
 | .slice _ | .one _ | .pair _ _ | .ptr _ | .nilS | .nilI | .adr | .mp _ | .mq _ | .fnc _ | .clo _ _ | .ref _ => false
def Ty.mval : Ty → Bool
 | .int _ | .byte | .bool | .str => true
 | .pair a b => a.mval && b.mval
 | .slice _ | .one _ | .ptr _ | .nilS | .nilI | .adr | .mp _ | .mq _ | .fnc _ | .clo _ _ | .ref _ => false
def mapV (t : Ty) (es : List (ByteArray × t.den)) : List (ByteArray × Value) := es.map fun p => (p.1, t.vl p.2)
def Ty.cells : (t : Ty) → t.den → List AV
 | .int k, x => [.v (.int k x)]
 | .byte, x => [.v (.int .u8 ((UInt8.toNat x : Nat) : Int))]
 | .bool, x => [.v (.bool x)]
 | .str, x => [.v (.string x)]
 | .slice t, xs => [.ro t.size (List.map t.cells xs)]
 | .one t, x => t.cells x
 | .pair a b, x => a.cells x.1 ++ b.cells x.2
 | .ptr _, none => [.v (.pointer none)]
 | .ptr t, some x => [.rp (t.cells x)]
 | .nilS, _ => [.v (.slice none 0 0)]
 | .nilI, _ => [.v .nilIface]
 | .adr, g => [.v (.pointer (some ⟨g, 0, none⟩))]
 | .mp t, x => [.mp (mapV t x)]
 | .mq t, x => [.mq (mapV t x)]
 | .fnc f, _ => [.fn f []]
 | .clo f c, x => [.fn f (c.cells x)]
 | .ref t, x => [.rp (t.cells x)]
def Ty.av (t : Ty) (x : t.den) : AV := if t.isAgg then .agg (t.cells x) else (t.cells x).headD .any
theorem Ty.size_pos : ∀ t : Ty, 0 < t.size
 | .one t => t.size_pos
 | .pair a b => Nat.lt_of_lt_of_le a.size_pos (Nat.le_add_right _ _)
 | .int _ | .byte | .bool | .str | .slice _ | .ptr _ | .nilS | .nilI | .adr | .mp _ | .mq _ | .fnc _ | .clo _ _ | .ref _ => Nat.one_pos
theorem Ty.cells_len : ∀ (t : Ty) (x : t.den), (t.cells x).length = t.size
 | .one t, x => t.cells_len x
 | .pair a b, x => by simp only [Ty.cells, List.length_append, a.cells_len, b.cells_len, Ty.size]
 | .ptr _, none => rfl
 | .ptr _, some _ => rfl
 | .int _, _ | .byte, _ | .bool, _ | .str, _ | .slice _, _ | .nilS, _ | .nilI, _ | .adr, _ | .mp _, _ | .mq _, _ | .fnc _, _ | .clo _ _, _ | .ref _, _ => rfl
theorem Ty.cells_leaf {t : Ty} (h : t.isAgg = false) (x : t.den) : t.cells x = [t.av x] := by
 have h1 : t.size = 1 := by cases t <;> first | rfl | (simp [Ty.isAgg] at h)
 have h2 := t.cells_len x
 rw [h1, List.length_eq_one_iff] at h2
 obtain ⟨y, hy⟩ := h2
 simp [Ty.av, h, hy]
theorem Ty.av_agg {t : Ty} (h : t.isAgg = true) (x : t.den) : t.av x = .agg (t.cells x) := by simp [Ty.av, h]
theorem flatL_of : ∀ {l : List AV}, (∀ y ∈ l, y.flat = true ∧ y.one = true) → AV.flatL l = true
 | [], _ => rfl
 | x :: r, h => by simp only [AV.flatL, (h x (List.mem_cons_self ..)).1, (h x (List.mem_cons_self ..)).2, flatL_of (fun y hy => h y (List.mem_cons_of_mem _ hy))]; rfl
theorem Ty.cells_flat : ∀ (t : Ty) (x : t.den), ∀ y ∈ t.cells x, y.flat = true ∧ y.one = true
 | .one t, x => t.cells_flat x
 | .pair a b, x => fun y hy => by
  rcases List.mem_append.1 hy with h | h
  ·exact a.cells_flat _ y h
  ·exact b.cells_flat _ y h
 | .ptr _, none => fun y hy => by simp [Ty.cells] at hy; subst hy; exact ⟨rfl, rfl⟩
 | .ptr _, some _ => fun y hy => by simp [Ty.cells] at hy; subst hy; exact ⟨rfl, rfl⟩
 | .int _, _ | .byte, _ | .bool, _ | .str, _ | .slice _, _ | .nilS, _ | .nilI, _ | .adr, _ | .mp _, _ | .mq _, _ | .fnc _, _ | .ref _, _ => fun y hy => by simp [Ty.cells] at hy; subst hy; exact ⟨rfl, rfl⟩
 | .clo f c, x => fun y hy => by
  simp [Ty.cells] at hy; subst hy
  refine ⟨?_, rfl⟩
  simp only [AV.flat]
  exact flatL_of fun y hy => c.cells_flat x y hy
theorem Ty.cellsOf_av (t : Ty) (x : t.den) : Eng.cellsOf (t.av x) = t.cells x := by
 cases h : t.isAgg with
 | true => rw [Ty.av_agg h]; rfl
 | false =>
  have h1 := Ty.cells_leaf h x
  have h2 := (t.cells_flat x (t.av x) (by rw [h1]; simp)).1
  rw [h1]
  revert h2
  cases t.av x <;> simp [Eng.cellsOf, AV.flat]
theorem Ty.av_full (t : Ty) (x : t.den) : (t.av x).full = true := by
 cases h : t.isAgg with
 | true => rw [Ty.av_agg h]; rfl
 | false =>
  have h1 := Ty.cells_leaf h x
  have h2 := (t.cells_flat x (t.av x) (by rw [h1]; simp))
  revert h2
  cases t.av x <;> simp [AV.full, AV.one, AV.flat]
def Ty.at : (t : Ty) → Nat → Nat → Bool → t.den → Option ((u : Ty) × u.den)
 | .one t, off, n, agg, x => if off = 0 ∧ t.size = n ∧ agg = true then some ⟨.one t, x⟩ else t.at off n agg x
 | .pair a b, off, n, agg, x =>
  if off = 0 ∧ a.size + b.size = n ∧ agg = true then some ⟨.pair a b, x⟩
  else if off < a.size then a.at off n agg x.1 else b.at (off - a.size) n agg x.2
 | .int k, off, n, agg, x => if off = 0 ∧ 1 = n ∧ agg = false then some ⟨.int k, x⟩ else none
 | .byte, off, n, agg, x => if off = 0 ∧ 1 = n ∧ agg = false then some ⟨.byte, x⟩ else none
 | .bool, off, n, agg, x => if off = 0 ∧ 1 = n ∧ agg = false then some ⟨.bool, x⟩ else none
 | .str, off, n, agg, x => if off = 0 ∧ 1 = n ∧ agg = false then some ⟨.str, x⟩ else none
 | .slice t, off, n, agg, x => if off = 0 ∧ 1 = n ∧ agg = false then some ⟨.slice t, x⟩ else none
 | .ptr t, off, n, agg, x => if off = 0 ∧ 1 = n ∧ agg = false then some ⟨.ptr t, x⟩ else none
 | .nilS, off, n, agg, x => if off = 0 ∧ 1 = n ∧ agg = false then some ⟨.nilS, x⟩ else none
 | .nilI, off, n, agg, x => if off = 0 ∧ 1 = n ∧ agg = false then some ⟨.nilI, x⟩ else none
 | .adr, off, n, agg, x => if off = 0 ∧ 1 = n ∧ agg = false then some ⟨.adr, x⟩ else none
 | .mp t, off, n, agg, x => if off = 0 ∧ 1 = n ∧ agg = false then some ⟨.mp t, x⟩ else none
 | .mq t, off, n, agg, x => if off = 0 ∧ 1 = n ∧ agg = false then some ⟨.mq t, x⟩ else none
 | .fnc f, off, n, agg, x => if off = 0 ∧ 1 = n ∧ agg = false then some ⟨.fnc f, x⟩ else none
 | .clo f c, off, n, agg, x => if off = 0 ∧ 1 = n ∧ agg = false then some ⟨.clo f c, x⟩ else none
 | .ref t, off, n, agg, x => if off = 0 ∧ 1 = n ∧ agg = false then some ⟨.ref t, x⟩ else none
theorem Ty.at_ok : ∀ (t : Ty) (off n : Nat) (agg : Bool) (x : t.den) {u : Ty} {y : u.den}, t.at off n agg x = some ⟨u, y⟩ → u.size = n ∧ u.isAgg = agg ∧ off + n ≤ t.size ∧ ((t.cells x).drop off).take n = u.cells y := by
 have leaf : ∀ (t : Ty) (off n : Nat) (agg : Bool) (x : t.den) {u : Ty} {y : u.den}, t.isAgg = false → t.size = 1 → (if off = 0 ∧ 1 = n ∧ agg = false then some (⟨t, x⟩ : (u : Ty) × u.den) else none) = some ⟨u, y⟩ → u.size = n ∧ u.isAgg = agg ∧ off + n ≤ t.size ∧ ((t.cells x).drop off).take n = u.cells y := by
  intro t off n agg x u y h1 h2 h
  split at h
  ·rename_i hc
   obtain ⟨rfl, rfl, rfl⟩ := hc
   cases h
   refine ⟨h2, h1, by omega, ?_⟩
   rw [List.drop_zero, List.take_of_length_le (by rw [t.cells_len, h2]; exact Nat.le_refl _)]
  ·cases h
 intro t
 induction t with
 | one t ih =>
  intro off n agg x u y h
  simp only [Ty.at] at h
  split at h
  ·rename_i hc
   obtain ⟨rfl, rfl, rfl⟩ := hc
   cases h
   refine ⟨rfl, rfl, by simp [Ty.size], ?_⟩
   simp only [Ty.cells, List.drop_zero]
   exact List.take_of_length_le (Nat.le_of_eq (Ty.cells_len t x))
  ·exact ih _ _ _ _ h
 | pair a b iha ihb =>
  intro off n agg x u y h
  simp only [Ty.at] at h
  split at h
  ·rename_i hc
   obtain ⟨rfl, rfl, rfl⟩ := hc
   cases h
   refine ⟨rfl, rfl, by simp [Ty.size], ?_⟩
   rw [List.drop_zero, List.take_of_length_le (by rw [Ty.cells_len]; exact Nat.le_refl _)]
  ·split at h
   ·rename_i hlt
    obtain ⟨h1, h2, h3, h4⟩ := iha _ _ _ _ h
    refine ⟨h1, h2, by simp only [Ty.size]; omega, ?_⟩
    simp only [Ty.cells]
    rw [List.drop_append_of_le_length (by rw [a.cells_len]; omega), List.take_append_of_le_length (by simp [a.cells_len]; omega)]
    exact h4
   ·rename_i hge
    obtain ⟨h1, h2, h3, h4⟩ := ihb _ _ _ _ h
    refine ⟨h1, h2, by simp only [Ty.size]; omega, ?_⟩
    simp only [Ty.cells]
    rw [List.drop_append, List.drop_eq_nil_of_le (by rw [a.cells_len]; omega), List.nil_append, a.cells_len]
    exact h4
 | int k => exact fun off n agg x u y h => leaf (.int k) off n agg x rfl rfl h
 | byte => exact fun off n agg x u y h => leaf .byte off n agg x rfl rfl h
 | bool => exact fun off n agg x u y h => leaf .bool off n agg x rfl rfl h
 | str => exact fun off n agg x u y h => leaf .str off n agg x rfl rfl h
 | slice t _ => exact fun off n agg x u y h => leaf (.slice t) off n agg x rfl rfl h
 | ptr t _ => exact fun off n agg x u y h => leaf (.ptr t) off n agg x rfl rfl h
 | nilS => exact fun off n agg x u y h => leaf .nilS off n agg x rfl rfl h
 | nilI => exact fun off n agg x u y h => leaf .nilI off n agg x rfl rfl h
 | adr => exact fun off n agg x u y h => leaf .adr off n agg x rfl rfl h
 | mp t _ => exact fun off n agg x u y h => leaf (.mp t) off n agg x rfl rfl h
 | mq t _ => exact fun off n agg x u y h => leaf (.mq t) off n agg x rfl rfl h
 | fnc f => exact fun off n agg x u y h => leaf (.fnc f) off n agg x rfl rfl h
 | clo f c _ => exact fun off n agg x u y h => leaf (.clo f c) off n agg x rfl rfl h
 | ref t _ => exact fun off n agg x u y h => leaf (.ref t) off n agg x rfl rfl h
theorem Z3a {i : TI} {u : Ty} {y : u.den} {cs : List AV} (hs : u.size = i.size) (ha : u.isAgg = i.k.agg) (h : cs.take i.size = u.cells y) : Z12 i cs = u.av y := by
 unfold Z12
 cases hb : i.k.agg with
 | true => rw [if_pos rfl, h, Ty.av_agg (ha.trans hb)]
 | false =>
  rw [if_neg (by simp)]
  have h1 := Ty.cells_leaf (ha.trans hb) y
  have h2 : i.size = 1 := by
   have := u.cells_len y
   rw [h1] at this
   simp at this
   omega
  rw [h1, h2] at h
  cases cs with
  | nil => simp at h
  | cons c r => simpa using h
theorem Ty.pvs_cells : ∀ (t : Ty) (x : t.den), t.mval = true → t.cells x = (t.pvs x).map AV.v ∧ (t.pvs x).all Value.oneCell' = true
 | .int _, _, _ | .byte, _, _ | .bool, _, _ | .str, _, _ => ⟨rfl, rfl⟩
 | .pair a b, x, h => by
  have h : (a.mval && b.mval) = true := h
  rw [Bool.and_eq_true] at h
  obtain ⟨h1, h2⟩ := a.pvs_cells x.1 h.1
  obtain ⟨h3, h4⟩ := b.pvs_cells x.2 h.2
  simp only [Ty.cells, Ty.pvs, h1, h3, List.map_append, List.all_append, h2, h4, Bool.and_self, and_self]
 | .slice _, _, h | .one _, _, h | .ptr _, _, h | .nilS, _, h | .nilI, _, h | .adr, _, h | .mp _, _, h | .mq _, _, h | .fnc _, _, h | .clo _ _, _, h | .ref _, _, h => by cases h
theorem Ty.av_mv {t : Ty} (h : t.mval = true) (x : t.den) : t.av x = Z55 (t.vl x) := by
 cases t with
 | pair a b =>
  obtain ⟨h1, h2⟩ := (Ty.pair a b).pvs_cells x h
  rw [Ty.av_agg rfl, h1]
  show _ = Z55 (.agg ((Ty.pair a b).pvs x).toArray)
  unfold Z55
  simp only [List.toList_toArray, h2]
 | int _ => rfl
 | byte => rfl
 | bool => rfl
 | str => rfl
 | _ => cases h
def mget {α : Type} (k : ByteArray) (es : List (ByteArray × α)) : Option α := Z3k k es
def mset {α : Type} (k : ByteArray) (v : α) (es : List (ByteArray × α)) : List (ByteArray × α) := Z3j k v es
theorem Z7f {t : Ty} (k : ByteArray) : ∀ es : List (ByteArray × t.den), Z3k k (mapV t es) = (mget k es).map t.vl
 | [] => rfl
 | p :: r => by
  have ih := Z7f (t := t) k r
  show (match decide (k = p.1) with | true => some (t.vl p.2) | false => Z3k k (mapV t r)) = Option.map t.vl (match decide (k = p.1) with | true => some p.2 | false => Z3k k r)
  cases decide (k = p.1) with
  | true => rfl
  | false => exact ih
theorem Zgr {t : Ty} (k : ByteArray) (v : t.den) : ∀ es : List (ByteArray × t.den), Z3j k (t.vl v) (mapV t es) = mapV t (mset k v es)
 | [] => rfl
 | p :: r => by
  have ih := Zgr (t := t) k v r
  show (match decide (k = p.1), klt k p.1 with | true, _ => (k, t.vl v) :: mapV t r | false, true => (k, t.vl v) :: (p.1, t.vl p.2) :: mapV t r | false, false => (p.1, t.vl p.2) :: Z3j k (t.vl v) (mapV t r)) = mapV t (match decide (k = p.1), klt k p.1 with | true, _ => (k, v) :: r | false, true => (k, v) :: p :: r | false, false => p :: Z3j k v r)
  cases decide (k = p.1) with
  | true => rfl
  | false =>
   cases klt k p.1 with
   | true => rfl
   | false => rw [ih]; rfl
def Ty.inn : Ty → Option Ty
 | .slice u => some u
 | .one t => t.inn
 | .pair _ b => b.inn
 | _ => none
def Ty.isz (t : Ty) : Nat := match t.inn with
 | some u => u.size
 | none => 0
inductive SV where
 | any
 | cst (x : Value)
 | val (t : Ty) (x : t.den)
 | rp (t : Ty) (x : t.den)
 | own (id sz : Nat)
 | cut (id sz off len : Nat)
 | ptr (id i sz j : Nat)
 | nm (id : Nat) (k : List Nat)
 | agg (cs : List SV)
 | tup (cs : List SV)
 | fn (f : Nat) (cs : List SV)
inductive TObj where
 | box (e : TypeId) (cs : List SV)
 | row (e : TypeId) (t : Ty) (xs : List t.den)
 | mapo (t : Ty) (es : List (ByteArray × t.den))
 | iter (t : Ty) (es : List (ByteArray × t.den))
 | lin (e ei : TypeId) (t : Ty) (part hole : Option Nat) (xs : List t.den)
 | dead
def nth {α : Type} : List α → Nat → Option α
 | [], _ => none
 | x :: _, 0 => some x
 | _ :: r, k + 1 => nth r k
theorem Z3 {α : Type} : ∀ (l : List α) (k : Nat), nth l k = l[k]?
 | [], _ => rfl
 | x :: r, 0 => rfl
 | x :: r, k + 1 => by simp [nth, Z3 r k]
def rowLen (h : List TObj) (id : Nat) : Nat := match nth h id with
 | some (.row _ _ xs) => xs.length
 | _ => 0
mutual
def SV.toAV (h : List TObj) : SV → AV
 | .any => .any
 | .cst x => Z3v x
 | .val t x => t.av x
 | .rp t x => .rp (t.cells x)
 | .own id sz => .own id sz 0 (rowLen h id)
 | .cut id sz off len => .own id sz off len
 | .ptr id i sz j => .ptr id i sz j
 | .nm id k => .nm id k
 | .agg cs => .agg (SV.toAVL h cs)
 | .tup cs => .tup (SV.toAVL h cs)
 | .fn f cs => .fn f (SV.toAVL h cs)
def SV.toAVL (h : List TObj) : List SV → List AV
 | [] => []
 | x :: r => x.toAV h :: SV.toAVL h r
end
theorem SV.toAVL_eq (h : List TObj) : ∀ l, SV.toAVL h l = l.map (SV.toAV h)
 | [] => rfl
 | x :: r => by rw [SV.toAVL, SV.toAVL_eq h r]; rfl
def TObj.toObj (h : List TObj) : TObj → AObj
 | .box e cs => .box e (SV.toAVL h cs)
 | .row e t xs => .row e t.size (xs.map t.cells)
 | .mapo t es => .mapo (mapV t es)
 | .iter t es => .iter none (mapV t es)
 | .lin e ei t part hole xs => .lin e ei t.size t.isz part hole (xs.map t.cells)
 | .dead => .dead
structure TSt where
 env : List (Nat × SV)
 heap : List TObj
def tget : List (Nat × SV) → Nat → SV
 | [], _ => .any
 | (j, x) :: r, i => if i = j then x else tget r i
def TSt.toSt (s : TSt) : St := ⟨s.env.map fun p => (p.1, p.2.toAV s.heap), s.heap.map (TObj.toObj s.heap)⟩
theorem Zf (h : List TObj) : ∀ (l : List (Nat × SV)) (i : Nat), envGet (l.map fun p => (p.1, p.2.toAV h)) i = (tget l i).toAV h
 | [], i => rfl
 | (j, x) :: r, i => by
  simp only [List.map_cons, envGet, tget]
  split
  ·rfl
  ·exact Zf h r i
def TSt.put (s : TSt) (d : Option Nat) (x : SV) : TSt :=
 match d with
 | some d => ⟨(d, x) :: s.env, s.heap⟩
 | none => s
theorem TSt.put_ok (s : TSt) (d : Option Nat) (x : SV) : (s.put d x).toSt = s.toSt.put d (x.toAV s.heap) := by
 cases d <;> rfl
def TSt.ev (s : TSt) : Operand → SV
 | .tmp t => tget s.env t
 | .const v => .cst v
 | .global _ => .any
 | .func f => .fn f []
theorem TSt.ev_ok (s : TSt) (o : Operand) : s.toSt.ev o = (s.ev o).toAV s.heap := by
 cases o with
 | tmp t => exact Zf _ _ _
 | const v => rfl
 | global g => rfl
 | func f => rfl
theorem TSt.heap_get (s : TSt) (id : Nat) : s.toSt.heap[id]? = (nth s.heap id).map (TObj.toObj s.heap) := by
 simp [TSt.toSt, Z3]
theorem Z4 {h : List TObj} {id : Nat} {e : TypeId} {t : Ty} {xs : List t.den} (hq : nth h id = some (.row e t xs)) : rowLen h id = xs.length := by simp [rowLen, hq]
end Go.Proofs.YtnehieeplbgaiacDoor.Eng
set_option linter.unusedVariables false
set_option linter.unusedSimpArgs false
namespace Go.Proofs.YtnehieeplbgaiacDoor.Eng
open Go
inductive R1 where
 | bad
 | ok (x : SV)
 | cond (c : Prop) (x : SV)
def SV.num : SV → Option (IntKind × Int)
 | .val (.int k) x => (match k with | .u8 => none | k => some (k, x))
 | .val .byte x => some (.u8, ((UInt8.toNat x : Nat) : Int))
 | .cst (.int k n) => some (k, n)
 | _ => none
def SV.isC : SV → Bool
 | .cst _ => true
 | _ => false
def SV.boo : SV → Option Bool
 | .val .bool b => some b
 | .cst (.bool b) => some b
 | _ => none
def SV.stg : SV → Option ByteArray
 | .val .str b => some b
 | .cst (.string b) => some b
 | _ => none
def rd {α : Type} (d : α) (xs : List α) (i : Int) : α := xs.getD i.toNat d
def bt (s : ByteArray) (i : Int) : UInt8 := (s[i.toNat]?).getD 0
def kc (isC dec : Bool) (c : Prop) (x : SV) : R1 := match isC with
 | true => (match dec with | true => .ok x | false => .bad)
 | false => .cond c x
def valK (k : IntKind) (n : Int) : SV := match k with
 | .u8 => .val .byte (UInt8.ofInt n)
 | k => .val (.int k) n
def arT (k : IntKind) (r : Int) : R1 := match k with
 | .i64 => .cond (InR r) (.val (.int .i64) r)
 | .u8 => .ok (.val .byte (UInt8.ofInt r))
 | k => .ok (.val (.int k) (k.wrap r))
def intT (op : BinOp) (k : IntKind) (isC : Bool) (a b : Int) : R1 :=
 match op with
 | .add => arT k (a + b)
 | .sub => arT k (a - b)
 | .mul => arT k (a * b)
 | .quo => match k, isC with
  | .i64, true => if 0 < b then .cond (0 ≤ a ∧ a ≤ 9223372036854775807) (.val (.int .i64) (a / b)) else .bad
  | .i64, false => .cond (0 ≤ a ∧ 0 < b ∧ a ≤ 9223372036854775807) (.val (.int .i64) (a / b))
  | _, _ => .bad
 | .rem => match k with
  | .u8 => .bad
  | k => kc isC (!decide (b = 0)) (b ≠ 0) (.val (.int k) (a.tmod b))
 | .and => .ok (valK k (k.wrap (BitVec.ofInt k.bits a &&& BitVec.ofInt k.bits b).toNat))
 | .or => .ok (valK k (k.wrap (BitVec.ofInt k.bits a ||| BitVec.ofInt k.bits b).toNat))
 | .xor => .ok (valK k (k.wrap (BitVec.ofInt k.bits a ^^^ BitVec.ofInt k.bits b).toNat))
 | .eql => .ok (.val .bool (decide (a = b)))
 | .neq => .ok (.val .bool (!decide (a = b)))
 | .lss => .ok (.val .bool (decide (a < b)))
 | .leq => .ok (.val .bool (decide (a ≤ b)))
 | .gtr => .ok (.val .bool (decide (b < a)))
 | .geq => .ok (.val .bool (decide (b ≤ a)))
 | _ => .bad
def shT (op : BinOp) (k : IntKind) (isC : Bool) (a b : Int) : R1 :=
 match op with
 | .shl => kc isC (decide (0 ≤ b)) (0 ≤ b) (valK k (k.wrap (a * 2 ^ min b.toNat k.bits)))
 | .shr => match k with
  | .u8 => .bad
  | k => kc isC (decide (0 ≤ b)) (0 ≤ b) (.val (.int k) (a.fdiv (2 ^ min b.toNat k.bits)))
 | _ => .bad
def Z83 (a b : ByteArray) : Bool := Op.bytesLess a.toList b.toList
def strT (op : BinOp) (a b : ByteArray) : R1 :=
 match op with
 | .add => .cond (((a.size + b.size : Nat) : Int) ≤ 9223372036854775807) (.val .str (a ++ b))
 | .eql => .ok (.val .bool (decide (a = b)))
 | .neq => .ok (.val .bool (!decide (a = b)))
 | .lss => .ok (.val .bool (Z83 a b))
 | .leq => .ok (.val .bool (Z83 a b || decide (a = b)))
 | .gtr => .ok (.val .bool (!(Z83 a b || decide (a = b))))
 | .geq => .ok (.val .bool (!Z83 a b))
 | _ => .bad
def booT (T : Tab) (t : Nat) (op : BinOp) (a b : Bool) : R1 := match T t with
 | some ⟨.bool, _, _, _⟩ => (match op with
  | .eql => .ok (.val .bool (a == b))
  | .neq => .ok (.val .bool (!(a == b)))
  | _ => .bad)
 | _ => .bad
def numT (op : BinOp) (k k' : IntKind) (isC : Bool) (a b : Int) : R1 :=
 match op with
 | .shl => shT .shl k isC a b
 | .shr => shT .shr k isC a b
 | op => if k = k' then intT op k isC a b else .bad
def binT (T : Tab) (t : Nat) (op : BinOp) (x y : SV) : R1 :=
 match x.num, y.num with
 | some (k, a), some (k', b) => numT op k k' y.isC a b
 | _, _ => match x.stg, y.stg with
  | some a, some b => strT op a b
  | _, _ => match x.boo, y.boo with
   | some a, some b => booT T t op a b
   | _, _ => .bad
def unT (op : UnOp) (x : SV) : R1 :=
 match op with
 | .not => (match x.boo with | some b => .ok (.val .bool (!b)) | none => .bad)
 | .neg => (match x.num with | some (.i64, n) => .cond (InR (-n)) (.val (.int .i64) (-n)) | _ => .bad)
 | _ => .bad
def Zd (t u : Ty) (x : u.den) : Option t.den := if h : u = t then some (h ▸ x) else none
theorem Za {t u : Ty} {x : u.den} {y : t.den} (h : Zd t u x = some y) : ∃ e : u = t, e ▸ x = y := by
 unfold Zd at h
 split at h
 ·rename_i e; cases h; exact ⟨e, rfl⟩
 ·cases h
def Zi6 (h : List TObj) (x : SV) : R1 := match x with
 | .cst (.slice none 0 0) => .ok (.val .str (bstr []))
 | .val t xs => (match Zd (.slice .byte) t xs with
  | some l => .ok (.val .str (bstr l))
  | none => .bad)
 | .own id sz => (match nth h id with
  | some (.row _ t xs) => (match Zd (.slice .byte) (.slice t) xs with
   | some l => if sz = 1 then .ok (.val .str (bstr l)) else .bad
   | none => .bad)
  | _ => .bad)
 | .cut id sz off len => (match nth h id with
  | some (.row _ t xs) => (match Zd (.slice .byte) (.slice t) xs with
   | some l => if sz = 1 then .cond (off + len ≤ List.length l) (.val .str (bstr (List.take len (List.drop off l)))) else .bad
   | none => .bad)
  | _ => .bad)
 | _ => .bad
def convT (T : Tab) (h : List TObj) (a b : Nat) (x : SV) : R1 :=
 match T a, T b with
 | some ⟨.int _, _, _, _⟩, some ⟨.int k, _, _, _⟩ => (match x.num with
  | some (.u8, n) => (match x.isC, k with
   | false, .i64 => .ok (.val (.int .i64) n)
   | _, k => .ok (valK k (k.wrap n)))
  | some (_, n) => .ok (valK k (k.wrap n))
  | none => .bad)
 | some ⟨.str, _, _, _⟩, some ⟨.str, _, _, _⟩ => (match x.stg with | some b => .ok (.val .str b) | none => .bad)
 | some ⟨.slice e, _, _, _⟩, some ⟨.str, _, _, _⟩ => (match T e with
  | some ⟨.int .u8, _, _, _⟩ => Zi6 h x
  | _ => .bad)
 | _, _ => .bad
theorem u8_of (n : Int) : (((UInt8.ofInt n).toNat : Nat) : Int) = IntKind.u8.wrap n := by
 have h : (0 : Int) ≤ n % 256 ∧ n % 256 < 256 := by omega
 simp only [UInt8.ofInt, IntKind.wrap, IntKind.bits, IntKind.signed, Bool.false_and, Bool.false_eq_true, if_false]
 have e : (2 : Int) ^ 8 = 256 := by decide
 rw [e, UInt8.toNat_ofNat']
 omega
theorem Z6c {h : List TObj} (k : IntKind) (n : Int) : (valK k (k.wrap n)).toAV h = .v (.int k (k.wrap n)) := by
 have e : IntKind.u8.wrap (IntKind.u8.wrap n) = IntKind.u8.wrap n := by
  simp only [IntKind.wrap, IntKind.bits, IntKind.signed, Bool.false_and, Bool.false_eq_true, if_false]
  have e : (2 : Int) ^ 8 = 256 := by decide
  rw [e]; omega
 cases k <;> first | rfl | (show AV.v (.int .u8 (((UInt8.ofInt (IntKind.u8.wrap n)).toNat : Nat) : Int)) = _; rw [u8_of, e])
theorem av_byte {h : List TObj} (n : Int) : (SV.val .byte (UInt8.ofInt n)).toAV h = .v (.int .u8 (IntKind.u8.wrap n)) := by
 show AV.v (.int .u8 (((UInt8.ofInt n).toNat : Nat) : Int)) = _
 rw [u8_of]
def Tell1 (h : List TObj) (r : Option (Prop × AV)) : R1 → Prop
 | .bad => True
 | .ok x => ∃ c' x', r = some (c', x') ∧ c' ∧ AV.le x' (x.toAV h)
 | .cond c x => c → ∃ c' x', r = some (c', x') ∧ c' ∧ AV.le x' (x.toAV h)
section
variable {h : List TObj} {T : Tab}
theorem Z17 {x : SV} {k : IntKind} {n : Int} (hx : x.num = some (k, n)) : x.toAV h = .v (.int k n) := by
 unfold SV.num at hx
 split at hx
 ·split at hx <;> first | (cases hx; rfl) | cases hx
 ·cases hx; rfl
 ·cases hx; rfl
 ·cases hx
theorem num_u8 {x : SV} {n : Int} (hx : x.num = some (.u8, n)) (hc : x.isC = false) : ∃ u : UInt8, n = ((u.toNat : Nat) : Int) := by
 unfold SV.num at hx
 split at hx
 ·split at hx
  ·cases hx
  ·rename_i k hk
   cases hx
   exact (hk rfl).elim
 ·cases hx; exact ⟨_, rfl⟩
 ·cases hc
 ·cases hx
theorem Z3b {x : SV} {b : Bool} (hx : x.boo = some b) : x.toAV h = .v (.bool b) := by
 unfold SV.boo at hx
 split at hx <;> first | (cases hx; rfl) | cases hx
theorem Z2x {x : SV} {b : ByteArray} (hx : x.stg = some b) : x.toAV h = .v (.string b) := by
 unfold SV.stg at hx
 split at hx <;> first | (cases hx; rfl) | cases hx
theorem Tell1.same {r : Option (Prop × AV)} {c : Prop} {x : SV} (hr : r = some (c, x.toAV h)) (hc : c) : Tell1 h r (.ok x) := ⟨_, _, hr, hc, .refl _⟩
theorem Tell1.asked {r : Option (Prop × AV)} {c c' : Prop} {x : SV} (hr : r = some (c', x.toAV h)) (hc : c → c') : Tell1 h r (.cond c x) := fun h1 => ⟨_, _, hr, hc h1, .refl _⟩
theorem Tell1.kc {r : Option (Prop × AV)} {isC dec : Bool} {c c' : Prop} {x : SV} (hr : r = some (c', x.toAV h)) (hd : dec = true → c') (hc : c → c') : Tell1 h r (kc isC dec c x) := by
 cases isC with
 | false => exact .asked hr hc
 | true =>
  cases dec with
  | true => exact .same hr (hd rfl)
  | false => trivial
theorem Zie (k : IntKind) (r : Int) : Tell1 h (some ((Zcf k r).1, .v (Zcf k r).2)) (arT k r) := by
 cases k <;> first | exact .same rfl trivial | exact (fun hc => ⟨_, _, rfl, trivial, AV.le_of_eq (by show AV.v (.int .i64 (IntKind.i64.wrap r)) = .v (.int .i64 r); rw [IntWalk.i64_in r hc])⟩) | exact .same (by rw [av_byte]; rfl) trivial
theorem intT_ok (op : BinOp) (k : IntKind) (isC : Bool) (a b : Int) : Tell1 h ((Zdb op k a b).map fun p => (p.1, .v p.2)) (intT op k isC a b) := by
 cases op
 case add => exact Zie k (a + b)
 case sub => exact Zie k (a - b)
 case mul => exact Zie k (a * b)
 case quo =>
  simp only [intT]
  cases k with
  | i64 =>
   cases isC with
   | true =>
    simp only
    split
    ·rename_i hb; exact .asked rfl (fun h => ⟨h.1, hb, rfl, h.2⟩)
    ·trivial
   | false => exact .asked rfl (fun h => ⟨h.1, h.2.1, rfl, h.2.2⟩)
  | _ => cases isC <;> trivial
 case rem =>
  simp only [intT]
  cases k <;> first | trivial | exact .kc rfl (fun h => by simpa using h) (fun h => h)
 case and => exact .same (by rw [Z6c]; rfl) trivial
 case or => exact .same (by rw [Z6c]; rfl) trivial
 case xor => exact .same (by rw [Z6c]; rfl) trivial
 all_goals first | exact .same rfl trivial | trivial
theorem Zk4 (op : BinOp) (k : IntKind) (isC : Bool) (a b : Int) : Tell1 h ((Za7 op k a b).map fun p => (p.1, .v p.2)) (shT op k isC a b) := by
 cases op
 case shl => exact .kc (by rw [Z6c]; rfl) (fun h => of_decide_eq_true h) (fun h => h)
 case shr =>
  simp only [shT]
  cases k <;> first | trivial | exact .kc rfl (fun h => of_decide_eq_true h) (fun h => h)
 all_goals trivial
theorem strT_ok (op : BinOp) (a b : ByteArray) : Tell1 h ((evStr op a b).map fun p => (p.1, .v p.2)) (strT op a b) := by
 cases op
 case add => exact .asked rfl (fun h => h)
 all_goals first | exact .same rfl trivial | trivial
theorem numT_ok (op : BinOp) (k k' : IntKind) (isC : Bool) (a b : Int) : Tell1 h ((Z6q op (.int k a) (.int k' b)).map fun p => (p.1, .v p.2)) (numT op k k' isC a b) := by
 have other : ∀ op, op ≠ .shl → op ≠ .shr → (if k = k' then intT op k isC a b else R1.bad) = numT op k k' isC a b → Tell1 h ((Z6q op (.int k a) (.int k' b)).map fun p => (p.1, .v p.2)) (numT op k k' isC a b) := by
  intro op h1 h2 e
  rw [← e]
  split
  ·rename_i hk
   subst hk
   have e : Z6q op (.int k a) (.int k b) = Zdb op k a b := by
    cases op <;> first | exact absurd rfl h1 | exact absurd rfl h2 | simp [Z6q]
   rw [e]
   exact intT_ok op k _ a b
  ·trivial
 cases op
 case shl => exact Zk4 .shl k _ a b
 case shr => exact Zk4 .shr k _ a b
 all_goals exact other _ (by decide) (by decide) rfl
theorem binT_ok {s : TSt} {t t' : Nat} {op : BinOp} {x y : Operand} : Tell1 s.heap (Zc T s.toSt (.binOp op t x y t')) (binT T t op (s.ev x) (s.ev y)) := by
 have wrapR : ∀ {c : Option (Prop × Value)} {d : Option (Prop × AV)} {r : R1}, Tell1 s.heap (c.map fun p => (p.1, AV.v p.2)) r → Tell1 s.heap (match c with | some (c, r) => some (c, .v r) | none => d) r := by
  intro c d r hr
  cases c with
  | none => cases r <;> first | trivial | (obtain ⟨_, _, h, _⟩ := hr; cases h) | (intro hc; obtain ⟨_, _, h, _⟩ := hr hc; cases h)
  | some p => exact hr
 unfold binT
 split
 ·rename_i k a k' b hx hy
  simp only [Zc, TSt.ev_ok, Z17 hx, Z17 hy]
  exact wrapR (d := _) (numT_ok op k k' _ a b)
 ·split
  ·rename_i a b hx hy
   simp only [Zc, TSt.ev_ok, Z2x hx, Z2x hy]
   exact wrapR (strT_ok op a b)
  ·split
   ·rename_i a b hx hy
    have e : Z6q op (.bool a) (.bool b) = none := rfl
    simp only [Zc, TSt.ev_ok, Z3b hx, Z3b hy, e]
    unfold booT
    cases hT : T t with
    | none => trivial
    | some i =>
     obtain ⟨ki, n, m, z⟩ := i
     cases ki with
     | bool =>
      cases op
      case eql => exact .same rfl trivial
      case neq => exact .same rfl trivial
      all_goals trivial
     | _ => trivial
   ·trivial
theorem unT_ok {s : TSt} {t : Nat} {op : UnOp} {x : Operand} : Tell1 s.heap (Zc T s.toSt (.unOp op t x)) (unT op (s.ev x)) := by
 unfold unT
 split
 ·split
  ·rename_i b hb
   simp only [Zc, TSt.ev_ok, Z3b hb]
   exact .same rfl trivial
  ·trivial
 ·split
  ·rename_i n hn
   simp only [Zc, TSt.ev_ok, Z17 hn]
   exact .asked rfl (fun h => h)
  ·trivial
 ·trivial
theorem byteL_cells : ∀ l : List UInt8, byteL (List.map (Ty.cells .byte) l) = some l
 | [] => rfl
 | b :: r => by
  have h := byteL_cells r
  show (match byteE (Ty.cells .byte b), byteL (List.map (Ty.cells .byte) r) with | some b, some l => some (b :: l) | _, _ => none) = _
  rw [h]
  have e : byteE (Ty.cells .byte b) = some b := by
   show some (UInt8.ofNat (((UInt8.toNat b : Nat) : Int)).toNat) = some b
   simp
  rw [e]
theorem Zi5 {T : Tab} {s : TSt} {a b e m p m' p' m2 p2 : Nat} {z z' z2 : Value} {x : Operand} (ha : T a = some ⟨.slice e, m, p, z⟩) (hb : T b = some ⟨.str, m', p', z'⟩) (he : T e = some ⟨.int .u8, m2, p2, z2⟩) : Tell1 s.heap (Zc T s.toSt (.convert a b x)) (Zi6 s.heap (s.ev x)) := by
 have ex : ∀ {c : Prop} {q : ByteArray}, Z4q s.toSt.heap ((s.ev x).toAV s.heap) = some (c, q) → Zc T s.toSt (.convert a b x) = some (c, .v (.string q)) := by
  intro c q h
  simp only [Zc, ha, hb, TSt.ev_ok, h, he]
 unfold Zi6
 split
 ·rename_i hx
  rw [ex (c := True) (q := bstr []) (by rw [hx]; rfl)]
  exact .same rfl trivial
 ·rename_i t xs hx
  split
  ·rename_i l hl
   obtain ⟨ht, hv⟩ := Za hl
   subst ht
   have hv' : xs = l := hv
   subst hv'
   rw [ex (c := True) (q := bstr xs) (by
    rw [hx]
    have hb2 : byteL (List.map (Ty.cells .byte) xs) = some xs := byteL_cells xs
    show Z4q _ (AV.ro 1 (List.map (Ty.cells .byte) xs)) = _
    simp only [Z4q, hb2]; rfl)]
   exact .same rfl trivial
  ·trivial
 ·rename_i id sz hx
  split
  ·rename_i e' t xs hq
   split
   ·rename_i l hl
    obtain ⟨ht, hv⟩ := Za hl
    cases ht
    have hv' : (xs : List UInt8) = l := hv
    subst hv'
    split
    ·rename_i h1
     subst h1
     have hq' : s.toSt.heap[id]? = some (.row e' 1 (List.map (Ty.cells .byte) xs)) := by rw [TSt.heap_get, hq]; rfl
     have hlen : (List.map (Ty.cells .byte) xs).length = List.length xs := List.length_map ..
     have h2 : Z4q s.toSt.heap ((s.ev x).toAV s.heap) = some (0 + List.length xs ≤ (List.map (Ty.cells .byte) xs).length, bstr xs) := by
      have hb2 : byteL (List.map (Ty.cells .byte) xs) = some xs := byteL_cells xs
      rw [hx]
      simp only [SV.toAV, Z4q, hq']
      rw [Z4 hq, List.drop_zero, ← hlen, List.take_of_length_le (Nat.le_refl _), hb2]
      rfl
     rw [ex h2]
     exact .same rfl (by rw [hlen]; omega)
    ·trivial
   ·trivial
  ·trivial
 ·rename_i id sz off len hx
  split
  ·rename_i e' t xs hq
   split
   ·rename_i l hl
    obtain ⟨ht, hv⟩ := Za hl
    cases ht
    have hv' : (xs : List UInt8) = l := hv
    subst hv'
    split
    ·rename_i h1
     subst h1
     have hq' : s.toSt.heap[id]? = some (.row e' 1 (List.map (Ty.cells .byte) xs)) := by rw [TSt.heap_get, hq]; rfl
     have hlen : (List.map (Ty.cells .byte) xs).length = List.length xs := List.length_map ..
     have h2 : Z4q s.toSt.heap ((s.ev x).toAV s.heap) = some (off + len ≤ (List.map (Ty.cells .byte) xs).length, bstr (List.take len (List.drop off xs))) := by
      rw [hx]
      simp only [SV.toAV, Z4q, hq']
      have e3 : List.take len (List.drop off (List.map (Ty.cells .byte) xs)) = List.map (Ty.cells .byte) (List.take len (List.drop off xs)) := by rw [List.map_take, List.map_drop]
      have hb2 : byteL (List.map (Ty.cells .byte) (List.take len (List.drop off xs))) = some (List.take len (List.drop off xs)) := byteL_cells _
      rw [e3, hb2]
      rfl
     rw [ex h2]
     exact .asked rfl (fun h => by rw [hlen]; exact h)
    ·trivial
   ·trivial
  ·trivial
 ·trivial
theorem Zjx {s : TSt} {a b : Nat} {x : Operand} : Tell1 s.heap (Zc T s.toSt (.convert a b x)) (convT T s.heap a b (s.ev x)) := by
 unfold convT
 split
 ·rename_i k0 m p z k m' p' z' ha hb
  split
  ·rename_i n hx
   simp only [Zc, ha, hb, TSt.ev_ok, Z17 hx]
   split
   ·rename_i hC
    refine .same ?_ trivial
    have hn := num_u8 hx hC
    obtain ⟨u, rfl⟩ := hn
    have hu := u.toNat_lt
    rw [IntWalk.i64_in _ ⟨by omega, by omega⟩]
    rfl
   ·exact .same (by rw [Z6c]) trivial
  ·rename_i k1 n h1 hx
   simp only [Zc, ha, hb, TSt.ev_ok, Z17 hx]
   exact .same (by rw [Z6c]) trivial
  ·trivial
 ·rename_i ha hb
  split
  ·rename_i q hq
   simp only [Zc, ha, hb, TSt.ev_ok, Z2x hq]
   exact .same rfl trivial
  ·trivial
 ·rename_i ha hb
  split
  ·rename_i he; exact Zi5 ha hb he
  ·trivial
 ·trivial
end
end Go.Proofs.YtnehieeplbgaiacDoor.Eng
set_option linter.unusedVariables false
set_option linter.unusedSimpArgs false
namespace Go.Proofs.YtnehieeplbgaiacDoor.Eng
open Go
def Zc5 (i : TI) (cs : List SV) : SV := match i.k.agg with
 | true => .agg (cs.take i.size)
 | false => (nth cs 0).getD .any
def Z4h (u : Ty) (off : Nat) (i : TI) (y : u.den) (k : (u : Ty) → u.den → R1) : R1 := match u.at off i.size i.k.agg y with
 | some ⟨u', y'⟩ => k u' y'
 | none => .bad
def okV (u : Ty) (y : u.den) : R1 := .ok (.val u y)
def okP (u : Ty) (y : u.den) : R1 := .ok (.rp u y)
def cdV (c : Prop) (u : Ty) (y : u.den) : R1 := .cond c (.val u y)
def cdP (c : Prop) (u : Ty) (y : u.den) : R1 := .cond c (.rp u y)
def Za3 (T : Tab) (t f : Nat) : Option (Nat × TI) := match T t with
 | some ⟨.struct fs, _, _, _⟩ => (match nth fs f with
  | some (off, ft) => (match T ft with
   | some i => some (off, i)
   | none => none)
  | none => none)
 | _ => none
def Zhr (T : Tab) (t f : Nat) (x : SV) : R1 := match Za3 T t f with
 | some (off, i) => (match x with
  | .val u y => (match u.isAgg with | true => Z4h u off i y okV | false => .bad)
  | .agg cs => if off + i.size ≤ cs.length ∧ 0 < i.size then .ok (Zc5 i (cs.drop off)) else .bad
  | _ => .bad)
 | none => .bad
def innT : (t : Ty) → t.den → Option ((u : Ty) × List u.den)
 | .slice u, l => some ⟨u, l⟩
 | .one t, x => innT t x
 | .pair _ b, x => innT b x.2
 | .int _, _ | .byte, _ | .bool, _ | .str, _ | .ptr _, _ | .nilS, _ | .nilI, _ | .adr, _ | .mp _, _ | .mq _, _ | .fnc _, _ | .clo _ _, _ | .ref _, _ => none
def setInn : (t : Ty) → t.den → (u : Ty) → List u.den → Option t.den
 | .slice v, _, u, l => Zd (.slice v) (.slice u) l
 | .one t, x, u, l => setInn t x u l
 | .pair _ b, x, u, l => (match setInn b x.2 u l with
  | some y => some (x.1, y)
  | none => none)
 | .int _, _, _, _ | .byte, _, _, _ | .bool, _, _, _ | .str, _, _, _ | .ptr _, _, _, _ | .nilS, _, _, _ | .nilI, _, _, _ | .adr, _, _, _ | .mp _, _, _, _ | .mq _, _, _, _ | .fnc _, _, _, _ | .clo _ _, _, _, _ | .ref _, _, _, _ => none
def Zhg (h : List TObj) (id : Nat) (k : List Nat) (n : Int) (ti : TI) : R1 := match k with
 | [0] => (match nth h id with
  | some (.lin _ _ t _ _ xs) => if ti.size = t.size then .cond (0 ≤ n ∧ n < (List.length xs : Int)) (.nm id [2, n.toNat, 0]) else .bad
  | _ => .bad)
 | _ => .bad
def Zho (h : List TObj) (id : Nat) (k : List Nat) (off : Nat) : R1 := match k with
 | [2, n, j] => (match nth h id with
  | some (.lin _ _ _ _ _ xs) => .cond (n < List.length xs) (.nm id [2, n, j + off])
  | _ => .bad)
 | _ => .bad
def Zd6 (h : List TObj) (id : Nat) (k : List Nat) (i : TI) : R1 := match k with
 | [2, n, j] => (match nth h id with
  | some (.lin _ _ t part hole xs) => (match decide (j + i.size < t.size), part, hole with
   | true, _, _ => Z4h t j i (List.getD xs n t.d) (cdV (n < List.length xs))
   | false, none, none => if j + 1 = t.size ∧ i.k.agg = false then .cond (n < List.length xs) (.nm id [1, n]) else .bad
   | false, some c, none => Z4h t j i (List.getD xs n t.d) (cdV (n < List.length xs ∧ c ≤ n))
   | _, _, _ => .bad)
  | _ => .bad)
 | _ => .bad
def Zh0 (h : List TObj) (id : Nat) (k : List Nat) : R1 := match k with
 | [0] => (match nth h id with
  | some (.lin _ _ _ _ _ xs) => .ok (.val (.int .i64) ((List.length xs : Nat) : Int))
  | _ => .bad)
 | [1, n] => (match nth h id with
  | some (.lin _ _ t none none xs) => (match innT t (List.getD xs n t.d) with
   | some ⟨_, l⟩ => .cond (n < List.length xs) (.val (.int .i64) ((List.length l : Nat) : Int))
   | none => .bad)
  | _ => .bad)
 | _ => .bad
def Zgq (h : List TObj) (id : Nat) (k : List Nat) : R1 := match k with
 | [2, n, j] => (match nth h id with
  | some (.lin _ _ _ _ _ xs) => .cond (n < List.length xs) (.nm id [2, n, j])
  | _ => .bad)
 | _ => .bad
def cutNm (id n len : Nat) (lo hi : Option Int) (c : Prop) : R1 := match lo, hi with
 | none, none => .cond c (.nm id [3, n, 0, len])
 | some l, none => .cond (c ∧ 0 ≤ l ∧ l ≤ (len : Int)) (.nm id [3, n, l.toNat, len])
 | none, some h => .cond (c ∧ 0 ≤ h ∧ h ≤ (len : Int)) (.nm id [3, n, 0, h.toNat])
 | some l, some h => .cond (c ∧ 0 ≤ l ∧ l ≤ h ∧ h ≤ (len : Int)) (.nm id [3, n, l.toNat, h.toNat])
def Zds (h : List TObj) (id : Nat) (k : List Nat) (lo hi : Option Int) (ti : TI) : R1 := match k with
 | [1, n] => (match nth h id with
  | some (.lin _ _ t none none xs) => (match innT t (List.getD xs n t.d) with
   | some ⟨u, l⟩ => if u.size = ti.size then cutNm id n (List.length l) lo hi (n < List.length xs) else .bad
   | none => .bad)
  | _ => .bad)
 | _ => .bad
def Z69 (T : Tab) (s : TSt) (t f : Nat) (x : SV) : R1 := match Za3 T t f with
 | some (off, i) => (match x with
  | .rp u y => Z4h u off i y okP
  | .val (.ptr u) o => Z4h u off i (Option.getD o u.d) (cdP (Option.isSome o = true))
  | .ptr id k sz j => if i.size = 0 then .bad else .ok (.ptr id k sz (j + off))
  | .nm id k => if i.size = 0 then .bad else Zho s.heap id k off
  | _ => .bad)
 | none => .bad
def loadT (T : Tab) (s : TSt) (t : Nat) (x : SV) : R1 := match T t with
 | some i => (match x with
  | .rp u y => Z4h u 0 i y okV
  | .val (.ptr u) o => Z4h u 0 i (Option.getD o u.d) (cdV (Option.isSome o = true))
  | .ptr id k sz j => (match nth s.heap id with
   | some (.box _ cs) => if k = 0 ∧ j + i.size ≤ cs.length ∧ 0 < i.size ∧ (i.k.agg = true ∨ i.size = 1) then .ok (Zc5 i (cs.drop j)) else .bad
   | some (.row _ u xs) => if sz = u.size then Z4h u j i (List.getD xs k u.d) (cdV (k < List.length xs)) else .bad
   | _ => .bad)
  | .nm id k => Zd6 s.heap id k i
  | _ => .bad)
 | none => .bad
def Z63 (T : Tab) (s : TSt) (t : Nat) (x y : SV) : R1 := match T t, y.num with
 | some ⟨.slice e, _, _, _⟩, some (_, n) => (match T e with
  | some ti => (match x with
   | .val (.slice u) xs => if u.size = ti.size then .cond (0 ≤ n ∧ n < (List.length xs : Int)) (.rp u (rd u.d xs n)) else .bad
   | .own id sz => (match nth s.heap id with
    | some (.row _ u xs) => if sz = ti.size then .cond (0 ≤ n ∧ n < (List.length xs : Int)) (.ptr id n.toNat sz 0) else .bad
    | _ => .bad)
   | .cut id sz off len => if sz = ti.size then .cond (0 ≤ n ∧ n < (len : Int)) (.ptr id (off + n.toNat) sz 0) else .bad
   | .nm id k => Zhg s.heap id k n ti
   | _ => .bad)
  | none => .bad)
 | _, _ => .bad
def Zhe (T : Tab) (t : Nat) (x y : SV) : R1 := match T t, x.stg, y.num with
 | some ⟨.str, _, _, _⟩, some b, some (_, n) => .cond (0 ≤ n ∧ n < (b.size : Int)) (.val .byte (bt b n))
 | _, _, _ => .bad
def lenT (T : Tab) (s : TSt) (t : Nat) (x : SV) : R1 := match T t with
 | some ⟨.str, _, _, _⟩ => (match x.stg with
  | some b => .ok (.val (.int .i64) ((b.size : Nat) : Int))
  | none => .bad)
 | some ⟨.slice _, _, _, _⟩ => (match x with
  | .val (.slice u) xs => .ok (.val (.int .i64) ((List.length xs : Nat) : Int))
  | .own id sz => (match nth s.heap id with
   | some (.row _ u xs) => .ok (.val (.int .i64) ((List.length xs : Nat) : Int))
   | _ => .bad)
  | .cut id sz off len => .ok (.val (.int .i64) ((len : Nat) : Int))
  | .cst (.slice none 0 0) => .ok (.cst (.int .i64 0))
  | .nm id k => Zh0 s.heap id k
  | _ => .bad)
 | _ => .bad
def mmI (mx : Bool) (a b : Int) : Int := match mx with | true => max a b | false => min a b
def mmT (mx : Bool) (x y : SV) : R1 := match x.num, y.num with
 | some (.i64, a), some (.i64, b) => .ok (.val (.int .i64) (mmI mx a b))
 | _, _ => .bad
def Z7d (s : TSt) (x : SV) : R1 := match x with
 | .nm id k => Zgq s.heap id k
 | .ptr id i sz j => .ok (.ptr id i sz j)
 | .rp u y => .ok (.rp u y)
 | .val (.ptr u) o => .cond (Option.isSome o = true) (.rp u (Option.getD o u.d))
 | _ => .bad
def Z6h (z : Option SV) : Option (Option Int) := match z with
 | none => some none
 | some x => (match x.num with | some (_, n) => some (some n) | none => none)
def Zg4 (T : Tab) (s : TSt) (t : Nat) (x : SV) (lo hi : Option SV) : R1 := match Z6h lo, Z6h hi with
 | some lo, some hi => (match T t with
  | some ⟨.str, _, _, _⟩ => (match x.stg with
   | some b => (match lo, hi with
    | none, none => .ok (.val .str (b.extract 0 b.size))
    | some l, none => .cond (0 ≤ l ∧ l ≤ (b.size : Int)) (.val .str (b.extract l.toNat b.size))
    | none, some h => .cond (0 ≤ h ∧ h ≤ (b.size : Int)) (.val .str (b.extract 0 h.toNat))
    | some l, some h => .cond (0 ≤ l ∧ l ≤ h ∧ h ≤ (b.size : Int)) (.val .str (b.extract l.toNat h.toNat)))
   | none => .bad)
  | some ⟨.slice e, _, _, _⟩ => (match T e with
   | some ti => (match x with
    | .val (.slice u) xs => if u.size = ti.size then (match lo, hi with
     | none, none => .ok (.val (.slice u) xs)
     | some l, none => .cond (0 ≤ l ∧ l ≤ (List.length xs : Int)) (.val (.slice u) (List.drop l.toNat xs))
     | none, some h => .cond (0 ≤ h ∧ h ≤ (List.length xs : Int)) (.val (.slice u) (List.take h.toNat xs))
     | some l, some h => .cond (0 ≤ l ∧ l ≤ h ∧ h ≤ (List.length xs : Int)) (.val (.slice u) (List.drop l.toNat (List.take h.toNat xs)))) else .bad
    | .own id sz => (match nth s.heap id with
     | some (.row _ u xs) => if sz = ti.size then (match lo, hi with
      | none, none => .ok (.own id sz)
      | some l, none => .cond (0 ≤ l ∧ l ≤ (List.length xs : Int)) (.cut id sz l.toNat (List.length xs - l.toNat))
      | none, some h => .cond (0 ≤ h ∧ h ≤ (List.length xs : Int)) (.cut id sz 0 h.toNat)
      | some l, some h => .cond (0 ≤ l ∧ l ≤ h ∧ h ≤ (List.length xs : Int)) (.cut id sz l.toNat (h.toNat - l.toNat))) else .bad
     | _ => .bad)
    | .cut id sz off len => if sz = ti.size then (match lo, hi with
     | none, none => .ok (.cut id sz off len)
     | some l, none => .cond (0 ≤ l ∧ l ≤ (len : Int)) (.cut id sz (off + l.toNat) (len - l.toNat))
     | none, some h => .cond (0 ≤ h ∧ h ≤ (len : Int)) (.cut id sz off h.toNat)
     | some l, some h => .cond (0 ≤ l ∧ l ≤ h ∧ h ≤ (len : Int)) (.cut id sz (off + l.toNat) (h.toNat - l.toNat))) else .bad
    | .nm id k => Zds s.heap id k lo hi ti
    | _ => .bad)
   | none => .bad)
  | _ => .bad)
 | _, _ => .bad
def exT1 (T : Tab) (s : TSt) (op : Op) : R1 :=
 match op with
 | .move x => .ok (s.ev x)
 | .assign x => .ok (s.ev x)
 | .binOp op t x y _ => binT T t op (s.ev x) (s.ev y)
 | .unOp op _ x => unT op (s.ev x)
 | .convert a b x => convT T s.heap a b (s.ev x)
 | .extract x i => (match s.ev x with
  | .tup cs => (match nth cs i with | some y => .ok y | none => .bad)
  | _ => .bad)
 | .field t x f => Zhr T t f (s.ev x)
 | .fieldAddr t x f => Z69 T s t f (s.ev x)
 | .indexAddr t x i => Z63 T s t (s.ev x) (s.ev i)
 | .index t x i => Zhe T t (s.ev x) (s.ev i)
 | .load t x => loadT T s t (s.ev x)
 | .call { callee := .builtin .len, args := args, argTypes := ts } => (match args.toList, ts.toList with
  | [x], [t] => lenT T s t (s.ev x)
  | _, _ => .bad)
 | .call { callee := .builtin .min, args := args, .. } => (match args.toList with
  | [x, y] => mmT false (s.ev x) (s.ev y)
  | _ => .bad)
 | .call { callee := .builtin .max, args := args, .. } => (match args.toList with
  | [x, y] => mmT true (s.ev x) (s.ev y)
  | _ => .bad)
 | .nilCheck x => Z7d s (s.ev x)
 | .makeFunc (.func f) first cap => if first.size = 0 then .ok (.fn f (cap.toList.map s.ev)) else .bad
 | .slice t x lo hi none => Zg4 T s t (s.ev x) (lo.map s.ev) (hi.map s.ev)
 | _ => .bad
end Go.Proofs.YtnehieeplbgaiacDoor.Eng
set_option linter.unusedVariables false
set_option linter.unusedSimpArgs false
namespace Go.Proofs.YtnehieeplbgaiacDoor.Eng
open Go
section
variable {T : Tab} {s : TSt}
theorem Tell1.map {H : List TObj} {r r' : Option (Prop × AV)} {q : R1} (h : Tell1 H r q) (hm : ∀ c x, r = some (c, x) → ∃ c', r' = some (c', x) ∧ (c → c')) : Tell1 H r' q := by
 have key : ∀ y : SV, (∃ c' x', r = some (c', x') ∧ c' ∧ AV.le x' (y.toAV H)) → ∃ c' x', r' = some (c', x') ∧ c' ∧ AV.le x' (y.toAV H) := fun y ⟨c, x, h1, h2, h3⟩ => by
  obtain ⟨c', h4, h5⟩ := hm c x h1
  exact ⟨c', x, h4, h5 h2, h3⟩
 cases q with
 | bad => trivial
 | ok y => exact key y h
 | cond c y => exact fun hc => key y (h hc)
theorem Z3u {u : Ty} (xs : List u.den) : (List.map u.cells xs).length = List.length xs := List.length_map ..
theorem Z8w {t f off : Nat} {i : TI} (h : Za3 T t f = some (off, i)) : ∃ fs m p z ft, T t = some ⟨.struct fs, m, p, z⟩ ∧ fs[f]? = some (off, ft) ∧ T ft = some i := by
 unfold Za3 at h
 split at h
 ·rename_i fs m p z ht
  split at h
  ·rename_i off' ft hf
   split at h
   ·rename_i i' hi
    cases h
    exact ⟨fs, m, p, z, ft, ht, by rw [← Z3]; exact hf, hi⟩
   ·cases h
  ·cases h
 ·cases h
theorem Z5w (h : List TObj) (cs : List SV) (n : Nat) : (SV.toAVL h cs).drop n = SV.toAVL h (cs.drop n) := by simp [SV.toAVL_eq, List.map_drop]
theorem Z19 (h : List TObj) (cs : List SV) : (SV.toAVL h cs).length = cs.length := by simp [SV.toAVL_eq]
theorem Z7y (h : List TObj) (i : TI) (cs : List SV) : Z12 i (SV.toAVL h cs) = (Zc5 i cs).toAV h := by
 unfold Z12 Zc5
 cases i.k.agg with
 | true => simp [SV.toAV, SV.toAVL_eq, List.map_take]
 | false => cases cs <;> simp [SV.toAVL, nth, SV.toAV]
theorem Zhq {t f : Nat} {x : Operand} : Tell1 s.heap (Zc T s.toSt (.field t x f)) (Zhr T t f (s.ev x)) := by
 unfold Zhr
 split
 ·rename_i off i hf
  obtain ⟨fs, m, p, z, ft, h1, h2, h3⟩ := Z8w hf
  split
  ·rename_i u y hx
   split
   ·rename_i hu
    unfold Z4h
    split
    ·rename_i u' y' hat
     obtain ⟨h4, h5, h6, h7⟩ := Ty.at_ok _ _ _ _ _ hat
     refine ⟨_, _, by simp only [Zc, h1, h2, h3, TSt.ev_ok, hx, SV.toAV, Ty.av_agg hu]; rfl, ?_, ?_⟩
     ·exact ⟨by rw [Ty.cells_len]; exact h6, by rw [← h4]; exact Ty.size_pos _⟩
     rw [Z3a h4 h5 h7]
     exact .refl _
    ·trivial
   ·trivial
  ·rename_i cs hx
   split
   ·rename_i hc
    refine ⟨_, _, by simp only [Zc, h1, h2, h3, TSt.ev_ok, hx, SV.toAV]; rfl, ?_, ?_⟩
    ·rw [Z19]; exact hc
    rw [Z5w, Z7y]
    exact .refl _
   ·trivial
  ·trivial
 ·trivial
theorem Zgg {h : List TObj} {u : Ty} {o : Option u.den} (ho : o.isSome = true) : (SV.val (.ptr u) o).toAV h = .rp (u.cells (o.getD u.d)) := by
 cases o with
 | none => cases ho
 | some y => rfl
theorem Z1m {h : List TObj} {id : Nat} {e ei : TypeId} {t : Ty} {part hole : Option Nat} {xs : List t.den} (hq : nth s.heap id = some (.lin e ei t part hole xs)) : s.toSt.heap[id]? = some (.lin e ei t.size t.isz part hole (xs.map t.cells)) := by
 rw [TSt.heap_get, hq]; rfl
theorem innT_ok : ∀ (t : Ty) (x : t.den) {u : Ty} {l : List u.den}, innT t x = some ⟨u, l⟩ → t.inn = some u ∧ ∃ cs, t.cells x = cs ++ [.ro u.size (l.map u.cells)]
 | .slice v, x, u, l, h => by cases h; exact ⟨rfl, [], rfl⟩
 | .one t, x, u, l, h => innT_ok t x h
 | .pair a b, x, u, l, h => by
  obtain ⟨h1, cs, h2⟩ := innT_ok b x.2 h
  exact ⟨h1, a.cells x.1 ++ cs, by show a.cells x.1 ++ b.cells x.2 = _; rw [h2, List.append_assoc]⟩
 | .int _, _, _, _, h | .byte, _, _, _, h | .bool, _, _, _, h | .str, _, _, _, h | .ptr _, _, _, _, h | .nilS, _, _, _, h | .nilI, _, _, _, h | .adr, _, _, _, h | .mp _, _, _, _, h | .mq _, _, _, _, h | .fnc _, _, _, _, h | .clo _ _, _, _, _, h | .ref _, _, _, _, h => by cases h
theorem Zhc {t : Ty} {x : t.den} {u : Ty} {l : List u.den} (h : innT t x = some ⟨u, l⟩) : t.isz = u.size ∧ innOf (t.cells x) = l.map u.cells := by
 obtain ⟨h1, cs, h2⟩ := innT_ok t x h
 refine ⟨by unfold Ty.isz; rw [h1], ?_⟩
 unfold innOf
 rw [h2, List.getLast?_concat]
theorem innT_d : ∀ (t : Ty) {u : Ty} {l : List u.den}, innT t t.d = some ⟨u, l⟩ → l = []
 | .slice v, u, l, h => by cases h; rfl
 | .one t, u, l, h => innT_d t h
 | .pair a b, u, l, h => innT_d b h
 | .int _, _, _, h | .byte, _, _, h | .bool, _, _, h | .str, _, _, h | .ptr _, _, _, h | .nilS, _, _, h | .nilI, _, _, h | .adr, _, _, h | .mp _, _, _, h | .mq _, _, _, h | .fnc _, _, _, h | .clo _ _, _, _, h | .ref _, _, _, h => by cases h
theorem Z5h {t : Ty} {xs : List t.den} {n : Nat} {u : Ty} {l : List u.den} (h : innT t (List.getD xs n t.d) = some ⟨u, l⟩) : t.isz = u.size ∧ innOf (Z2 (xs.map t.cells) n) = l.map u.cells := by
 refine ⟨(Zhc h).1, ?_⟩
 rcases Nat.lt_or_ge n xs.length with hn | hn
 ·have e : Z2 (xs.map t.cells) n = t.cells (List.getD xs n t.d) := by simp [Z2, List.getElem?_map, List.getElem?_eq_getElem hn, List.getD]
  rw [e]; exact (Zhc h).2
 ·have e : List.getD xs n t.d = t.d := by simp [List.getD, List.getElem?_eq_none hn]
  rw [e] at h
  rw [innT_d t h]
  have e2 : Z2 (xs.map t.cells) n = [] := by simp [Z2, List.getElem?_map, List.getElem?_eq_none hn]
  rw [e2]; rfl
theorem Zhf {id : Nat} {k : List Nat} {n : Int} {ti : TI} : Tell1 s.heap (Zfb s.toSt.heap id k n ti) (Zhg s.heap id k n ti) := by
 unfold Zhg
 split
 ·split
  ·rename_i e ei t part hole xs hq
   split
   ·rename_i h1
    intro hc
    refine ⟨_, _, by simp only [Zfb, Z1m (h := s.heap) hq]; rfl, ?_, .refl _⟩
    exact ⟨hc.1, by simpa using hc.2, h1⟩
   ·trivial
  ·trivial
 ·trivial
theorem Zhn {id : Nat} {k : List Nat} {off : Nat} : Tell1 s.heap (Zhp s.toSt.heap id k off) (Zho s.heap id k off) := by
 unfold Zho
 split
 ·rename_i n j
  split
  ·rename_i e ei t part hole xs hq
   intro hc
   exact ⟨_, _, by simp only [Zhp, Z1m (h := s.heap) hq]; rfl, by simpa using hc, .refl _⟩
  ·trivial
 ·trivial
theorem Zgp {id : Nat} {k : List Nat} : Tell1 s.heap (Zf7 s.toSt.heap id k) (Zgq s.heap id k) := by
 unfold Zgq
 split
 ·rename_i n j
  split
  ·rename_i e ei t part hole xs hq
   intro hc
   exact ⟨_, _, by simp only [Zf7, Z1m (h := s.heap) hq]; rfl, by simpa using hc, .refl _⟩
  ·trivial
 ·trivial
theorem Zf9 {id : Nat} {k : List Nat} {i : TI} : Tell1 s.heap (Z6i s.toSt.heap id k i) (Zd6 s.heap id k i) := by
 unfold Zd6
 split
 ·rename_i n j
  split
  ·rename_i e ei t part hole xs hq
   have hrow : n < xs.length → Z2 (xs.map t.cells) n = t.cells (List.getD xs n t.d) := fun hn => by
    simp [Z2, List.getElem?_map, List.getElem?_eq_getElem hn, List.getD]
   have one : ∀ {u : Ty}, u.size = i.size → u.isAgg = i.k.agg → i.k.agg = false → i.size = 1 := fun {u} h4 h5 h6 => by
    rw [← h4]; rw [h6] at h5
    cases u <;> first | rfl | (simp [Ty.isAgg] at h5)
   split
   ·rename_i hd
    unfold Z4h
    split
    ·rename_i u' y' hat
     obtain ⟨h4, h5, h6, h7⟩ := Ty.at_ok _ _ _ _ _ hat
     intro hc
     refine ⟨_, _, by simp only [Z6i, Z1m (h := s.heap) hq, hd]; rfl, ?_, ?_⟩
     ·exact ⟨by simpa using hc, by rw [← h4]; exact Ty.size_pos _, one h4 h5⟩
     ·rw [hrow hc, Z3a h4 h5 h7]
      exact .refl _
    ·trivial
   ·rename_i hd
    split
    ·rename_i h1
     intro hc
     refine ⟨_, _, by simp only [Z6i, Z1m (h := s.heap) hq, hd]; rfl, ?_, .refl _⟩
     exact ⟨by simpa using hc, h1⟩
    ·trivial
   ·rename_i c hd
    unfold Z4h
    split
    ·rename_i u' y' hat
     obtain ⟨h4, h5, h6, h7⟩ := Ty.at_ok _ _ _ _ _ hat
     intro hc
     refine ⟨_, _, by simp only [Z6i, Z1m (h := s.heap) hq, hd]; rfl, ?_, ?_⟩
     ·exact ⟨by simpa using hc.1, hc.2, h6, by rw [← h4]; exact Ty.size_pos _, one h4 h5⟩
     ·rw [hrow hc.1, Z3a h4 h5 h7]
      exact .refl _
    ·trivial
   ·trivial
  ·trivial
 ·trivial
theorem Zgz {id : Nat} {k : List Nat} : Tell1 s.heap (Zd7 s.toSt.heap id k) (Zh0 s.heap id k) := by
 unfold Zh0
 split
 ·split
  ·rename_i e ei t part hole xs hq
   refine ⟨_, _, by simp only [Zd7, Z1m (h := s.heap) hq]; rfl, trivial, AV.le_of_eq ?_⟩
   simp [SV.toAV, Ty.av, Ty.isAgg, Ty.cells]
  ·trivial
 ·rename_i n
  split
  ·rename_i e ei t xs hq
   split
   ·rename_i u l hl
    intro hc
    refine ⟨_, _, by simp only [Zd7, Z1m (h := s.heap) hq]; rfl, by simpa using hc, AV.le_of_eq ?_⟩
    rw [(Z5h hl).2]
    simp [SV.toAV, Ty.av, Ty.isAgg, Ty.cells]
   ·trivial
  ·trivial
 ·trivial
theorem Za4 {t f : Nat} {x : Operand} : Tell1 s.heap (Zc T s.toSt (.fieldAddr t x f)) (Z69 T s t f (s.ev x)) := by
 unfold Z69
 split
 ·rename_i off i hf
  obtain ⟨fs, m, p, z, ft, h1, h2, h3⟩ := Z8w hf
  have rpc : ∀ (u : Ty) (y : u.den) {u' : Ty} {y' : u'.den}, u.at off i.size i.k.agg y = some ⟨u', y'⟩ → (s.ev x).toAV s.heap = .rp (u.cells y) → ∃ c' x', Zc T s.toSt (.fieldAddr t x f) = some (c', x') ∧ c' ∧ AV.le x' (.rp (u'.cells y')) := by
   intro u y u' y' hat hx
   obtain ⟨h4, h5, h6, h7⟩ := Ty.at_ok _ _ _ _ _ hat
   refine ⟨_, _, by simp only [Zc, h1, h2, h3, TSt.ev_ok, hx]; rfl, ?_, ?_⟩
   ·have := Ty.size_pos u'; omega
   rw [← h7]
   exact .rpTake _ _
  split
  ·rename_i u y hx
   unfold Z4h
   split
   ·rename_i u' y' hat
    exact rpc u y hat (by rw [hx]; rfl)
   ·trivial
  ·rename_i u o hx
   unfold Z4h
   split
   ·rename_i u' y' hat
    intro ho
    exact rpc u _ hat (by rw [hx]; exact Zgg ho)
   ·trivial
  ·rename_i id k sz j hx
   split
   ·trivial
   ·rename_i hi
    refine ⟨_, _, by simp only [Zc, h1, h2, h3, TSt.ev_ok, hx, SV.toAV]; rfl, ?_, ?_⟩
    ·exact hi
    ·exact .refl _
  ·rename_i id k hx
   split
   ·trivial
   ·rename_i hi
    refine Tell1.map Zhn (fun c' x' hF => ?_)
    exact ⟨c' ∧ i.size ≠ 0, by simp only [Zc, h1, h2, h3, TSt.ev_ok, hx, SV.toAV, hF], fun h => ⟨h, hi⟩⟩
  ·trivial
 ·trivial
theorem Zjf {t : Nat} {x : Operand} : Tell1 s.heap (Zc T s.toSt (.load t x)) (loadT T s t (s.ev x)) := by
 unfold loadT
 split
 ·rename_i i hi
  have one : ∀ {u : Ty}, u.size = i.size → u.isAgg = i.k.agg → i.k.agg = false → i.size = 1 := fun {u} h4 h5 h6 => by
   rw [← h4]; rw [h6] at h5
   cases u <;> first | rfl | (simp [Ty.isAgg] at h5)
  have rpc : ∀ (u : Ty) (y : u.den) {u' : Ty} {y' : u'.den}, u.at 0 i.size i.k.agg y = some ⟨u', y'⟩ → (s.ev x).toAV s.heap = .rp (u.cells y) → ∃ c' x', Zc T s.toSt (.load t x) = some (c', x') ∧ c' ∧ AV.le x' (u'.av y') := by
   intro u y u' y' hat hx
   obtain ⟨h4, h5, h6, h7⟩ := Ty.at_ok _ _ _ _ _ hat
   refine ⟨_, _, by simp only [Zc, hi, TSt.ev_ok, hx]; rfl, ?_, ?_⟩
   ·exact ⟨by rw [Ty.cells_len]; omega, by rw [← h4]; exact Ty.size_pos _, one h4 h5⟩
   rw [List.drop_zero] at h7
   rw [Z3a h4 h5 h7]
   exact .refl _
  split
  ·rename_i u y hx
   unfold Z4h
   split
   ·rename_i u' y' hat
    exact rpc u y hat (by rw [hx]; rfl)
   ·trivial
  ·rename_i u o hx
   unfold Z4h
   split
   ·rename_i u' y' hat
    intro ho
    exact rpc u _ hat (by rw [hx]; exact Zgg ho)
   ·trivial
  ·rename_i id k sz j hx
   split
   ·rename_i e cs hq
    split
    ·rename_i hc
     obtain ⟨rfl, h4, h5, h6⟩ := hc
     refine ⟨_, _, by simp only [Zc, hi, TSt.ev_ok, hx, SV.toAV, TSt.heap_get, hq, Option.map_some, TObj.toObj, Zu]; rfl, ?_, ?_⟩
     ·refine ⟨trivial, by rw [Z19]; exact h4, h5, fun h7 => ?_⟩
      rcases h6 with h6 | h6
      ·rw [h7] at h6; cases h6
      ·exact h6
     ·rw [Z5w, Z7y]; exact .refl _
    ·trivial
   ·rename_i e u xs hq
    split
    ·rename_i hsz
     unfold Z4h
     split
     ·rename_i u' y' hat
      intro hk
      obtain ⟨h4, h5, h6, h7⟩ := Ty.at_ok _ _ _ _ _ hat
      have hrow : Z2 (xs.map u.cells) k = u.cells (xs.getD k u.d) := by
       simp [Z2, List.getElem?_map, List.getElem?_eq_getElem hk, List.getD]
      refine ⟨_, _, by simp only [Zc, hi, TSt.ev_ok, hx, SV.toAV, TSt.heap_get, hq, Option.map_some, TObj.toObj, Zu, hrow]; rfl, ?_, ?_⟩
      ·exact ⟨⟨by simpa using hk, hsz⟩, by rw [Ty.cells_len]; exact h6, by rw [← h4]; exact Ty.size_pos _, one h4 h5⟩
      rw [Z3a h4 h5 h7]
      exact .refl _
     ·trivial
    ·trivial
   ·trivial
  ·rename_i id k hx
   have e : Zc T s.toSt (.load t x) = Z6i s.toSt.heap id k i := by simp only [Zc, hi, TSt.ev_ok, hx, SV.toAV]
   rw [e]; exact Zf9
  ·trivial
 ·trivial
theorem Zhj {u : Ty} {xs : List u.den} {n : Int} (h : 0 ≤ n ∧ n < (xs.length : Int)) : Z2 (xs.map u.cells) n.toNat = u.cells (rd u.d xs n) := by
 have hk : n.toNat < xs.length := by omega
 simp [Z2, rd, List.getElem?_map, List.getElem?_eq_getElem hk, List.getD]
theorem Z9w {t : Nat} {x y : Operand} : Tell1 s.heap (Zc T s.toSt (.indexAddr t x y)) (Z63 T s t (s.ev x) (s.ev y)) := by
 unfold Z63
 split
 ·rename_i e m p z k n ht hn
  split
  ·rename_i ti hti
   split
   ·rename_i u xs hx
    split
    ·rename_i hu
     intro hc
     refine ⟨_, _, by simp only [Zc, ht, hti, TSt.ev_ok, Z17 hn, hx, SV.toAV]; rfl, ?_, ?_⟩
     ·exact ⟨hc.1, (congrArg (fun k : Nat => n < (k : Int)) (Z3u (u := u) xs)).mpr hc.2, hu⟩
     rw [Zhj hc]
     exact .refl _
    ·trivial
   ·rename_i id sz hx
    split
    ·rename_i e' u xs hq
     split
     ·rename_i hsz
      intro hc
      refine ⟨_, _, by simp only [Zc, ht, hti, TSt.ev_ok, Z17 hn, hx, SV.toAV]; rfl, ?_, ?_⟩
      ·exact ⟨hc.1, by rw [Z4 hq]; exact hc.2, hsz⟩
      rw [Nat.zero_add]
      exact .refl _
     ·trivial
    ·trivial
   ·rename_i id sz off len hx
    split
    ·rename_i hsz
     intro hc
     refine ⟨_, _, by simp only [Zc, ht, hti, TSt.ev_ok, Z17 hn, hx, SV.toAV]; rfl, ?_, ?_⟩
     ·exact ⟨hc.1, hc.2, hsz⟩
     ·exact .refl _
    ·trivial
   ·rename_i id l hx
    have e : Zc T s.toSt (.indexAddr t x y) = Zfb s.toSt.heap id l n ti := by simp only [Zc, ht, hti, TSt.ev_ok, Z17 hn, hx, SV.toAV]
    rw [e]; exact Zhf
   ·trivial
  ·trivial
 ·trivial
theorem Zhd {t : Nat} {x y : Operand} : Tell1 s.heap (Zc T s.toSt (.index t x y)) (Zhe T t (s.ev x) (s.ev y)) := by
 unfold Zhe
 split
 ·rename_i m p z b k n ht hb hn
  intro hc
  refine ⟨_, _, by simp only [Zc, ht, TSt.ev_ok, Z17 hn, Z2x hb]; rfl, ?_, ?_⟩
  ·exact hc
  ·exact .refl _
 ·trivial
theorem lenT_ok {t : Nat} {x : Operand} {cl : Call} (hcl : cl.callee = .builtin .len) (ha : cl.args.toList = [x]) (ht' : cl.argTypes.toList = [t]) : Tell1 s.heap (Zc T s.toSt (.call cl)) (lenT T s t (s.ev x)) := by
 obtain ⟨cal, ar, at'⟩ := cl
 simp only at hcl ha ht'
 subst hcl
 unfold lenT
 split
 ·rename_i m p z ht
  split
  ·rename_i b hb
   refine ⟨_, _, by simp only [Zc, ha, ht', ht, TSt.ev_ok, Z2x hb]; rfl, ?_, ?_⟩
   ·exact trivial
   ·exact .refl _
  ·trivial
 ·rename_i e m p z ht
  split
  ·rename_i u xs hx
   refine ⟨_, _, by simp only [Zc, ha, ht', ht, TSt.ev_ok, hx, SV.toAV]; rfl, ?_, ?_⟩
   ·exact trivial
   ·have e : AV.v (.int .i64 (((List.map u.cells xs).length : Nat) : Int)) = AV.v (.int .i64 ((List.length xs : Nat) : Int)) := by rw [Z3u (u := u) xs]
    exact AV.le_of_eq e
  ·rename_i id sz hx
   split
   ·rename_i e' u xs hq
    refine ⟨_, _, by simp only [Zc, ha, ht', ht, TSt.ev_ok, hx, SV.toAV]; rfl, ?_, ?_⟩
    ·exact trivial
    rw [Z4 hq]
    exact .refl _
   ·trivial
  ·rename_i id sz off len hx
   refine ⟨_, _, by simp only [Zc, ha, ht', ht, TSt.ev_ok, hx, SV.toAV]; rfl, ?_, ?_⟩
   ·exact trivial
   ·exact .refl _
  ·rename_i hx
   refine ⟨_, _, by simp only [Zc, ha, ht', ht, TSt.ev_ok, hx, SV.toAV, Z3v]; rfl, ?_, ?_⟩
   ·exact trivial
   ·exact .refl _
  ·rename_i id l hx
   have e1 : Zc T s.toSt (.call { callee := .builtin .len, args := ar, argTypes := at' }) = Zd7 s.toSt.heap id l := by simp only [Zc, ha, ht', ht, TSt.ev_ok, hx, SV.toAV]
   rw [e1]; exact Zgz
  ·trivial
 ·trivial
theorem Zbm {x : Operand} : Tell1 s.heap (Zc T s.toSt (.nilCheck x)) (Z7d s (s.ev x)) := by
 unfold Z7d
 split
 ·rename_i id k hx
  have e1 : Zc T s.toSt (.nilCheck x) = Zf7 s.toSt.heap id k := by simp only [Zc, TSt.ev_ok, hx, SV.toAV]
  rw [e1]; exact Zgp
 ·rename_i id i sz j hx
  refine ⟨_, _, by simp only [Zc, TSt.ev_ok, hx, SV.toAV]; rfl, ?_, ?_⟩
  ·exact trivial
  ·exact .refl _
 ·rename_i u y hx
  refine ⟨_, _, by simp only [Zc, TSt.ev_ok, hx, SV.toAV]; rfl, ?_, ?_⟩
  ·exact trivial
  ·exact .refl _
 ·rename_i u o hx
  intro ho
  refine ⟨_, _, by simp only [Zc, TSt.ev_ok, hx, Zgg ho]; rfl, ?_, ?_⟩
  ·exact trivial
  ·exact .refl _
 ·trivial
end
end Go.Proofs.YtnehieeplbgaiacDoor.Eng
set_option linter.unusedVariables false
set_option linter.unusedSimpArgs false
namespace Go.Proofs.YtnehieeplbgaiacDoor.Eng
open Go
section
variable {T : Tab} {s : TSt}
theorem mapAll {u : Ty} (xs : List u.den) : xs.map u.cells = ((xs.map u.cells).take xs.length).drop 0 := by
 rw [List.drop_zero, List.take_of_length_le (by simp)]
theorem mapDrop {u : Ty} (xs : List u.den) (n : Nat) : (xs.drop n).map u.cells = ((xs.map u.cells).take xs.length).drop n := by
 rw [List.take_of_length_le (by simp), List.map_drop]
theorem mapTake {u : Ty} (xs : List u.den) (n : Nat) : (xs.take n).map u.cells = ((xs.map u.cells).take n).drop 0 := by
 rw [List.drop_zero, List.map_take]
theorem mapCut {u : Ty} (xs : List u.den) (n m : Nat) : ((xs.take m).drop n).map u.cells = ((xs.map u.cells).take m).drop n := by
 rw [List.map_drop, List.map_take]
theorem Zbi {z : Option Operand} {l : Option Int} (h : Z6h (z.map s.ev) = some l) : (l = none ∧ z.map s.toSt.ev = none) ∨ ∃ n k, l = some n ∧ z.map s.toSt.ev = some (.v (.int k n)) := by
 cases z with
 | none => cases h; exact .inl ⟨rfl, rfl⟩
 | some x =>
  simp only [Option.map_some, Z6h] at h
  split at h
  ·rename_i k n hn
   cases h
   exact .inr ⟨n, k, rfl, by simp only [Option.map_some, TSt.ev_ok, Z17 hn]⟩
  ·cases h
def bnd2 (lo hi : Option Int) (len : Nat) : Prop × Nat × Nat := match lo, hi with
 | none, none => (True, 0, len)
 | some l, none => (0 ≤ l ∧ l ≤ (len : Int), l.toNat, len)
 | none, some h => (0 ≤ h ∧ h ≤ (len : Int), 0, h.toNat)
 | some l, some h => (0 ≤ l ∧ l ≤ h ∧ h ≤ (len : Int), l.toNat, h.toNat)
theorem Zi8 {lo hi : Option Operand} {l h : Option Int} (hl : Z6h (lo.map s.ev) = some l) (hh : Z6h (hi.map s.ev) = some h) (len : Nat) : bnds (lo.map s.toSt.ev) (hi.map s.toSt.ev) len = some (bnd2 l h len) := by
 rcases Zbi hl with ⟨rfl, h1⟩ | ⟨n, k, rfl, h1⟩ <;> rcases Zbi hh with ⟨rfl, h2⟩ | ⟨n', k', rfl, h2⟩ <;> rw [h1, h2] <;> rfl
theorem Zeo (h : List TObj) (u : Ty) (xs : List u.den) : (SV.val (.slice u) xs).toAV h = .ro u.size (xs.map u.cells) := rfl
theorem Zg3 {t : Nat} {x : Operand} {lo hi : Option Operand} : Tell1 s.heap (Zc T s.toSt (.slice t x lo hi none)) (Zg4 T s t (s.ev x) (lo.map s.ev) (hi.map s.ev)) := by
 unfold Zg4
 split
 ·rename_i l h hl hh
  have hb := Zi8 hl hh
  split
  ·rename_i m p z ht
   split
   ·rename_i b hx
    have key : ∀ (r : AV), r = .v (.string (b.extract (bnd2 l h b.size).2.1 (bnd2 l h b.size).2.2)) → (bnd2 l h b.size).1 → ∃ c' x', Zc T s.toSt (.slice t x lo hi none) = some (c', x') ∧ c' ∧ AV.le x' r := by
     intro r hr hc
     refine ⟨_, _, by simp only [Zc, ht, TSt.ev_ok, Z2x hx, hb]; rfl, ?_, ?_⟩
     ·exact hc
     rw [hr]; exact .refl _
    split
    ·exact key _ rfl trivial
    ·exact fun hc => key _ rfl hc
    ·exact fun hc => key _ rfl hc
    ·exact fun hc => key _ rfl hc
   ·trivial
  ·rename_i e m p z ht
   split
   ·rename_i ti hti
    split
    ·rename_i u xs hx
     split
     ·rename_i hu
      have key : ∀ (ys : List u.den), ys.map u.cells = ((List.map u.cells xs).take (bnd2 l h (List.length xs)).2.2).drop (bnd2 l h (List.length xs)).2.1 → (bnd2 l h (List.length xs)).1 → ∃ c' x', Zc T s.toSt (.slice t x lo hi none) = some (c', x') ∧ c' ∧ AV.le x' ((SV.val (.slice u) ys).toAV s.heap) := by
       intro ys hr hc
       have hx' : s.toSt.ev x = .ro u.size (List.map u.cells xs) := by rw [TSt.ev_ok, hx]; rfl
       refine ⟨_, _, by simp only [Zc, ht, hti, hx', hb, Z3u (u := u) xs]; rfl, ?_, ?_⟩
       ·exact ⟨hc, hu⟩
       rw [Zeo, hr]
       exact .refl _
      split
      ·exact key xs (mapAll (u := u) xs) trivial
      ·exact fun hc => key _ (mapDrop (u := u) xs _) hc
      ·exact fun hc => key _ (mapTake (u := u) xs _) hc
      ·exact fun hc => key _ (mapCut (u := u) xs _ _) hc
     ·trivial
    ·rename_i id sz hx
     split
     ·rename_i e' u xs hq
      split
      ·rename_i hsz
       have key : ∀ (r : AV), r = .own id sz (0 + (bnd2 l h (List.length xs)).2.1) ((bnd2 l h (List.length xs)).2.2 - (bnd2 l h (List.length xs)).2.1) → (bnd2 l h (List.length xs)).1 → ∃ c' x', Zc T s.toSt (.slice t x lo hi none) = some (c', x') ∧ c' ∧ AV.le x' r := by
        intro r hr hc
        have hx' : s.toSt.ev x = .own id sz 0 (List.length xs) := by rw [TSt.ev_ok, hx]; simp only [SV.toAV]; rw [Z4 hq]
        refine ⟨_, _, by simp only [Zc, ht, hti, hx', hb]; rfl, ?_, ?_⟩
        ·exact ⟨hc, hsz⟩
        rw [hr]; exact .refl _
       split
       ·refine key _ ?_ trivial
        simp only [SV.toAV, Z4 hq, bnd2]; rfl
       ·refine fun hc => key _ ?_ hc
        simp only [SV.toAV, bnd2, Nat.zero_add]
       ·refine fun hc => key _ ?_ hc
        simp only [SV.toAV, bnd2, Nat.zero_add, Nat.sub_zero]
       ·refine fun hc => key _ ?_ hc
        simp only [SV.toAV, bnd2, Nat.zero_add]
      ·trivial
     ·trivial
    ·rename_i id sz off len hx
     split
     ·rename_i hsz
      have key : ∀ (r : AV), r = .own id sz (off + (bnd2 l h len).2.1) ((bnd2 l h len).2.2 - (bnd2 l h len).2.1) → (bnd2 l h len).1 → ∃ c' x', Zc T s.toSt (.slice t x lo hi none) = some (c', x') ∧ c' ∧ AV.le x' r := by
       intro r hr hc
       have hx' : s.toSt.ev x = .own id sz off len := by rw [TSt.ev_ok, hx]; rfl
       refine ⟨_, _, by simp only [Zc, ht, hti, hx', hb]; rfl, ?_, ?_⟩
       ·exact ⟨hc, hsz⟩
       rw [hr]; exact .refl _
      split
      ·exact key _ rfl trivial
      ·exact fun hc => key _ rfl hc
      ·exact fun hc => key _ rfl hc
      ·exact fun hc => key _ rfl hc
     ·trivial
    ·rename_i id k hx
     unfold Zds
     split
     ·rename_i n
      split
      ·rename_i e' ei' t' xs hq
       split
       ·rename_i u ll hil
        split
        ·rename_i hu
         obtain ⟨i1, i2⟩ := Z5h hil
         have key : ∀ (r : AV), r = .nm id [3, n, (bnd2 l h (List.length ll)).2.1, (bnd2 l h (List.length ll)).2.2] → n < List.length xs → (bnd2 l h (List.length ll)).1 → ∃ c' x', Zc T s.toSt (.slice t x lo hi none) = some (c', x') ∧ c' ∧ AV.le x' r := by
          intro r hr hn hc
          have hx' : s.toSt.ev x = .nm id [1, n] := by rw [TSt.ev_ok, hx]; rfl
          refine ⟨_, _, by simp only [Zc, ht, hti, hx', Z9d, Z1m (h := s.heap) hq, i2, Z3u (u := u) ll, hb]; rfl, ?_, ?_⟩
          ·exact ⟨by simpa using hn, hc, by rw [i1, hu]⟩
          rw [hr]; exact .refl _
         unfold cutNm
         split
         ·exact fun hc => key _ rfl hc trivial
         ·exact fun hc => key _ rfl hc.1 hc.2
         ·exact fun hc => key _ rfl hc.1 hc.2
         ·exact fun hc => key _ rfl hc.1 hc.2
        ·trivial
       ·trivial
      ·trivial
     ·trivial
    ·trivial
   ·trivial
  ·trivial
 ·trivial
theorem Zax (h : List TObj) (cs : List SV) (i : Nat) : (SV.toAVL h cs)[i]? = (nth cs i).map (SV.toAV h) := by simp [SV.toAVL_eq, Z3]
theorem Z6a {op : Op} : Tell1 s.heap (Zc T s.toSt op) (exT1 T s op) := by
 have mv : ∀ x : Operand, Tell1 s.heap (some (True, s.toSt.ev x)) (.ok (s.ev x)) := fun x => ⟨_, _, rfl, trivial, by rw [TSt.ev_ok]; exact .refl _⟩
 unfold exT1
 split
 ·exact mv _
 ·exact mv _
 ·exact binT_ok
 ·exact unT_ok
 ·exact Zjx
 ·rename_i x i
  split
  ·rename_i cs hx
   split
   ·rename_i y hy
    have hg : (SV.toAVL s.heap cs)[i]? = some (y.toAV s.heap) := by rw [Zax, hy]; rfl
    refine ⟨_, _, by simp only [Zc, TSt.ev_ok, hx, SV.toAV]; rfl, ?_, ?_⟩
    ·exact (List.getElem?_eq_some_iff.1 hg).1
    rw [hg]; exact .refl _
   ·trivial
  ·trivial
 ·exact Zhq
 ·exact Za4
 ·exact Z9w
 ·exact Zhd
 ·exact Zjf
 ·rename_i args ts
  split
  ·rename_i x t ha ht
   exact lenT_ok rfl ha ht
  ·trivial
 ·rename_i args ts
  split
  ·rename_i x y ha
   unfold mmT
   split
   ·rename_i a b hx hy
    refine ⟨_, _, by simp only [Zc, ha, TSt.ev_ok, Z17 hx, Z17 hy]; rfl, ?_, ?_⟩
    ·exact trivial
    ·exact .refl _
   ·trivial
  ·trivial
 ·rename_i args ts
  split
  ·rename_i x y ha
   unfold mmT
   split
   ·rename_i a b hx hy
    refine ⟨_, _, by simp only [Zc, ha, TSt.ev_ok, Z17 hx, Z17 hy]; rfl, ?_, ?_⟩
    ·exact trivial
    ·exact .refl _
   ·trivial
  ·trivial
 ·exact Zbm
 ·rename_i f first cap
  split
  ·rename_i hf
   refine ⟨_, _, by simp only [Zc, hf]; rfl, ?_, ?_⟩
   ·exact trivial
   have e : cap.toList.map s.toSt.ev = SV.toAVL s.heap (cap.toList.map s.ev) := by
    rw [SV.toAVL_eq, List.map_map]
    exact List.map_congr_left fun x _ => TSt.ev_ok s x
   rw [e]
   exact .refl _
  ·trivial
 ·exact Zg3
 ·trivial
end
def Zf1 (h : List TObj) (id : Nat) (t : Ty) : Option (List t.den) := match nth h id with
 | some (.row _ u xs) => Zd (.slice t) (.slice u) xs
 | _ => none
def linAs (t u : Ty) (xs : List u.den) (k : List Nat) : Option (List t.den) := match k with
 | [0] => Zd (.slice t) (.slice u) xs
 | [1, n] => (match innT u (List.getD xs n u.d) with
  | some ⟨v, l⟩ => Zd (.slice t) (.slice v) l
  | none => none)
 | [3, n, lo, hi] => (match innT u (List.getD xs n u.d) with
  | some ⟨v, l⟩ => Zd (.slice t) (.slice v) (List.drop lo (List.take hi l))
  | none => none)
 | _ => none
def mapsOf : List TObj → List TObj
 | [] => []
 | o :: r => (match o with | .mapo t es => .mapo t es | _ => .dead) :: mapsOf r
def asm (h : List TObj) : (t : Ty) → List SV → Option t.den
 | .pair a b, cs => match asm h a (cs.take a.size), asm h b (cs.drop a.size) with
  | some x, some y => some (x, y)
  | _, _ => none
 | .one t, cs => asm h t cs
 | .ptr t, cs => match cs with
  | [.val u y] => Zd (.ptr t) u y
  | [.rp u y] => Zd (.ptr t) (.ptr u) (some y)
  | [.cst (.pointer none)] => some (none : Option t.den)
  | [.ptr id 0 _ 0] => match nth h id with
   | some (.box _ cs) => (match asm (mapsOf h) t cs with
    | some y => some (some y : Option t.den)
    | none => none)
   | _ => none
  | _ => none
 | .slice t, cs => match cs with
  | [.val u y] => Zd (.slice t) u y
  | [.cst (.slice none 0 0)] => some ([] : List t.den)
  | [.own id sz] => (match decide (sz = t.size) with | true => Zf1 h id t | false => none)
  | [.cut id sz off len] => (match decide (sz = t.size) with
   | true => (match Zf1 h id t with
    | some xs => some (List.take len (List.drop off xs) : List t.den)
    | none => none)
   | false => none)
  | [.nm id k] => (match nth h id with
   | some (.lin _ _ u none none xs) => linAs t u xs k
   | _ => none)
  | _ => none
 | .nilS, cs => match cs with
  | [.val u y] => Zd .nilS u y
  | [.cst (.slice none 0 0)] => some ()
  | _ => none
 | .nilI, cs => match cs with
  | [.val u y] => Zd .nilI u y
  | [.cst .nilIface] => some ()
  | _ => none
 | .adr, cs => match cs with
  | [.val u y] => Zd .adr u y
  | _ => none
 | .fnc f, cs => match cs with
  | [.val u y] => Zd (.fnc f) u y
  | [.fn f' []] => (match decide (f' = f) with | true => some () | false => none)
  | _ => none
 | .clo f c, cs => match cs with
  | [.val u y] => Zd (.clo f c) u y
  | [.fn f' caps] => (match decide (f' = f) with | true => asm h c caps | false => none)
  | _ => none
 | .ref t, cs => match cs with
  | [.val u y] => Zd (.ref t) u y
  | [.rp u y] => Zd (.ref t) (.ref u) y
  | [.ptr id 0 _ 0] => (match nth h id with
   | some (.box _ cs) => asm (mapsOf h) t cs
   | _ => none)
  | _ => none
 | .mq t, cs => match cs with
  | [.val u y] => Zd (.mq t) u y
  | _ => none
 | .mp t, cs => match cs with
  | [.val u y] => Zd (.mp t) u y
  | [.cst (.map none)] => some ([] : List (ByteArray × t.den))
  | [.nm id []] => (match nth h id with
   | some (.mapo u es) => Zd (.mp t) (.mp u) es
   | _ => none)
  | _ => none
 | .int k, cs => match cs with
  | [.val u y] => Zd (.int k) u y
  | [.cst (.int k' n)] => (match decide (k' = k) with | true => some (n : Int) | false => none)
  | _ => none
 | .byte, cs => match cs with
  | [.val u y] => Zd .byte u y
  | [.cst (.int .u8 n)] => (match decide (0 ≤ n ∧ n < 256) with | true => some (UInt8.ofInt n) | false => none)
  | _ => none
 | .bool, cs => match cs with
  | [.val u y] => Zd .bool u y
  | [.cst (.bool b)] => some b
  | _ => none
 | .str, cs => match cs with
  | [.val u y] => Zd .str u y
  | [.cst (.string b)] => some b
  | _ => none
def asT (h : List TObj) (t : Ty) (x : SV) : Option t.den := match x with
 | .val u y => Zd t u y
 | .agg cs => (match t.isAgg with | true => asm h t cs | false => none)
 | .cst (.agg vs) => (match t.isAgg && vs.toList.all Value.oneCell' with | true => asm h t (vs.toList.map .cst) | false => none)
 | x => (match t.isAgg with | true => none | false => asm h t [x])
structure Lends (f : AV → AV) (h H : List TObj) : Prop where
 row : ∀ id e u xs, nth h id = some (.row e u xs) → nth H id = some (.row e u xs) ∧ ∀ off len, f (.own id u.size off len) = .ro u.size (((List.map u.cells xs).drop off).take len)
 box : ∀ id e cs sz, nth h id = some (.box e cs) → ((SV.toAVL H cs).map (AV.sub (lendM (H.map (TObj.toObj H))))).all AV.flat = true → f (.ptr id 0 sz 0) = .rp ((SV.toAVL H cs).map (AV.sub (lendM (H.map (TObj.toObj H)))))
 map : ∀ id t es, nth h id = some (.mapo t es) → nth H id = some (.mapo t es) ∧ f (.nm id []) = .mp (mapV t es)
 lin : ∀ id e ei u xs, nth h id = some (.lin e ei u none none xs) → f (.nm id [0]) = .ro u.size (xs.map u.cells) ∧ (∀ q, f (.nm id [1, q]) = .ro u.isz (innOf (Z2 (xs.map u.cells) q))) ∧ ∀ q lo hi, f (.nm id [3, q, lo, hi]) = .ro u.isz (((innOf (Z2 (xs.map u.cells) q)).take hi).drop lo)
theorem Lends.none (f : AV → AV) (H : List TObj) : Lends f [] H := ⟨fun id e u xs h => by simp [nth] at h, fun id e cs sz h => by simp [nth] at h, fun id t es h => by simp [nth] at h, fun id e ei u xs h => by simp [nth] at h⟩
theorem nth_mapsOf : ∀ {h : List TObj} {id : Nat} {o : TObj}, nth (mapsOf h) id = some o → o = .dead ∨ (nth h id = some o ∧ ∃ t es, o = .mapo t es)
 | [], _, _, h => by simp [mapsOf, nth] at h
 | x :: r, 0, o, h => by
  simp only [mapsOf, nth] at h
  split at h
  ·injection h with h; subst h; exact .inr ⟨rfl, _, _, rfl⟩
  ·injection h with h; exact .inl h.symm
 | x :: r, id + 1, o, h => by
  simp only [mapsOf, nth] at h ⊢
  exact nth_mapsOf h
theorem Lends.maps {f : AV → AV} {h H : List TObj} (hL : Lends f h H) : Lends (lendM (H.map (TObj.toObj H))) (mapsOf h) H := by
 refine ⟨fun id e u xs hq => ?_, fun id e cs sz hq => ?_, fun id t es hq => ?_, fun id e ei u xs hq => ?_⟩
 ·rcases nth_mapsOf hq with h1 | ⟨_, _, _, h1⟩ <;> cases h1
 ·rcases nth_mapsOf hq with h1 | ⟨_, _, _, h1⟩ <;> cases h1
 rotate_left
 ·rcases nth_mapsOf hq with h1 | ⟨_, _, _, h1⟩ <;> cases h1
 ·rcases nth_mapsOf hq with h1 | ⟨h2, _, _, h1⟩
  ·cases h1
  ·cases h1
   have h3 := (hL.map id t es h2).1
   refine ⟨h3, ?_⟩
   simp only [lendM]
   rw [List.getElem?_map, ← Z3, h3]
   rfl
mutual
theorem Z6y {f : AV → AV} : ∀ {x : AV}, x.flat = true → x.sub f = x
 | .fn g cs, h => by simp only [AV.flat] at h; simp only [AV.sub, Zc0 h]
 | .any, _ | .v _, _ | .ro _ _, _ | .rp _, _ | .mp _, _ | .mq _, _ => rfl
 | .own _ _ _ _, h | .ptr _ _ _ _, h | .agg _, h | .tup _, h | .nm _ _, h => by simp [AV.flat] at h
theorem Zc0 {f : AV → AV} : ∀ {l : List AV}, AV.flatL l = true → AV.subL f l = l
 | [], _ => rfl
 | x :: r, h => by simp only [AV.flatL, Bool.and_eq_true] at h; simp only [AV.subL, Z6y h.1.1, Zc0 h.2]
end
theorem leL_append : ∀ {a b c d : List AV}, AV.leL a b → AV.leL c d → AV.leL (a ++ c) (b ++ d)
 | [], [], c, d, _, h => h
 | x :: a, y :: b, c, d, h, h' => ⟨h.1, leL_append h.2 h'⟩
theorem Z7i {a b : List AV} (h : a = b) : AV.leL a b := h ▸ leL_refl a
theorem AV.le_one {x y : AV} (h : AV.le x y) (hy : y.one = true) : x.one = true := by
 cases h with
 | refl => exact hy
 | any => simp [AV.one] at hy
 | nilro => rfl
 | nilmp => rfl
 | rpTake => rfl
 | rpLe => rfl
 | fn => rfl
 | agg => simp [AV.one] at hy
 | tup => simp [AV.one] at hy
theorem flatL_each : ∀ {l : List AV}, (∀ (j : Nat) (y : AV), l[j]? = some y → y.flat = true ∧ y.one = true) → AV.flatL l = true := fun h => flatL_of fun y hy => by
 obtain ⟨j, hj⟩ := List.getElem?_of_mem hy
 exact h j y hj
theorem flatL_one : ∀ {l : List AV} {j : Nat} {x : AV}, AV.flatL l = true → l[j]? = some x → x.one = true
 | y :: r, 0, x, h, hx => by simp at hx; subst hx; simp only [AV.flatL, Bool.and_eq_true] at h; exact h.1.2
 | y :: r, j + 1, x, h, hx => by simp only [AV.flatL, Bool.and_eq_true] at h; exact flatL_one h.2 (by simpa using hx)
theorem AV.le_flat {x y : AV} (h : AV.le x y) (hy : y.flat = true) (hn : y ≠ .any) : x.flat = true := by
 induction h with
 | refl => exact hy
 | any => exact absurd rfl hn
 | nilro => rfl
 | nilmp => rfl
 | rpTake => rfl
 | rpLe => rfl
 | fn f cs ds hl hle ih =>
  simp only [AV.flat] at hy ⊢
  refine flatL_each fun j x hx => ?_
  have hj : j < ds.length := by rw [← hl]; exact (List.getElem?_eq_some_iff.1 hx).1
  have hd := List.getElem?_eq_getElem hj
  have h1 := flatL_one hy hd
  exact ⟨ih j x _ hx hd (AV.flatL_get hy hd) (fun e => by rw [e] at h1; simp [AV.one] at h1), AV.le_one (hle j x _ hx hd) h1⟩
 | agg => simp [AV.flat] at hy
 | tup => simp [AV.flat] at hy
theorem leL_flat : ∀ {l m : List AV}, AV.leL l m → (∀ y ∈ m, y.flat = true ∧ y.one = true) → l.all AV.flat = true
 | [], [], _, _ => rfl
 | x :: l, y :: m, h, hm => by
  have hy := hm y (List.mem_cons_self ..)
  rw [List.all_cons, AV.le_flat h.1 hy.1 (fun e => by subst e; simp [AV.one] at hy), leL_flat h.2 (fun z hz => hm z (List.mem_cons_of_mem _ hz))]
  rfl
end Go.Proofs.YtnehieeplbgaiacDoor.Eng
set_option linter.unusedVariables false
set_option linter.unusedSimpArgs false
namespace Go.Proofs.YtnehieeplbgaiacDoor.Eng
open Go
theorem Zjg {t u : Ty} {xs : List u.den} {k : List Nat} {y : List t.den} (h : linAs t u xs k = some y) {f : AV → AV} {id : Nat} (l0 : f (.nm id [0]) = .ro u.size (xs.map u.cells)) (l1 : ∀ q, f (.nm id [1, q]) = .ro u.isz (innOf (Z2 (xs.map u.cells) q)))
  (l3 : ∀ q lo hi, f (.nm id [3, q, lo, hi]) = .ro u.isz (((innOf (Z2 (xs.map u.cells) q)).take hi).drop lo)) : AV.leL [f (.nm id k)] [.ro t.size (y.map t.cells)] := by
 have cast : ∀ {v : Ty} {ll : List v.den}, Zd (.slice t) (.slice v) ll = some y → AV.leL [AV.ro v.size (ll.map v.cells)] [.ro t.size (y.map t.cells)] := fun {v ll} h => by
  obtain ⟨e1, h2⟩ := Za h
  injection e1 with e1
  subst e1
  have h3 : ll = y := h2
  rw [h3]; exact leL_refl _
 have inn : ∀ {n : Nat} {g : {v : Ty} → List v.den → List v.den}, (match innT u (List.getD xs n u.d) with | some ⟨v, l⟩ => Zd (.slice t) (.slice v) (g l) | none => none) = some y → ∃ (v : Ty) (l : List v.den), u.isz = v.size ∧ innOf (Z2 (xs.map u.cells) n) = l.map v.cells ∧ Zd (.slice t) (.slice v) (g l) = some y := fun {n g} h => by
  cases hi : innT u (List.getD xs n u.d) with
  | none => rw [hi] at h; cases h
  | some q =>
   obtain ⟨v, l⟩ := q
   rw [hi] at h
   obtain ⟨i1, i2⟩ := Z5h hi
   exact ⟨v, l, i1, i2, h⟩
 match k, h with
 | [0], h => rw [l0]; exact cast h
 | [1, n], h =>
  obtain ⟨v, l, i1, i2, h3⟩ := inn (g := fun l => l) h
  rw [l1, i1, i2]; exact cast h3
 | [3, n, lo, hi], h =>
  obtain ⟨v, l, i1, i2, h3⟩ := inn (g := fun l => List.drop lo (List.take hi l)) h
  rw [l3, i1, i2, ← List.map_take, ← List.map_drop]; exact cast h3
section
variable {f : AV → AV} {h H : List TObj}
theorem Z5a {f : AV → AV} : ∀ {l : List AV}, (∀ y ∈ l, y.flat = true ∧ y.one = true) → l.map (AV.sub f) = l
 | [], _ => rfl
 | x :: r, hl => by rw [List.map_cons, Z6y (hl x (List.mem_cons_self ..)).1, Z5a fun y hy => hl y (List.mem_cons_of_mem _ hy)]
theorem Zr {t u : Ty} {x : u.den} {y : t.den} (hc : Zd t u x = some y) (ht : t.isAgg = false) : AV.leL ([(SV.val u x).toAV H].map (AV.sub f)) (t.cells y) := by
 obtain ⟨rfl, rfl⟩ := Za hc
 show AV.leL ([u.av x].map (AV.sub f)) (u.cells x)
 rw [← Ty.cells_leaf ht, Z5a (u.cells_flat x)]
 exact leL_refl _
theorem asm_ok : ∀ (t : Ty) {h : List TObj} {f : AV → AV} (hL : Lends f h H) (cs : List SV) (y : t.den), asm h t cs = some y → AV.leL ((SV.toAVL H cs).map (AV.sub f)) (t.cells y) := by
 intro t
 induction t with
 | pair a b iha ihb =>
  intro h f hL cs y hy
  simp only [asm] at hy
  split at hy
  ·rename_i p q hp hq
   cases hy
   have h1 := iha hL _ _ hp
   have h2 := ihb hL _ _ hq
   have e : cs = cs.take a.size ++ cs.drop a.size := (List.take_append_drop ..).symm
   rw [e]
   simp only [SV.toAVL_eq, List.map_append] at h1 h2 ⊢
   exact leL_append h1 h2
  ·cases hy
 | one t ih => exact fun hL cs y hy => ih hL cs y hy
 | ptr t ih =>
  intro h f hL cs y hy
  simp only [asm] at hy
  split at hy
  ·exact Zr hy rfl
  ·rename_i u z
   obtain ⟨e, rfl⟩ := Za hy
   injection e with e
   subst e
   exact leL_refl _
  ·cases hy; exact leL_refl _
  ·rename_i pid sz
   split at hy
   ·rename_i e cs' hq
    split at hy
    ·rename_i z hz
     cases hy
     have h1 := ih hL.maps cs' z hz
     have h2 := hL.box pid e cs' sz hq (leL_flat h1 (t.cells_flat z))
     show AV.leL [f (.ptr pid 0 sz 0)] [.rp (t.cells z)]
     rw [h2]
     exact ⟨AV.leRp h1, trivial⟩
    ·cases hy
   ·cases hy
  ·cases hy
 | slice t _ =>
  intro h f hL cs y hy
  simp only [asm] at hy
  have row : ∀ id xs, Zf1 h id t = some xs → ∃ e, nth h id = some (.row e t xs) := by
   intro id xs hr
   unfold Zf1 at hr
   cases hq : nth h id with
   | none => rw [hq] at hr; exact absurd hr (by simp)
   | some o =>
    rw [hq] at hr
    cases o with
    | row e u xs' =>
     obtain ⟨e', h2⟩ := Za hr
     injection e' with e'
     subst e'
     exact ⟨e, by rw [← h2]⟩
    | box e cs => exact absurd hr (by simp)
    | dead => exact absurd hr (by simp)
    | mapo _ _ => exact absurd hr (by simp)
    | iter _ _ => exact absurd hr (by simp)
    | lin _ _ _ _ _ _ => exact absurd hr (by simp)
  split at hy
  ·exact Zr hy rfl
  ·cases hy; exact ⟨.nilro _ _ _, trivial⟩
  ·rename_i id sz
   split at hy
   ·rename_i hd
    obtain rfl := of_decide_eq_true hd
    obtain ⟨e, hq⟩ := row id y hy
    obtain ⟨h1, h2⟩ := hL.row id e t y hq
    show AV.leL [f (.own id t.size 0 (rowLen H id))] [.ro t.size (List.map t.cells y)]
    rw [h2, Z4 h1, List.drop_zero, List.take_of_length_le (Nat.le_of_eq (Z3u (u := t) y))]
    exact leL_refl _
   ·cases hy
  ·rename_i id sz off len
   split at hy
   ·rename_i hd
    obtain rfl := of_decide_eq_true hd
    split at hy
    ·rename_i xs hr
     cases hy
     obtain ⟨e, hq⟩ := row id xs hr
     obtain ⟨h1, h2⟩ := hL.row id e t xs hq
     show AV.leL [f (.own id t.size off len)] [.ro t.size (List.map t.cells (List.take len (List.drop off xs)))]
     rw [h2, List.map_take, List.map_drop]
     exact leL_refl _
    ·cases hy
   ·cases hy
  ·rename_i id k
   cases hq : nth h id with
   | none => rw [hq] at hy; cases hy
   | some o =>
    rw [hq] at hy
    cases o with
    | lin e ei u part hole xs =>
     cases part with
     | some c => cases hy
     | none =>
      cases hole with
      | some c => cases hy
      | none =>
       obtain ⟨l0, l1, l3⟩ := hL.lin id e ei u xs hq
       exact Zjg hy l0 l1 l3
    | _ => cases hy
  ·cases hy
 | nilS =>
  intro h f hL cs y hy
  simp only [asm] at hy
  split at hy
  ·exact Zr hy rfl
  ·cases hy; exact leL_refl _
  ·cases hy
 | nilI =>
  intro h f hL cs y hy
  simp only [asm] at hy
  split at hy
  ·exact Zr hy rfl
  ·cases hy; exact leL_refl _
  ·cases hy
 | adr =>
  intro h f hL cs y hy
  simp only [asm] at hy
  split at hy
  ·exact Zr hy rfl
  ·cases hy
 | fnc g =>
  intro h f hL cs y hy
  simp only [asm] at hy
  split at hy
  ·exact Zr hy rfl
  ·split at hy
   ·rename_i hd
    obtain rfl := of_decide_eq_true hd
    cases hy; exact leL_refl _
   ·cases hy
  ·cases hy
 | clo g c ih =>
  intro h f hL cs y hy
  simp only [asm] at hy
  split at hy
  ·exact Zr hy rfl
  ·rename_i caps
   split at hy
   ·rename_i hd
    obtain rfl := of_decide_eq_true hd
    have h1 := ih hL caps y hy
    show AV.leL [AV.fn _ (AV.subL f (SV.toAVL H caps))] [AV.fn _ (c.cells y)]
    rw [AV.subL_eq]
    exact ⟨AV.leFn h1, trivial⟩
   ·cases hy
  ·cases hy
 | ref t ih =>
  intro h f hL cs y hy
  simp only [asm] at hy
  have hbox : ∀ pid sz, (match nth h pid with | some (.box _ cs) => asm (mapsOf h) t cs | _ => none) = some y → AV.leL [f (.ptr pid 0 sz 0)] [.rp (t.cells y)] := by
   intro pid sz hb
   cases hq : nth h pid with
   | none => rw [hq] at hb; exact absurd hb (by simp)
   | some o =>
    rw [hq] at hb
    cases o with
    | box e cs' =>
     have h1 := ih hL.maps cs' y hb
     have h2 := hL.box pid e cs' sz hq (leL_flat h1 (t.cells_flat y))
     rw [h2]
     exact ⟨AV.leRp h1, trivial⟩
    | row e u xs => exact absurd hb (by simp)
    | dead => exact absurd hb (by simp)
    | mapo _ _ => exact absurd hb (by simp)
    | iter _ _ => exact absurd hb (by simp)
    | lin _ _ _ _ _ _ => exact absurd hb (by simp)
  split at hy
  ·exact Zr hy rfl
  ·rename_i u z
   obtain ⟨e, rfl⟩ := Za hy
   injection e with e
   subst e
   exact leL_refl _
  ·exact hbox _ _ hy
  ·cases hy
 | mq t _ =>
  intro h f hL cs y hy
  simp only [asm] at hy
  split at hy
  ·exact Zr hy rfl
  ·cases hy
 | mp t _ =>
  intro h f hL cs y hy
  simp only [asm] at hy
  split at hy
  ·exact Zr hy rfl
  ·cases hy; exact ⟨.nilmp, trivial⟩
  ·rename_i id
   split at hy
   ·rename_i u es hq
    obtain ⟨e, h2⟩ := Za hy
    injection e with e
    subst e
    obtain rfl : es = y := h2
    show AV.leL [f (.nm id [])] [.mp (mapV u es)]
    rw [(hL.map id u es hq).2]
    exact leL_refl _
   ·cases hy
  ·cases hy
 | int k =>
  intro h f hL cs y hy
  simp only [asm] at hy
  split at hy
  ·exact Zr hy rfl
  ·split at hy
   ·rename_i hd
    obtain rfl := of_decide_eq_true hd
    cases hy; exact leL_refl _
   ·cases hy
  ·cases hy
 | byte =>
  intro h f hL cs y hy
  simp only [asm] at hy
  split at hy
  ·exact Zr hy rfl
  ·rename_i n
   split at hy
   ·rename_i hd
    have hd := of_decide_eq_true hd
    cases hy
    show AV.leL [.v (.int .u8 n)] [.v (.int .u8 (((UInt8.ofInt n).toNat : Nat) : Int))]
    have e : (((UInt8.ofInt n).toNat : Nat) : Int) = n := by
     rw [u8_of]
     simp only [IntKind.wrap, IntKind.bits, IntKind.signed, Bool.false_and, Bool.false_eq_true, if_false]
     have e : (2 : Int) ^ 8 = 256 := by decide
     rw [e]; omega
    rw [e]; exact leL_refl _
   ·cases hy
  ·cases hy
 | bool =>
  intro h f hL cs y hy
  simp only [asm] at hy
  split at hy
  ·exact Zr hy rfl
  ·cases hy; exact leL_refl _
  ·cases hy
 | str =>
  intro h f hL cs y hy
  simp only [asm] at hy
  split at hy
  ·exact Zr hy rfl
  ·cases hy; exact leL_refl _
  ·cases hy
theorem Z6n (hL : Lends f h H) {t : Ty} {x : SV} {y : t.den} (hx : asT h t x = some y) : AV.le ((x.toAV H).sub f) (t.av y) := by
 unfold asT at hx
 have leaf : ∀ x : SV, t.isAgg = false → asm h t [x] = some y → AV.le ((x.toAV H).sub f) (t.av y) := by
  intro x ht hx
  have h1 := asm_ok t hL [x] y hx
  rw [Ty.cells_leaf ht] at h1
  exact h1.1
 split at hx
 ·rename_i u z
  obtain ⟨rfl, rfl⟩ := Za hx
  show AV.le ((u.av z).sub f) (u.av z)
  cases hu : u.isAgg with
  | true => rw [Ty.av_agg hu, AV.sub, AV.subL_eq, Z5a (u.cells_flat z)]; exact .refl _
  | false =>
   have := u.cells_flat z (u.av z) (by rw [Ty.cells_leaf hu]; simp)
   rw [Z6y this.1]; exact .refl _
 ·rename_i cs
  split at hx
  ·rename_i ht
   rw [Ty.av_agg ht]
   show AV.le (.agg (AV.subL f (SV.toAVL H cs))) _
   rw [AV.subL_eq]
   exact AV.leAgg (asm_ok t hL _ _ hx)
  ·cases hx
 ·rename_i vs
  split at hx
  ·rename_i ht
   rw [Bool.and_eq_true] at ht
   rw [Ty.av_agg ht.1]
   have h1 := asm_ok t hL _ _ hx
   have e : SV.toAV H (.cst (.agg vs)) = .agg (SV.toAVL H (vs.toList.map .cst)) := by
    simp only [SV.toAV, Z3v, ht.2, if_true, SV.toAVL_eq, List.map_map]
    congr 1
    refine List.map_congr_left fun v hv => ?_
    have h2 := List.all_eq_true.1 ht.2 v hv
    show AV.v v = Z3v v
    cases v <;> first | rfl | (simp [Value.oneCell'] at h2)
   rw [e, AV.sub, AV.subL_eq]
   exact AV.leAgg h1
  ·cases hx
 ·split at hx
  ·cases hx
  ·rename_i ht
   exact leaf _ ht hx
theorem Zbr (s : TSt) : Lends (Z18 s.toSt.heap) s.heap s.heap := by
 refine ⟨fun id e u xs hq => ⟨hq, fun off len => ?_⟩, fun id e cs sz hq hf => ?_, fun id t es hq => ⟨hq, ?_⟩, fun id e ei u xs hq => ?_⟩
 ·simp only [Z18, TSt.heap_get, hq, Option.map_some, TObj.toObj, if_true]
 ·have hf' : ((SV.toAVL s.heap cs).map (AV.sub (lendM s.toSt.heap))).all AV.flat = true := hf
  simp only [Z18, TSt.heap_get, hq, Option.map_some, TObj.toObj, hf', List.drop_zero, and_self, if_true]
  rfl
 ·simp only [Z18, TSt.heap_get, hq, Option.map_some, TObj.toObj]
 ·simp only [Z18, TSt.heap_get, hq, Option.map_some, TObj.toObj]
  exact ⟨trivial, fun _ => trivial, fun _ _ _ => trivial⟩
end
end Go.Proofs.YtnehieeplbgaiacDoor.Eng
set_option linter.unusedVariables false
set_option linter.unusedSimpArgs false
namespace Go.Proofs.YtnehieeplbgaiacDoor.Eng
open Go Go.RowKit
def ObjLe : AObj → AObj → Prop
 | .box e cs, .box e' ds => e = e' ∧ AV.leL cs ds
 | .row e sz es, .row e' sz' es' => e = e' ∧ sz = sz' ∧ es.length = es'.length ∧ ∀ (i : Nat) (cs ds : List AV), es[i]? = some cs → es'[i]? = some ds → AV.leL cs ds
 | .dead, .dead => True
 | .mapo es, .mapo es' => es = es'
 | .iter l es, .iter l' es' => l = l' ∧ es = es'
 | .lin e ei sz isz part hole es, o' => .lin e ei sz isz part hole es = o'
 | _, _ => False
theorem ObjLe.refl : ∀ o : AObj, ObjLe o o
 | .box _ _ => ⟨rfl, leL_refl _⟩
 | .row _ _ _ => ⟨rfl, rfl, rfl, fun i cs ds h1 h2 => by rw [h1] at h2; cases h2; exact leL_refl _⟩
 | .dead => trivial
 | .mapo _ => rfl
 | .iter _ _ => ⟨rfl, rfl⟩
 | .lin _ _ _ _ _ _ _ => rfl
section
variable {P : Program} {T : Tab} {X : Ctx} {σ σ' : Nat → Option Blk} {F F' : Nat → Prop} {s s' : St} {a : Act} {w w' : World} {o : Oper} {c : Prop} {x : AV} {v : Value} {K : St → Prop}
theorem RepO.weak {id : Nat} {ob ob' : AObj} (h : RepO σ F w id ob) (hl : ObjLe ob ob') : RepO σ F w id ob' := by
 cases ob with
 | box e cs =>
  cases ob' with
  | box e' ds =>
   obtain ⟨rfl, hl⟩ := hl
   obtain ⟨g, vs, h1, h2, h3, h4, h5⟩ := h
   refine ⟨g, vs, h1, h2, (AV.leL_len hl).symm.trans h3, h4, fun j x u hx hu => ?_⟩
   have hj : j < cs.length := by rw [AV.leL_len hl]; exact (List.getElem?_eq_some_iff.1 hx).1
   exact RepV.le (AV.leL_get hl j _ x (List.getElem?_eq_getElem hj) hx) (h5 j _ u (List.getElem?_eq_getElem hj) hu)
  | _ => exact hl.elim
 | row e sz es =>
  cases ob' with
  | row e' sz' es' =>
   obtain ⟨rfl, rfl, hlen, hl⟩ := hl
   rcases h with ⟨h1, h2⟩ | ⟨g, b, c, cur, h1, h2, h3, h4, h5, h6, h7⟩
   ·refine .inl ⟨h1, ?_⟩
    subst h2
    exact List.eq_nil_of_length_eq_zero hlen.symm
   ·have hget : ∀ (i : Nat) (ds : List AV), es'[i]? = some ds → ∃ cs, es[i]? = some cs ∧ AV.leL cs ds := fun i ds hi => by
     have hj : i < es.length := by rw [hlen]; exact (List.getElem?_eq_some_iff.1 hi).1
     exact ⟨_, List.getElem?_eq_getElem hj, hl i _ ds (List.getElem?_eq_getElem hj) hi⟩
    refine .inr ⟨g, b, c, cur, by rw [← hlen]; exact h1, by rw [← hlen]; exact h2, h3, h4, h5, fun ds hds => ?_, fun i ds j x hi hj => ?_⟩
    ·obtain ⟨i, hi⟩ := List.getElem?_of_mem hds
     obtain ⟨cs, h8, h9⟩ := hget i ds hi
     rw [← AV.leL_len h9]
     exact h6 cs (List.mem_of_getElem? h8)
    ·obtain ⟨cs, h8, h9⟩ := hget i ds hi
     have hjl : j < cs.length := by rw [AV.leL_len h9]; exact (List.getElem?_eq_some_iff.1 hj).1
     obtain ⟨u, h10, h11, h12⟩ := h7 i cs j _ h8 (List.getElem?_eq_getElem hjl)
     exact ⟨u, h10, h11, RepF.leF (AV.leL_get h9 j _ x (List.getElem?_eq_getElem hjl) hj) h12⟩
  | _ => exact hl.elim
 | dead =>
  cases ob' with
  | dead => exact h
  | _ => exact hl.elim
 | mapo es =>
  cases ob' with
  | mapo es' =>
   have e : es = es' := hl
   exact e ▸ h
  | _ => exact hl.elim
 | iter l es =>
  cases ob' with
  | iter l' es' =>
   obtain ⟨rfl, rfl⟩ := hl
   exact h
  | _ => exact hl.elim
 | lin e ei sz isz part hole es =>
  have e : AObj.lin e ei sz isz part hole es = ob' := hl
  exact e ▸ h
def StLe (s s' : St) : Prop := (∀ i, AV.le (envGet s.env i) (envGet s'.env i)) ∧ s.heap.length = s'.heap.length ∧ ∀ (i : Nat) (o o' : AObj), s.heap[i]? = some o → s'.heap[i]? = some o' → ObjLe o o'
theorem Rep.weak (hl : StLe s s') (h : Rep X s a w) : Rep X s' a w := by
 obtain ⟨σ, F, hr⟩ := h
 refine ⟨σ, F, hr.defers, hr.size, fun i => RepV.le (hl.1 i) (hr.env i), ⟨fun id o' ho => ?_, fun id hid => hr.heap.out id (by rw [hl.2.1]; exact hid), hr.heap.inj, hr.heap.lt, hr.heap.flt, hr.heap.lay⟩, hr.keep, hr.own, hr.fnew, hr.stab, by rw [← hl.2.1]; exact hr.hm⟩
 have hj : id < s.heap.length := by rw [hl.2.1]; exact (List.getElem?_eq_some_iff.1 ho).1
 exact (hr.heap.obj id _ (List.getElem?_eq_getElem hj)).weak (hl.2.2 id _ o' (List.getElem?_eq_getElem hj) ho)
def Imp (X : Ctx) (s s' : St) : Prop := ∀ a w, Rep X s a w → Rep X s' a w
theorem Imp.refl (X : Ctx) (s : St) : Imp X s s := fun _ _ h => h
theorem Imp.trans {s1 s2 s3 : St} (h : Imp X s1 s2) (k : Imp X s2 s3) : Imp X s1 s3 := fun a w hr => k a w (h a w hr)
mutual
def SV.idsLt (n : Nat) : SV → Prop
 | .own id _ => id < n
 | .cut id _ _ _ => id < n
 | .ptr id _ _ _ => id < n
 | .nm id _ => id < n
 | .agg cs => SV.idsLtL n cs
 | .tup cs => SV.idsLtL n cs
 | .fn _ cs => SV.idsLtL n cs
 | .any | .cst _ | .val _ _ | .rp _ _ => True
def SV.idsLtL (n : Nat) : List SV → Prop
 | [] => True
 | x :: r => x.idsLt n ∧ SV.idsLtL n r
end
theorem Z84 {n : Nat} : ∀ {l : List SV}, (∀ (j : Nat) x, l[j]? = some x → x.idsLt n) → SV.idsLtL n l
 | [], _ => trivial
 | x :: r, h => ⟨h 0 x rfl, Z84 fun j y hy => h (j + 1) y hy⟩
mutual
theorem Zel {h : List TObj} {n : Nat} (hout : ∀ id, n ≤ id → σ id = none) : ∀ (x : SV) (v : Value), RepV σ F w (x.toAV h) v → x.idsLt n
 | .own id sz, v, hv => by
  have : ∃ k, σ id = some k := by
   simp only [SV.toAV] at hv
   generalize rowLen h id = q at hv
   cases hv with
   | f _ _ h => cases h
   | own0 _ _ h => exact ⟨_, h⟩
   | own _ _ _ _ g b c n h hn hc => exact ⟨_, h⟩
   | ownz _ _ _ g b c n a h hn hc => exact ⟨_, h⟩
  obtain ⟨k, hk⟩ := this
  refine Nat.lt_of_not_le fun hle => ?_
  rw [hout id hle] at hk; cases hk
 | .cut id sz off len, v, hv => by
  have : ∃ k, σ id = some k := by
   simp only [SV.toAV] at hv
   cases hv with
   | f _ _ h => cases h
   | own0 _ _ h => exact ⟨_, h⟩
   | own _ _ _ _ g b c n h hn hc => exact ⟨_, h⟩
   | ownz _ _ _ g b c n a h hn hc => exact ⟨_, h⟩
  obtain ⟨k, hk⟩ := this
  refine Nat.lt_of_not_le fun hle => ?_
  rw [hout id hle] at hk; cases hk
 | .ptr id i sz j, v, hv => by
  obtain ⟨g, b, c, n, hk, _⟩ := RepV.ptrv hv
  refine Nat.lt_of_not_le fun hle => ?_
  rw [hout id hle] at hk; cases hk
 | .nm id k, v, hv => by
  obtain ⟨gs, V, hk, _⟩ := RepV.nmv hv
  refine Nat.lt_of_not_le fun hle => ?_
  rw [hout id hle] at hk; cases hk
 | .agg cs, v, hv => by
  obtain ⟨vs, rfl, hl, _, h2⟩ := RepV.aggv hv
  exact Z46 hout cs vs (by rw [Z19] at hl; exact hl) h2
 | .tup cs, v, hv => by
  obtain ⟨vs, rfl, hl, h2⟩ := RepV.tupv hv
  exact Z46 hout cs vs (by rw [Z19] at hl; exact hl) h2
 | .fn f cs, v, hv => by
  obtain ⟨vs, rfl, hl, h2⟩ := RepV.fnv hv
  exact Z46 hout cs vs (by rw [Z19] at hl; exact hl) h2
 | .any, _, _ => trivial
 | .cst _, _, _ => trivial
 | .val _ _, _, _ => trivial
 | .rp _ _, _, _ => trivial
theorem Z46 {h : List TObj} {n : Nat} (hout : ∀ id, n ≤ id → σ id = none) : ∀ (cs : List SV) (vs : List Value), cs.length = vs.length → (∀ (j : Nat) (x : AV) (u : Value), (SV.toAVL h cs)[j]? = some x → vs[j]? = some u → RepV σ F w x u) → SV.idsLtL n cs
 | [], _, _, _ => trivial
 | x :: r, [], hl, _ => by simp at hl
 | x :: r, v :: vs, hl, hv => ⟨Zel hout x v (hv 0 _ v rfl rfl), Z46 hout r vs (by simpa using hl) (fun j y u hy hu => hv (j + 1) y u hy hu)⟩
end
theorem nth_app {α : Type} : ∀ (l m : List α) (i : Nat), i < l.length → nth (l ++ m) i = nth l i := fun l m i hi => by rw [Z3, Z3, List.getElem?_append_left hi]
theorem Zf0 {h m : List TObj} {id : Nat} (hi : id < h.length) : rowLen (h ++ m) id = rowLen h id := by unfold rowLen; rw [nth_app _ _ _ hi]
mutual
theorem Z73 {h m : List TObj} : ∀ (x : SV), x.idsLt h.length → x.toAV (h ++ m) = x.toAV h
 | .own id sz, hb => by simp only [SV.toAV]; rw [Zf0 hb]
 | .cut _ _ _ _, _ => rfl
 | .ptr _ _ _ _, _ => rfl
 | .nm _ _, _ => rfl
 | .agg cs, hb => by simp only [SV.toAV]; rw [Z29 cs hb]
 | .tup cs, hb => by simp only [SV.toAV]; rw [Z29 cs hb]
 | .fn _ cs, hb => by simp only [SV.toAV]; rw [Z29 cs hb]
 | .any, _ | .cst _, _ | .val _ _, _ | .rp _ _, _ => rfl
theorem Z29 {h m : List TObj} : ∀ (l : List SV), SV.idsLtL h.length l → SV.toAVL (h ++ m) l = SV.toAVL h l
 | [], _ => rfl
 | x :: r, hb => by simp only [SV.toAVL]; rw [Z73 x hb.1, Z29 r hb.2]
end
def TSt.wf (s : TSt) : Prop := (∀ i, (tget s.env i).idsLt s.heap.length) ∧ ∀ (i : Nat) e cs, s.heap[i]? = some (.box e cs) → SV.idsLtL s.heap.length cs
theorem Zap {s : TSt} (hr : RepAt X σ F s.toSt a w) : s.wf := by
 have hlen : s.toSt.heap.length = s.heap.length := by simp [TSt.toSt]
 have hout : ∀ id, s.heap.length ≤ id → σ id = none := fun id hid => hr.heap.out id (by rw [hlen]; exact hid)
 refine ⟨fun i => ?_, fun i e cs hi => ?_⟩
 ·have := hr.env i
  simp only [TSt.toSt, Zf] at this
  exact Zel hout _ _ this
 ·have h1 : s.toSt.heap[i]? = some (.box e (SV.toAVL s.heap cs)) := by simp [TSt.toSt, hi, TObj.toObj]
  obtain ⟨g, vs, _, _, h3, _, h5⟩ := hr.heap.obj i _ h1
  exact Z46 hout cs vs (by rw [Z19] at h3; exact h3) h5
theorem Z99 {s : TSt} (hw : s.wf) (ob : TObj) (hob : ∀ e cs, ob = .box e cs → SV.idsLtL s.heap.length cs) : (TSt.toSt ⟨s.env, s.heap ++ [ob]⟩).heap = s.toSt.heap ++ [ob.toObj s.heap] ∧ ∀ i, envGet (TSt.toSt ⟨s.env, s.heap ++ [ob]⟩).env i = envGet s.toSt.env i := by
 have obj : ∀ o : TObj, (∀ e cs, o = .box e cs → SV.idsLtL s.heap.length cs) → o.toObj (s.heap ++ [ob]) = o.toObj s.heap := by
  intro o ho
  cases o with
  | box e cs => simp only [TObj.toObj]; rw [Z29 cs (ho e cs rfl)]
  | _ => rfl
 refine ⟨?_, fun i => ?_⟩
 ·simp only [TSt.toSt, List.map_append, List.map_cons, List.map_nil]
  congr 1
  ·apply List.ext_getElem?
   intro i
   rw [List.getElem?_map, List.getElem?_map]
   cases hi : s.heap[i]? with
   | none => rfl
   | some o => simp only [Option.map_some]; rw [obj o (fun e cs h => hw.2 i e cs (by rw [hi, h]))]
  ·rw [obj ob hob]
 ·simp only [TSt.toSt, Zf]
  exact Z73 _ (hw.1 i)
theorem Rep.env {s s' : St} (h1 : s.heap = s'.heap) (h2 : ∀ i, envGet s'.env i = envGet s.env i) (h : Rep X s a w) : Rep X s' a w :=
 h.weak ⟨fun i => by rw [h2]; exact .refl _, by rw [h1], fun i o o' ho ho' => by rw [← h1, ho] at ho'; cases ho'; exact .refl _⟩
end
end Go.Proofs.YtnehieeplbgaiacDoor.Eng
set_option linter.unusedVariables false
set_option linter.unusedSimpArgs false
namespace Go.Proofs.YtnehieeplbgaiacDoor.Eng
open Go Go.RowKit
def denL : List Ty → Type
 | [] => Unit
 | [t] => t.den
 | t :: u :: r => t.den × denL (u :: r)
def svL : (ts : List Ty) → denL ts → List SV
 | [], _ => []
 | [t], x => [.val t x]
 | t :: u :: r, x => .val t x.1 :: svL (u :: r) x.2
def Zcv (ts : List Ty) (y : denL ts) : SV := match svL ts y with
 | [x] => x
 | l => .tup l
def avL : (ts : List Ty) → denL ts → List AV
 | [], _ => []
 | [t], x => [t.av x]
 | t :: u :: r, x => t.av x.1 :: avL (u :: r) x.2
def consD (t : Ty) : (r : List Ty) → t.den → Option (denL r) → Option (denL (t :: r))
 | [], a, b => (match b with | some _ => some a | none => none)
 | u :: r, a, b => (match b with | some b => some ((a, b) : t.den × denL (u :: r)) | none => none)
def asTL (h : List TObj) : (ts : List Ty) → List SV → Option (denL ts)
 | [], l => (match l with | [] => some () | _ :: _ => none)
 | t :: r, l => (match l with
  | [] => none
  | x :: l => (match asT h t x with
   | some a => consD t r a (asTL h r l)
   | none => none))
def Ty.plain : Ty → Bool
 | .int _ | .byte | .bool | .str => true
 | .slice _ | .ptr _ | .nilS | .nilI | .adr | .mp _ | .mq _ | .fnc _ | .clo _ _ | .ref _ => false
 | .one t => t.plain
 | .pair a b => a.plain && b.plain
mutual
def SV.sub (g : SV → SV) : SV → SV
 | .agg cs => .agg (SV.subL g cs)
 | .tup cs => .tup (SV.subL g cs)
 | .fn f cs => .fn f (SV.subL g cs)
 | .own id sz => g (.own id sz)
 | .cut id sz off len => g (.cut id sz off len)
 | .ptr id i sz j => g (.ptr id i sz j)
 | .nm id k => g (.nm id k)
 | .any => .any
 | .cst x => .cst x
 | .val t x => .val t x
 | .rp t x => .rp t x
def SV.subL (g : SV → SV) : List SV → List SV
 | [] => []
 | x :: r => x.sub g :: SV.subL g r
end
theorem SV.subL_eq (g : SV → SV) : ∀ l, SV.subL g l = l.map (SV.sub g)
 | [] => rfl
 | x :: r => by rw [SV.subL, SV.subL_eq g r]; rfl
def Zk (id : Nat) : SV → SV
 | .own i sz => if i = id then .any else .own i sz
 | .cut i sz off len => if i = id then .any else .cut i sz off len
 | .ptr i k sz j => if i = id then .any else .ptr i k sz j
 | .nm i k => if i = id then .any else .nm i k
 | x => x
def frzS (id : Nat) (t : Ty) (xs : List t.den) : SV → SV
 | .own i sz => if i = id then (if sz = t.size then .val (.slice t) xs else .any) else .own i sz
 | .cut i sz off len => if i = id then (if sz = t.size then .val (.slice t) (List.take len (List.drop off xs)) else .any) else .cut i sz off len
 | .ptr i k sz j => if i = id then .any else .ptr i k sz j
 | .nm i k => if i = id then .any else .nm i k
 | x => x
def frzB (id : Nat) (t : Ty) (x : t.den) : SV → SV
 | .own i sz => if i = id then .any else .own i sz
 | .cut i sz off len => if i = id then .any else .cut i sz off len
 | .ptr i k sz j => if i = id then (if k = 0 ∧ j = 0 then .rp t x else .any) else .ptr i k sz j
 | .nm i k => if i = id then .any else .nm i k
 | x => x
def Zd9 (id : Nat) (t : Ty) (xs : List t.den) : SV → SV
 | .own i sz => if i = id then .any else .own i sz
 | .cut i sz off len => if i = id then .any else .cut i sz off len
 | .ptr i k sz j => if i = id then .any else .ptr i k sz j
 | .nm i k => if i = id then (match k with
  | [0] => .val (.slice t) xs
  | [1, n] => (match innT t (List.getD xs n t.d) with
   | some ⟨v, l⟩ => .val (.slice v) l
   | none => .any)
  | _ => .any) else .nm i k
 | x => x
def frzM (id : Nat) (t : Ty) (es : List (ByteArray × t.den)) : SV → SV
 | .own i sz => if i = id then .any else .own i sz
 | .cut i sz off len => if i = id then .any else .cut i sz off len
 | .ptr i k sz j => if i = id then .any else .ptr i k sz j
 | .nm i k => if i = id then (match k with | [] => .val (.mp t) es | _ => .any) else .nm i k
 | x => x
def TObj.sub (g : SV → SV) : TObj → TObj
 | .box e cs => .box e (SV.subL g cs)
 | o => o
def setH : List TObj → Nat → TObj → List TObj
 | [], _, _ => []
 | _ :: r, 0, o => o :: r
 | x :: r, k + 1, o => x :: setH r k o
theorem setH_eq : ∀ (l : List TObj) (k : Nat) (o : TObj), setH l k o = l.set k o
 | [], _, _ => rfl
 | _ :: _, 0, _ => rfl
 | x :: r, k + 1, o => by simp [setH, setH_eq r k o]
def TSt.subAll (s : TSt) (g : SV → SV) (id : Nat) (ob : TObj) : TSt := ⟨s.env.map fun p => (p.1, p.2.sub g), setH (s.heap.map (TObj.sub g)) id ob⟩
def freezeT (TY : Nat → Option Ty) (s : TSt) (id : Nat) : TSt := match nth s.heap id with
 | some (.row _ t xs) => s.subAll (frzS id t xs) id .dead
 | some (.lin _ _ t none none xs) => s.subAll (Zd9 id t xs) id .dead
 | some (.mapo t es) => s.subAll (frzM id t es) id .dead
 | some (.box e cs) => (match TY e with
  | some t => (match asm [] t cs with
   | some x => s.subAll (frzB id t x) id .dead
   | none => s)
  | none => s)
 | _ => s
def freezeAllT (TY : Nat → Option Ty) (s : TSt) : List Nat → TSt
 | [] => s
 | id :: r => freezeAllT TY (freezeT TY s id) r
mutual
def SV.ids0 : SV → List Nat
 | .own id _ => [id]
 | .cut id _ _ _ => [id]
 | .ptr id _ _ _ => [id]
 | .nm id _ => [id]
 | .agg cs => SV.ids0L cs
 | .fn _ cs => SV.ids0L cs
 | .any | .cst _ | .val _ _ | .rp _ _ | .tup _ => []
def SV.ids0L : List SV → List Nat
 | [] => []
 | x :: r => x.ids0 ++ SV.ids0L r
end
def Z9x (h : List TObj) : List Nat → List Nat
 | [] => []
 | id :: r => (match nth h id with
  | some (.box _ cs) => SV.ids0L cs ++ [id]
  | _ => [id]) ++ Z9x h r
def frzFor (TY : Nat → Option Ty) (s : TSt) (xs : List SV) : TSt := freezeAllT TY s (Z9x s.heap (SV.ids0L xs))
section
variable {P : Program} {T : Tab} {X : Ctx} {σ σ' : Nat → Option Blk} {F F' : Nat → Prop} {a : Act} {w w' : World} {s s' : TSt}
theorem Z90 (f : AV → AV) (v : Value) : (Z3v v).sub f = Z3v v := by
 unfold Z3v
 split
 ·split
  ·rename_i vs _
   rw [AV.sub, AV.subL_eq, List.map_map]
   congr 1
  ·rfl
 ·rename_i h
  cases v <;> rfl
theorem Z1h (f : AV → AV) (t : Ty) (x : t.den) : (t.av x).sub f = t.av x := by
 cases hu : t.isAgg with
 | true => rw [Ty.av_agg hu, AV.sub, AV.subL_eq, Z5a (t.cells_flat x)]
 | false => exact Z6y (t.cells_flat x (t.av x) (by rw [Ty.cells_leaf hu]; simp)).1
structure SubOK (f : AV → AV) (g : SV → SV) (h h' : List TObj) : Prop where
 own : ∀ id sz, AV.le (f (.own id sz 0 (rowLen h id))) ((g (.own id sz)).toAV h')
 cut : ∀ id sz off len, AV.le (f (.own id sz off len)) ((g (.cut id sz off len)).toAV h')
 ptr : ∀ id i sz j, AV.le (f (.ptr id i sz j)) ((g (.ptr id i sz j)).toAV h')
 nm : ∀ id k, AV.le (f (.nm id k)) ((g (.nm id k)).toAV h')
mutual
theorem Z8f {f : AV → AV} {g : SV → SV} {h h' : List TObj} (ok : SubOK f g h h') : ∀ x : SV, AV.le ((x.toAV h).sub f) ((x.sub g).toAV h')
 | .own id sz => ok.own id sz
 | .cut id sz off len => ok.cut id sz off len
 | .ptr id i sz j => ok.ptr id i sz j
 | .nm id k => ok.nm id k
 | .agg cs => by
  simp only [SV.toAV, SV.sub, AV.sub]
  rw [AV.subL_eq]
  exact AV.leAgg (Z3y ok cs)
 | .tup cs => by
  simp only [SV.toAV, SV.sub, AV.sub]
  rw [AV.subL_eq]
  exact AV.leTup (Z3y ok cs)
 | .fn f' cs => by
  simp only [SV.toAV, SV.sub, AV.sub]
  rw [AV.subL_eq]
  exact AV.leFn (Z3y ok cs)
 | .any => .refl _
 | .cst v => by simp only [SV.toAV, SV.sub]; rw [Z90]; exact .refl _
 | .val t x => by simp only [SV.toAV, SV.sub]; rw [Z1h]; exact .refl _
 | .rp t x => .refl _
theorem Z3y {f : AV → AV} {g : SV → SV} {h h' : List TObj} (ok : SubOK f g h h') : ∀ l : List SV, AV.leL ((SV.toAVL h l).map (AV.sub f)) (SV.toAVL h' (SV.subL g l))
 | [] => trivial
 | x :: r => ⟨Z8f ok x, Z3y ok r⟩
end
theorem Z1t (g : SV → SV) (hg : g .any = .any) : ∀ (l : List (Nat × SV)) (i : Nat), tget (l.map fun p => (p.1, g p.2)) i = g (tget l i)
 | [], i => hg.symm
 | (j, x) :: r, i => by
  simp only [List.map_cons, tget]
  split
  ·rfl
  ·exact Z1t g hg r i
theorem Z49 {f : AV → AV} {g : SV → SV} {id : Nat} {ob : TObj} {oa : AObj} (ok : SubOK f g s.heap (s.subAll g id ob).heap) (hob : ObjLe oa (ob.toObj (s.subAll g id ob).heap)) {a : Act} {w : World}
  (h : Rep X ⟨Zo f s.toSt.env, (s.toSt.heap.map (AObj.sub f)).set id oa⟩ a w) : Rep X (s.subAll g id ob).toSt a w := by
 refine h.weak ⟨fun i => ?_, ?_, fun i o o' ho ho' => ?_⟩
 ·simp only [Zn, TSt.toSt, Zf, TSt.subAll]
  rw [Z1t (SV.sub g) rfl]
  exact Z8f ok _
 ·simp [TSt.toSt, TSt.subAll, setH_eq]
 ·simp only [TSt.toSt, TSt.subAll, setH_eq, List.getElem?_map] at ho ho'
  by_cases hi : i = id
  ·subst hi
   by_cases hlt : i < s.heap.length
   ·rw [List.getElem?_set_self (by simpa using hlt)] at ho
    rw [List.getElem?_set_self (by simpa using hlt), Option.map_some] at ho'
    cases ho; cases ho'
    simpa only [TSt.subAll, setH_eq] using hob
   ·rw [List.getElem?_eq_none (by simp; omega)] at ho; cases ho
  ·rw [List.getElem?_set_ne (by omega), List.getElem?_map, List.getElem?_map] at ho
   rw [List.getElem?_set_ne (by omega), List.getElem?_map] at ho'
   cases hq : s.heap[i]? with
   | none => rw [hq] at ho; cases ho
   | some q =>
    rw [hq, Option.map_some, Option.map_some] at ho
    rw [hq, Option.map_some, Option.map_some] at ho'
    cases ho; cases ho'
    cases q with
    | box e cs => exact ⟨rfl, by simpa only [TSt.subAll, setH_eq] using Z3y ok cs⟩
    | row e t xs => exact ObjLe.refl _
    | mapo t es => exact ObjLe.refl _
    | iter t es => exact ObjLe.refl _
    | lin e ei t part hole xs => exact ObjLe.refl _
    | dead => trivial
theorem Z2a {h : List TObj} {g : SV → SV} {id i : Nat} {ob : TObj} (hi : i ≠ id) : rowLen (setH (h.map (TObj.sub g)) id ob) i = rowLen h i := by
 unfold rowLen
 rw [Z3, Z3, setH_eq, List.getElem?_set_ne (by omega), List.getElem?_map]
 cases h[i]? with
 | none => rfl
 | some q => cases q <;> rfl
theorem Z1i {id : Nat} {ob : TObj} : SubOK (Z5 id) (Zk id) s.heap (s.subAll (Zk id) id ob).heap := by
 refine ⟨fun i sz => ?_, fun i sz off len => ?_, fun i k sz j => ?_, fun i k => ?_⟩
 ·simp only [Z5, Zk]
  by_cases h : i = id
  ·rw [if_pos h, if_pos h]; exact .refl _
  ·rw [if_neg h, if_neg h]
   simp only [SV.toAV, TSt.subAll]
   rw [Z2a h]; exact .refl _
 ·simp only [Z5, Zk]
  by_cases h : i = id
  ·rw [if_pos h, if_pos h]; exact .refl _
  ·rw [if_neg h, if_neg h]; exact .refl _
 ·simp only [Z5, Zk]
  by_cases h : i = id
  ·rw [if_pos h, if_pos h]; exact .refl _
  ·rw [if_neg h, if_neg h]; exact .refl _
 ·simp only [Z5, Zk]
  by_cases h : i = id
  ·rw [if_pos h, if_pos h]; exact .refl _
  ·rw [if_neg h, if_neg h]; exact .refl _
theorem Z9z {id : Nat} {e : TypeId} {t : Ty} {xs : List t.den} (hq : nth s.heap id = some (.row e t xs)) : Imp X s.toSt (s.subAll (frzS id t xs) id .dead).toSt := by
 intro a w hr
 have h1 := Rep.freeze hr id
 have hq' : s.toSt.heap[id]? = some (.row e t.size (xs.map t.cells)) := by rw [TSt.heap_get, hq]; rfl
 unfold St.freeze at h1
 rw [hq'] at h1
 refine Z49 (ob := .dead) (oa := .dead) ⟨fun i sz => ?_, fun i sz off len => ?_, fun i k sz j => ?_, fun i k => ?_⟩ (ObjLe.refl .dead) h1
 ·simp only [Zbz, frzS]
  by_cases h : i = id
  ·rw [if_pos h, if_pos h]
   by_cases hz : sz = t.size
   ·rw [if_pos hz, if_pos hz]
    subst h hz
    rw [Z4 hq, List.drop_zero, List.take_of_length_le (by simp)]
    exact .refl _
   ·rw [if_neg hz, if_neg hz]; exact .refl _
  ·rw [if_neg h, if_neg h]
   simp only [SV.toAV, TSt.subAll]
   rw [Z2a h]; exact .refl _
 ·simp only [Zbz, frzS]
  by_cases h : i = id
  ·rw [if_pos h, if_pos h]
   by_cases hz : sz = t.size
   ·rw [if_pos hz, if_pos hz, Zeo, List.map_take, List.map_drop]
    subst hz
    exact .refl _
   ·rw [if_neg hz, if_neg hz]; exact .refl _
  ·rw [if_neg h, if_neg h]; exact .refl _
 ·simp only [Zbz, frzS]
  by_cases h : i = id
  ·rw [if_pos h, if_pos h]; exact .any _
  ·rw [if_neg h, if_neg h]; exact .refl _
 ·simp only [Zbz, frzS]
  by_cases h : i = id
  ·rw [if_pos h, if_pos h]; exact .refl _
  ·rw [if_neg h, if_neg h]; exact .refl _
theorem Za1 {id : Nat} {e ei : TypeId} {t : Ty} {xs : List t.den} (hq : nth s.heap id = some (.lin e ei t none none xs)) : Imp X s.toSt (s.subAll (Zd9 id t xs) id .dead).toSt := by
 intro a w hr
 have hq' : s.toSt.heap[id]? = some (.lin e ei t.size t.isz none none (xs.map t.cells)) := by rw [TSt.heap_get, hq]; rfl
 have h1 := Rep.freezeLin hr hq'
 refine Z49 (ob := .dead) (oa := .dead) ⟨fun i sz => ?_, fun i sz off len => ?_, fun i k sz j => ?_, fun i k => ?_⟩ (ObjLe.refl .dead) h1
 ·simp only [Z7n, Zd9]
  by_cases h : i = id
  ·rw [if_pos h, if_pos h]; exact .refl _
  ·rw [if_neg h, if_neg h]
   simp only [SV.toAV, TSt.subAll]
   rw [Z2a h]; exact .refl _
 ·simp only [Z7n, Zd9]
  by_cases h : i = id
  ·rw [if_pos h, if_pos h]; exact .refl _
  ·rw [if_neg h, if_neg h]; exact .refl _
 ·simp only [Z7n, Zd9]
  by_cases h : i = id
  ·rw [if_pos h, if_pos h]; exact .refl _
  ·rw [if_neg h, if_neg h]; exact .refl _
 ·simp only [Z7n, Zd9]
  by_cases h : i = id
  ·rw [if_pos h, if_pos h]
   have hin : ∀ n, AV.le (AV.ro t.isz (innOf (Z2 (xs.map t.cells) n))) ((match innT t (List.getD xs n t.d) with | some ⟨v, l⟩ => SV.val (.slice v) l | none => SV.any).toAV (s.subAll (Zd9 id t xs) id .dead).heap) := fun n => by
    cases hi : innT t (List.getD xs n t.d) with
    | none => exact .any _
    | some q =>
     obtain ⟨v, l⟩ := q
     obtain ⟨i1, i2⟩ := Z5h hi
     refine AV.le_of_eq ?_
     show AV.ro t.isz (innOf (Z2 (xs.map t.cells) n)) = AV.ro v.size (l.map v.cells)
     rw [i1, i2]
   rcases k with _ | ⟨a, _ | ⟨b, _ | ⟨c, r⟩⟩⟩
   ·exact .refl _
   ·rcases a with _ | _ | a <;> exact .refl _
   ·rcases a with _ | _ | a
    ·exact .refl _
    ·exact hin b
    ·exact .refl _
   ·rcases a with _ | _ | a <;> exact .refl _
  ·rw [if_neg h, if_neg h]; exact .refl _
def Z3p (id : Nat) (es : List (ByteArray × Value)) : AV → AV
 | .own i sz off len => if i = id then .any else .own i sz off len
 | .ptr i k sz j => if i = id then .any else .ptr i k sz j
 | .nm i k => if i = id then (match k with | [] => .mp es | _ => .any) else .nm i k
 | x => x
theorem Rep.freezeMap {s : St} (hr : Rep X s a w) {id : Nat} {es : List (ByteArray × Value)} (hq : s.heap[id]? = some (.mapo es)) : Rep X ⟨Zo (Z3p id es) s.env, (s.heap.map (AObj.sub (Z3p id es))).set id .dead⟩ a w := by
 obtain ⟨σ, F, hr⟩ := hr
 have hid : id < s.heap.length := (List.getElem?_eq_some_iff.1 hq).1
 obtain ⟨g, arr, clock, h1, h2, h3⟩ := hr.heap.obj id _ hq
 let F' : Nat → Prop := fun b => F b ∨ hasB σ id b
 refine ⟨upd σ id none, F', hr.change hid rfl rfl rfl (Nat.le_refl _) (fun _ _ _ => rfl) (fun _ h => .inl h) (fun _ h => h) (fun q g h => by cases h) (fun i sz' off len y h => Z34 (id := id) i sz' off len y h) (fun i q sz' j y h => Z33 (id := id) i q sz' j y h) (fun i q y h => ?_) (fun _ => .inr rfl) (Z0 _ _ _)⟩
 simp only [Z3p]
 by_cases hi : i = id
 ·subst hi
  rw [if_pos rfl]
  obtain ⟨gs, V', h', hv⟩ := RepV.nmv h
  rw [h1] at h'
  cases h'
  rw [hv]
  split
  ·exact .f _ _ (.mp es g arr clock (.inr ⟨_, h1, rfl⟩) h2 h3)
  ·exact .f _ _ (.any _)
 ·rw [if_neg hi]
  have hs := Z9 σ none hi
  cases h with
  | f _ _ h => cases h
  | nm _ _ gs V' h h5 => exact .nm _ _ gs V' (hs.trans h) h5
theorem Za0 {id : Nat} {t : Ty} {es : List (ByteArray × t.den)} (hq : nth s.heap id = some (.mapo t es)) : Imp X s.toSt (s.subAll (frzM id t es) id .dead).toSt := by
 intro a w hr
 have hq' : s.toSt.heap[id]? = some (.mapo (mapV t es)) := by rw [TSt.heap_get, hq]; rfl
 have h1 := Rep.freezeMap hr hq'
 refine Z49 (ob := .dead) (oa := .dead) ⟨fun i sz => ?_, fun i sz off len => ?_, fun i k sz j => ?_, fun i k => ?_⟩ (ObjLe.refl .dead) h1
 ·simp only [Z3p, frzM]
  by_cases h : i = id
  ·rw [if_pos h, if_pos h]; exact .refl _
  ·rw [if_neg h, if_neg h]
   simp only [SV.toAV, TSt.subAll]
   rw [Z2a h]; exact .refl _
 ·simp only [Z3p, frzM]
  by_cases h : i = id
  ·rw [if_pos h, if_pos h]; exact .refl _
  ·rw [if_neg h, if_neg h]; exact .refl _
 ·simp only [Z3p, frzM]
  by_cases h : i = id
  ·rw [if_pos h, if_pos h]; exact .refl _
  ·rw [if_neg h, if_neg h]; exact .refl _
 ·simp only [Z3p, frzM]
  by_cases h : i = id
  ·rw [if_pos h, if_pos h]
   cases k with
   | nil => exact .refl _
   | cons a r => exact .refl _
  ·rw [if_neg h, if_neg h]; exact .refl _
def Z2p (id : Nat) (cs : List AV) : AV → AV
 | .own i sz off len => if i = id then .any else .own i sz off len
 | .ptr i k sz j => if i = id then (if k = 0 then .rp (cs.drop j) else .any) else .ptr i k sz j
 | .nm i k => if i = id then .any else .nm i k
 | x => x
theorem Rep.freezeBox {s : St} (hr : Rep X s a w) {id : Nat} {e : TypeId} {cs : List AV} (hq : s.heap[id]? = some (.box e cs)) (hf : cs.all AV.flat = true) : Rep X ⟨Zo (Z2p id cs) s.env, (s.heap.map (AObj.sub (Z2p id cs))).set id .dead⟩ a w := by
 obtain ⟨σ, F, hr⟩ := hr
 have hid : id < s.heap.length := (List.getElem?_eq_some_iff.1 hq).1
 obtain ⟨g, vs, h1, h2, h3, h4, h5⟩ := hr.heap.obj id _ hq
 let F' : Nat → Prop := fun b => F b ∨ hasB σ id b
 have hRF : ∀ x y, RepF F w x y → RepF F' w x y := fun x y h => h.mono (fun _ h => .inl h) (fun _ _ => rfl)
 refine ⟨upd σ id none, F', hr.change hid rfl rfl rfl (Nat.le_refl _) (fun _ _ _ => rfl) (fun _ h => .inl h) (fun _ h => h) (fun q g h => by cases h) ?_ ?_ (fun i q y h => Z1y (k := none) i q y h) (fun _ => .inr rfl) (Z0 _ _ _)⟩
 ·intro i sz off len y h
  simp only [Z2p]
  by_cases hi : i = id
  ·rw [if_pos hi]; exact .f _ _ (.any _)
  ·rw [if_neg hi]
   have hs := Z9 σ none hi
   cases h with
   | f _ _ h => cases h
   | own0 _ _ h => exact .own0 _ _ (hs.trans h)
   | own _ _ _ _ g b c n h hn hc => exact .own _ _ _ _ g b c n (hs.trans h) hn hc
   | ownz _ _ _ g b c n a h hn hc => exact .ownz _ _ _ g b c n a (hs.trans h) hn hc
 ·intro i k sz j y h
  simp only [Z2p]
  by_cases hi : i = id
  ·rw [if_pos hi]
   subst hi
   by_cases hk : k = 0
   ·rw [if_pos hk]
    subst hk
    obtain ⟨g', b', c', n', h6, rfl⟩ := RepV.ptrv h
    rw [h1] at h6
    injection h6 with h6
    injection h6 with e1 e2 e3 e4
    subst e1 e2
    have hget : ∀ q x, (cs.drop j)[q]? = some x → ∃ u, vs[j + q]? = some u ∧ cs[j + q]? = some x := fun q x hx => by
     rw [List.getElem?_drop] at hx
     have hj : j + q < vs.length := by have := (List.getElem?_eq_some_iff.1 hx).1; omega
     exact ⟨_, List.getElem?_eq_getElem hj, hx⟩
    refine .f _ _ (.rp _ _ (fun q => (vs[j + q]?).getD undef) (.inr (.at h1)) (fun q x hx => ?_) (fun q x hx => ?_))
    ·obtain ⟨u, h7, h8⟩ := hget q x hx
     rw [h7, Option.getD_some]
     refine ⟨?_, h4 u (List.mem_of_getElem? h7)⟩
     rw [Zl]
     simp only [World.cell?, h2]
     simpa using h7
    ·obtain ⟨u, h7, h8⟩ := hget q x hx
     rw [h7, Option.getD_some]
     exact hRF _ _ ((h5 _ x u h8 h7).toF (List.all_eq_true.1 hf x (List.mem_of_getElem? h8)))
   ·rw [if_neg hk]; exact .f _ _ (.any _)
  ·rw [if_neg hi]
   have hs := Z9 σ none hi
   cases h with
   | f _ _ h => cases h
   | ptr _ _ _ _ g b c n h => exact .ptr _ _ _ _ g b c n (hs.trans h)
theorem asm_le {H : List TObj} {t : Ty} {cs : List SV} {x : t.den} (hx : asm [] t cs = some x) : AV.leL (SV.toAVL H cs) (t.cells x) := by
 have h1 := asm_ok (H := H) (f := id) t (Lends.none _ H) cs x hx
 have e1 : (SV.toAVL H cs).map (AV.sub id) = SV.toAVL H cs := by
  rw [List.map_congr_left (g := id) (fun x _ => AV.sub_id x), List.map_id]
 rw [e1] at h1
 exact h1
theorem Za2 {id : Nat} {e : TypeId} {cs : List SV} {t : Ty} {x : t.den} (hq : nth s.heap id = some (.box e cs)) (hx : asm [] t cs = some x) : Imp X s.toSt (s.subAll (frzB id t x) id .dead).toSt := by
 intro a w hr
 have h0 := asm_le (H := s.heap) hx
 have hq' : s.toSt.heap[id]? = some (.box e (SV.toAVL s.heap cs)) := by rw [TSt.heap_get, hq]; rfl
 have h1 := Rep.freezeBox hr hq' (leL_flat h0 (t.cells_flat x))
 refine Z49 (ob := .dead) (oa := .dead) ⟨fun i sz => ?_, fun i sz off len => ?_, fun i k sz j => ?_, fun i k => ?_⟩ (ObjLe.refl .dead) h1
 ·simp only [Z2p, frzB]
  by_cases h : i = id
  ·rw [if_pos h, if_pos h]; exact .refl _
  ·rw [if_neg h, if_neg h]
   simp only [SV.toAV, TSt.subAll]
   rw [Z2a h]; exact .refl _
 ·simp only [Z2p, frzB]
  by_cases h : i = id
  ·rw [if_pos h, if_pos h]; exact .refl _
  ·rw [if_neg h, if_neg h]; exact .refl _
 ·simp only [Z2p, frzB]
  by_cases h : i = id
  ·rw [if_pos h, if_pos h]
   by_cases hk : k = 0
   ·rw [if_pos hk]
    by_cases hj : j = 0
    ·rw [if_pos ⟨hk, hj⟩]
     subst hj
     rw [List.drop_zero]
     exact AV.leRp h0
    ·rw [if_neg (fun h => hj h.2)]; exact .any _
   ·rw [if_neg hk, if_neg (fun h => hk h.1)]; exact .any _
  ·rw [if_neg h, if_neg h]; exact .refl _
 ·simp only [Z2p, frzB]
  by_cases h : i = id
  ·rw [if_pos h, if_pos h]; exact .refl _
  ·rw [if_neg h, if_neg h]; exact .refl _
def PureSame (s s' : TSt) : Prop := ∀ i, (tget s.env i = .any → tget s'.env i = .any) ∧ (∀ t (x : t.den), tget s.env i = .val t x → tget s'.env i = .val t x) ∧ (∀ t (x : t.den), tget s.env i = .rp t x → tget s'.env i = .rp t x) ∧ (∀ g, tget s.env i = .fn g [] → tget s'.env i = .fn g [])
theorem PureSame.of (s s' : TSt) (h : s.env = s'.env) : PureSame s s' := fun _ => by rw [h]; exact ⟨fun h => h, fun _ _ h => h, fun _ _ h => h, fun _ h => h⟩
theorem PureSame.refl (s : TSt) : PureSame s s := .of s s rfl
theorem PureSame.trans {s1 s2 s3 : TSt} (h : PureSame s1 s2) (k : PureSame s2 s3) : PureSame s1 s3 := fun i =>
 ⟨fun hx => (k i).1 ((h i).1 hx), fun t x hx => (k i).2.1 t x ((h i).2.1 t x hx), fun t x hx => (k i).2.2.1 t x ((h i).2.2.1 t x hx), fun g hx => (k i).2.2.2 g ((h i).2.2.2 g hx)⟩
theorem PureSame.subAll (s : TSt) (g : SV → SV) (id : Nat) (ob : TObj) : PureSame s (s.subAll g id ob) := fun i => by
 simp only [TSt.subAll]
 rw [Z1t (SV.sub g) rfl]
 exact ⟨fun h => by rw [h]; rfl, fun t x h => by rw [h]; rfl, fun t x h => by rw [h]; rfl, fun g h => by rw [h]; rfl⟩
theorem Z65 (TY : Nat → Option Ty) (s : TSt) (id : Nat) : Imp X s.toSt (freezeT TY s id).toSt ∧ PureSame s (freezeT TY s id) := by
 unfold freezeT
 split
 ·rename_i e t xs hq
  exact ⟨Z9z hq, PureSame.subAll s _ id .dead⟩
 ·rename_i e ei t xs hq
  exact ⟨Za1 hq, PureSame.subAll s _ id .dead⟩
 ·rename_i t es hq
  exact ⟨Za0 hq, PureSame.subAll s _ id .dead⟩
 ·rename_i e cs hq
  split
  ·rename_i t ht
   split
   ·rename_i x hx
    exact ⟨Za2 hq hx, PureSame.subAll s _ id .dead⟩
   ·exact ⟨.refl _ _, .refl _⟩
  ·exact ⟨.refl _ _, .refl _⟩
 ·exact ⟨.refl _ _, .refl _⟩
theorem Z13 (TY : Nat → Option Ty) : ∀ (ids : List Nat) (s : TSt), Imp X s.toSt (freezeAllT TY s ids).toSt ∧ PureSame s (freezeAllT TY s ids)
 | [], s => ⟨.refl _ _, .refl _⟩
 | id :: r, s => ⟨(Z65 TY s id).1.trans (Z13 TY r _).1, (Z65 (X := X) TY s id).2.trans (Z13 TY r _).2⟩
end
end Go.Proofs.YtnehieeplbgaiacDoor.Eng
set_option linter.unusedVariables false
set_option linter.unusedSimpArgs false
namespace Go.Proofs.YtnehieeplbgaiacDoor.Eng
open Go
inductive CK where
 | val (t : Ty)
 | own (k sz : Nat)
 | ptr (k sz : Nat)
 | nm (id : Nat) (k : List Nat)
 | nil
inductive SK where
 | val (t : Ty)
 | rp (t : Ty)
 | own (k sz : Nat)
 | que (k sz : Nat)
 | ptr (k sz : Nat)
 | nm (id : Nat) (k : List Nat)
 | fn (f : Nat)
 | agg (cs : List CK)
 | clo (f : Nat) (cs : List CK)
 | nil
 | inn (id : Nat)
inductive OB where
 | row (e : TypeId) (t : Ty)
 | box (e : TypeId) (cs : List CK)
 | mapo (t : Ty)
 | lin (e ei : TypeId) (t : Ty)
 | lip (e ei : TypeId) (t : Ty)
 | dead
structure Shape where
 slots : List (Nat × SK)
 objs : List OB
def ckTys : List CK → List Ty
 | [] => []
 | .val t :: r => t :: ckTys r
 | .own _ _ :: r => ckTys r
 | .ptr _ _ :: r => ckTys r
 | .nm _ _ :: r => ckTys r
 | .nil :: r => ckTys r
def encCells : List CK → List SV → List SV × List SV
 | [], l => ([], l)
 | .val _ :: r, l => (match l with | y :: l => (match encCells r l with | (a, b) => (y :: a, b)) | [] => ([], []))
 | .own k sz :: r, l => (match encCells r l with | (a, b) => (.own k sz :: a, b))
 | .ptr k sz :: r, l => (match encCells r l with | (a, b) => (.ptr k 0 sz 0 :: a, b))
 | .nm id k :: r, l => (match encCells r l with | (a, b) => (.nm id k :: a, b))
 | .nil :: r, l => (match encCells r l with | (a, b) => (.cst (.slice none 0 0) :: a, b))
def colCells : List CK → List SV → List SV
 | .val _ :: r, l => (match l with | y :: l => y :: colCells r l | [] => [])
 | .own _ _ :: r, l => (match l with | _ :: l => colCells r l | [] => [])
 | .ptr _ _ :: r, l => (match l with | _ :: l => colCells r l | [] => [])
 | .nm _ _ :: r, l => (match l with | _ :: l => colCells r l | [] => [])
 | .nil :: r, l => (match l with | _ :: l => colCells r l | [] => [])
 | [], _ => []
def Zv (n : Nat) : List CK → List SV → Bool
 | [], l => (match l with | [] => true | _ => false)
 | .val _ :: r, l => (match l with | _ :: l => Zv n r l | [] => false)
 | .own k sz :: r, l => (match l with | .own k' sz' :: l => decide (k' = k) && decide (sz' = sz) && decide (k < n) && Zv n r l | _ => false)
 | .ptr k sz :: r, l => (match l with | .ptr k' 0 sz' 0 :: l => decide (k' = k) && decide (sz' = sz) && decide (k < n) && Zv n r l | _ => false)
 | .nm id k :: r, l => (match l with | .nm id' k' :: l => decide (id' = id) && decide (k' = k) && decide (id < n) && Zv n r l | _ => false)
 | .nil :: r, l => (match l with | .cst (.slice none 0 0) :: l => Zv n r l | _ => false)
def slotTys : List (Nat × SK) → List Ty
 | [] => []
 | (_, .val t) :: r => t :: slotTys r
 | (_, .rp t) :: r => t :: slotTys r
 | (_, .own _ _) :: r => slotTys r
 | (_, .que _ _) :: r => slotTys r
 | (_, .ptr _ _) :: r => slotTys r
 | (_, .nm _ _) :: r => slotTys r
 | (_, .fn _) :: r => slotTys r
 | (_, .agg cs) :: r => ckTys cs ++ slotTys r
 | (_, .clo _ cs) :: r => ckTys cs ++ slotTys r
 | (_, .nil) :: r => slotTys r
 | (_, .inn _) :: r => .int .i64 :: slotTys r
def objTys : List OB → List Ty
 | [] => []
 | .row _ t :: r => .slice t :: objTys r
 | .box _ cs :: r => ckTys cs ++ objTys r
 | .mapo t :: r => .slice (.pair .str t) :: objTys r
 | .lin _ _ t :: r => .slice t :: objTys r
 | .lip _ _ t :: r => .slice t :: .int .i64 :: objTys r
 | .dead :: r => objTys r
def Shape.tys (sh : Shape) : List Ty := slotTys sh.slots ++ objTys sh.objs
def toRp : SV → SV
 | .val t x => .rp t x
 | x => x
def unRp : SV → SV
 | .rp t x => .val t x
 | x => .any
def toInn (id : Nat) : SV → SV
 | .val (.int .i64) n => .nm id [1, Int.toNat n]
 | _ => .any
def unInn : SV → SV
 | .nm _ [1, k] => .val (.int .i64) (k : Int)
 | _ => .any
def encSlots : List (Nat × SK) → List SV → List (Nat × SV) × List SV
 | [], l => ([], l)
 | (i, .val _) :: r, l => (match l with | y :: l => (match encSlots r l with | (a, b) => ((i, y) :: a, b)) | [] => ([], []))
 | (i, .rp _) :: r, l => (match l with | y :: l => (match encSlots r l with | (a, b) => ((i, toRp y) :: a, b)) | [] => ([], []))
 | (i, .own k sz) :: r, l => (match encSlots r l with | (a, b) => ((i, .own k sz) :: a, b))
 | (i, .que k sz) :: r, l => (match encSlots r l with | (a, b) => ((i, .own k sz) :: a, b))
 | (i, .ptr k sz) :: r, l => (match encSlots r l with | (a, b) => ((i, .ptr k 0 sz 0) :: a, b))
 | (i, .nm id k) :: r, l => (match encSlots r l with | (a, b) => ((i, .nm id k) :: a, b))
 | (i, .fn f) :: r, l => (match encSlots r l with | (a, b) => ((i, .fn f []) :: a, b))
 | (i, .nil) :: r, l => (match encSlots r l with | (a, b) => ((i, .cst (.slice none 0 0)) :: a, b))
 | (i, .inn id) :: r, l => (match l with | y :: l => (match encSlots r l with | (a, b) => ((i, toInn id y) :: a, b)) | [] => ([], []))
 | (i, .agg cs) :: r, l => (match encCells cs l with | (x, l) => (match encSlots r l with | (a, b) => ((i, .agg x) :: a, b)))
 | (i, .clo f cs) :: r, l => (match encCells cs l with | (x, l) => (match encSlots r l with | (a, b) => ((i, .fn f x) :: a, b)))
def rowOf (e : TypeId) : SV → TObj
 | .val (.slice t) xs => .row e t xs
 | _ => .dead
def mapOf : SV → TObj
 | .val (.slice (.pair .str t)) es => .mapo t es
 | _ => .dead
def linOf (e ei : TypeId) : SV → TObj
 | .val (.slice t) xs => .lin e ei t none none xs
 | _ => .dead
def lipOf (e ei : TypeId) : SV → SV → TObj
 | .val (.slice t) xs, .val (.int .i64) n => .lin e ei t (some (Int.toNat n)) none xs
 | _, _ => .dead
def encObjs : List OB → List SV → List TObj
 | [], _ => []
 | .row e _ :: r, l => (match l with | y :: l => rowOf e y :: encObjs r l | [] => [])
 | .box e cs :: r, l => (match encCells cs l with | (x, l) => .box e x :: encObjs r l)
 | .mapo _ :: r, l => (match l with | y :: l => mapOf y :: encObjs r l | [] => [])
 | .lin e ei _ :: r, l => (match l with | y :: l => linOf e ei y :: encObjs r l | [] => [])
 | .lip e ei _ :: r, l => (match l with | y :: n :: l => lipOf e ei y n :: encObjs r l | _ => [])
 | .dead :: r, l => .dead :: encObjs r l
def encS (sh : Shape) (x : denL sh.tys) (fr : List (Nat × SV)) : TSt := match encSlots sh.slots (svL sh.tys x) with
 | (a, b) => ⟨a ++ fr, encObjs sh.objs b⟩
def encI (inv : List (Nat × SK)) (iv : denL (slotTys inv)) : List (Nat × SV) := (encSlots inv (svL (slotTys inv) iv)).1
def Z6 (env : List (Nat × SV)) : List (Nat × SK) → List SV
 | [] => []
 | (i, .val _) :: r => tget env i :: Z6 env r
 | (i, .rp _) :: r => unRp (tget env i) :: Z6 env r
 | (_, .own _ _) :: r => Z6 env r
 | (_, .que _ _) :: r => Z6 env r
 | (_, .ptr _ _) :: r => Z6 env r
 | (_, .nm _ _) :: r => Z6 env r
 | (_, .fn _) :: r => Z6 env r
 | (_, .nil) :: r => Z6 env r
 | (i, .inn _) :: r => unInn (tget env i) :: Z6 env r
 | (i, .agg cs) :: r => (match tget env i with | .agg xs => colCells cs xs | _ => []) ++ Z6 env r
 | (i, .clo _ cs) :: r => (match tget env i with | .fn _ xs => colCells cs xs | _ => []) ++ Z6 env r
def colObjs : List TObj → List OB → List SV
 | _, [] => []
 | o :: h, .row _ _ :: r => (match o with | .row _ t xs => .val (.slice t) xs | _ => .any) :: colObjs h r
 | o :: h, .box _ cs :: r => (match o with | .box _ xs => colCells cs xs | _ => []) ++ colObjs h r
 | o :: h, .mapo _ :: r => (match o with | .mapo t es => .val (.slice (.pair .str t)) es | _ => .any) :: colObjs h r
 | o :: h, .lin _ _ _ :: r => (match o with | .lin _ _ t _ _ xs => .val (.slice t) xs | _ => .any) :: colObjs h r
 | o :: h, .lip _ _ _ :: r => (match o with | .lin _ _ t _ _ xs => .val (.slice t) xs | _ => .any) :: (match o with | .lin _ _ _ (some c) _ _ => .val (.int .i64) ((c : Nat) : Int) | _ => .any) :: colObjs h r
 | _ :: h, .dead :: r => colObjs h r
 | [], _ :: _ => []
def Z7 (env : List (Nat × SV)) (n : Nat) : List (Nat × SK) → Bool
 | [] => true
 | (_, .val _) :: r => Z7 env n r
 | (_, .rp _) :: r => Z7 env n r
 | (i, .own k sz) :: r => (match tget env i with | .own k' sz' => decide (k' = k) && decide (sz' = sz) && decide (k < n) && Z7 env n r | _ => false)
 | (i, .que k sz) :: r => (match tget env i with | .own k' sz' => decide (k' = k) && decide (sz' = sz) && decide (k < n) && Z7 env n r | _ => false)
 | (i, .ptr k sz) :: r => (match tget env i with | .ptr k' 0 sz' 0 => decide (k' = k) && decide (sz' = sz) && decide (k < n) && Z7 env n r | _ => false)
 | (i, .nm id k) :: r => (match tget env i with | .nm id' k' => decide (id' = id) && decide (k' = k) && decide (id < n) && Z7 env n r | _ => false)
 | (i, .fn f) :: r => (match tget env i with | .fn f' [] => decide (f' = f) && Z7 env n r | _ => false)
 | (i, .nil) :: r => (match tget env i with | .cst (.slice none 0 0) => Z7 env n r | _ => false)
 | (i, .inn id) :: r => (match tget env i with | .nm id' [1, _] => decide (id' = id) && decide (id < n) && Z7 env n r | _ => false)
 | (i, .agg cs) :: r => (match tget env i with | .agg xs => Zv n cs xs && Z7 env n r | _ => false)
 | (i, .clo f cs) :: r => (match tget env i with | .fn f' (c :: xs) => decide (f' = f) && Zv n cs (c :: xs) && Z7 env n r | _ => false)
def Z11 (n : Nat) : List TObj → List OB → Bool
 | _, [] => true
 | o :: h, .row e _ :: r => (match o with | .row e' _ _ => decide (e' = e) | _ => false) && Z11 n h r
 | o :: h, .box e cs :: r => (match o with | .box e' xs => decide (e' = e) && Zv n cs xs | _ => false) && Z11 n h r
 | o :: h, .mapo _ :: r => (match o with | .mapo _ _ => true | _ => false) && Z11 n h r
 | o :: h, .lin e ei _ :: r => (match o with | .lin e' ei' _ none none _ => decide (e' = e) && decide (ei' = ei) | _ => false) && Z11 n h r
 | o :: h, .lip e ei _ :: r => (match o with | .lin e' ei' _ (some _) none _ => decide (e' = e) && decide (ei' = ei) | _ => false) && Z11 n h r
 | o :: h, .dead :: r => (match o with | .dead => true | _ => false) && Z11 n h r
 | [], _ :: _ => false
def decS {β : Type} (sh : Shape) (s : TSt) (k : denL sh.tys → Option β) : Option β :=
 match Z7 s.env sh.objs.length sh.slots && Z11 sh.objs.length s.heap sh.objs with
 | true => (match asTL [] sh.tys (Z6 s.env sh.slots ++ colObjs s.heap sh.objs) with
  | some x => k x
  | none => none)
 | false => none
def memN : List Nat → Nat → Bool
 | [], _ => false
 | x :: r, k => if x = k then true else memN r k
def decO (sh : Shape) (s : TSt) : Option (denL sh.tys) := match Z7 s.env sh.objs.length sh.slots && Z11 sh.objs.length s.heap sh.objs with
 | true => asTL [] sh.tys (Z6 s.env sh.slots ++ colObjs s.heap sh.objs)
 | false => none
structure TFw where
 ins : Shape
 outs : Shape
 nr : Nat
 run : denL ins.tys → Option (denL outs.tys)
def mapGet : List (Nat × Nat) → Nat → Option Nat
 | [], _ => none
 | (k, e) :: r, t => if k = t then some e else mapGet r t
def Z5l (k : Nat) : List SV → List (Nat × SV)
 | [] => []
 | x :: r => (k, x) :: Z5l (k + 1) r
def Z2h (env : List (Nat × SV)) : Nat → Nat → List SV
 | _, 0 => []
 | k, n + 1 => tget env k :: Z2h env (k + 1) n
def retL : List SV → SV
 | [x] => x
 | l => .tup l
def uniC : List CK → List SV → List (Nat × Nat) → List (Nat × Nat)
 | c :: r, x :: l, m => uniC r l (match c, x with
  | .own k _, .own id _ => (k, id) :: m
  | .ptr k _, .ptr id _ _ _ => (k, id) :: m
  | .nm k _, .nm id _ => (k, id) :: m
  | _, _ => m)
 | _, _, m => m
def uniS : List (Nat × SK) → List SV → List (Nat × Nat) → List (Nat × Nat)
 | c :: r, x :: l, m => uniS r l (match c.2, x with
  | .own k _, .own id _ => (k, id) :: m
  | .ptr k _, .ptr id _ _ _ => (k, id) :: m
  | .nm k _, .nm id _ => (k, id) :: m
  | .agg cs, .agg xs => uniC cs xs m
  | .clo _ cs, .fn _ xs => uniC cs xs m
  | _, _ => m)
 | _, _, m => m
def uniO (h : List TObj) : Nat → List OB → List (Nat × Nat) → List (Nat × Nat)
 | k, o :: r, m => uniO h (k + 1) r (match o, mapGet m k with
  | .box _ cs, some id => (match nth h id with
   | some (.box _ xs) => uniC cs xs m
   | _ => m)
  | _, _ => m)
 | _, [], m => m
def Zji (m : List (Nat × Nat)) : Nat → Nat → Option (List Nat)
 | _, 0 => some []
 | k, n + 1 => (match mapGet m k, Zji m (k + 1) n with
  | some id, some l => some (id :: l)
  | _, _ => none)
def renS (keep : List Nat) : SV → SV
 | .own id sz => (match idx keep id with | some k => .own k sz | none => .any)
 | .cut id sz off len => (match idx keep id with | some k => .cut k sz off len | none => .any)
 | .ptr id i sz j => (match idx keep id with | some k => .ptr k i sz j | none => .any)
 | .nm id q => (match idx keep id with | some k => .nm k q | none => .any)
 | x => x
def Zcc (keep : List Nat) (n k : Nat) : Nat := match nth keep k with
 | some i => i
 | none => n + (k - keep.length)
def Zag (keep : List Nat) (n : Nat) : SV → SV
 | .own k sz => .own (Zcc keep n k) sz
 | .cut k sz off len => .cut (Zcc keep n k) sz off len
 | .ptr k i sz j => .ptr (Zcc keep n k) i sz j
 | .nm k q => .nm (Zcc keep n k) q
 | x => x
def Z28 (keep : List Nat) (h : List TObj) : List TObj := keep.map fun i => ((nth h i).getD .dead).sub (renS keep)
def Zjt {α : Type} : List α → Nat → List α
 | l, 0 => l
 | [], _ + 1 => []
 | _ :: r, k + 1 => Zjt r k
def Z3c (keep : List Nat) (n : Nat) (hO : List TObj) : Nat → List TObj → List TObj
 | _, [] => (Zjt hO keep.length).map (TObj.sub (Zag keep n))
 | i, o :: r => (match idx keep i with
  | some k => ((nth hO k).getD .dead).sub (Zag keep n)
  | none => o) :: Z3c keep n hO (i + 1) r
def Z4x (h hO : List TObj) : Nat → List Nat → List Prop
 | _, [] => []
 | k, id :: r => (match nth h id, nth hO k with
  | some (.row _ _ xs), some (.row _ _ ys) => (List.length ys = List.length xs) :: Z4x h hO (k + 1) r
  | some (.box _ _), some (.box _ _) => Z4x h hO (k + 1) r
  | some (.mapo _ _), some (.mapo _ _) => Z4x h hO (k + 1) r
  | some (.lin _ _ _ _ _ _), some (.lin _ _ _ _ _ _) => Z4x h hO (k + 1) r
  | some (.row _ _ _), some .dead => Z4x h hO (k + 1) r
  | some (.lin _ _ _ _ _ _), some .dead => Z4x h hO (k + 1) r
  | _, _ => [False])
def deadL (hO : List TObj) : Nat → List Nat → List Nat
 | _, [] => []
 | k, id :: r => (match nth hO k with
  | some .dead => id :: deadL hO (k + 1) r
  | _ => deadL hO (k + 1) r)
def Z4y (ds : List Nat) : SV → SV
 | .own i sz => (match memN ds i with | true => .any | false => .own i sz)
 | .cut i sz off len => (match memN ds i with | true => .any | false => .cut i sz off len)
 | .ptr i k sz j => (match memN ds i with | true => .any | false => .ptr i k sz j)
 | .nm i k => (match memN ds i with | true => .any | false => .nm i k)
 | x => x
def TSt.killL (s : TSt) (ds : List Nat) : TSt := match ds with
 | [] => s
 | d :: r => ⟨s.env.map fun p => (p.1, p.2.sub (Z4y (d :: r))), s.heap.map (TObj.sub (Z4y (d :: r)))⟩
def TSt.backL (s : TSt) (keep : List Nat) (hO : List TObj) : TSt := ⟨(s.killL (deadL hO 0 keep)).env, Z3c keep s.heap.length hO 0 (s.killL (deadL hO 0 keep)).heap⟩
def noDup : List Nat → Bool
 | [] => true
 | x :: r => !memN r x && noDup r
def Zbl (l : List Nat) : List Nat → List Nat
 | [] => []
 | x :: r => match memN l x with | true => Zbl l r | false => x :: Zbl l r
def lendT (h : List TObj) (f : TFw) (xs : List SV) (keep : List Nat) : Option (denL f.ins.tys) := decO f.ins ⟨Z5l 0 (xs.map (SV.sub (renS keep))), Z28 keep h⟩
def Z9u (h : List TObj) (sh : Shape) (xs : List SV) (m : List (Nat × Nat)) : Option (List Nat) := (match Zji (uniO h 0 sh.objs (uniS sh.slots xs m)) 0 sh.objs.length with
 | some keep => (match noDup keep with | true => some keep | false => none)
 | none => none)
end Go.Proofs.YtnehieeplbgaiacDoor.Eng
set_option linter.unusedVariables false
set_option linter.unusedSimpArgs false
namespace Go.Proofs.YtnehieeplbgaiacDoor.Eng
open Go Go.RowKit
structure TFn where
 args : List Ty
 res : List Ty
 run : denL args → Option (denL res)
structure TFo where
 args : List Ty
 res : List Ty
 own : List (Option Nat)
 run : denL args → Option (denL res)
def ownObj : (t : Ty) → Option Nat → t.den → List TObj
 | .slice t, some e, xs => [.row e t xs]
 | _, _, _ => []
def Zj3 (n : Nat) : (t : Ty) → Option Nat → t.den → SV
 | .slice t, some _, _ => .own n t.size
 | t, _, x => .val t x
def ownHd : List (Option Nat) → Option Nat
 | [] => none
 | o :: _ => o
def ownObjs : (ts : List Ty) → List (Option Nat) → denL ts → List TObj
 | [], _, _ => []
 | [t], os, x => ownObj t (ownHd os) x
 | t :: u :: r, os, x => ownObj t (ownHd os) x.1 ++ ownObjs (u :: r) os.tail x.2
def Zbb (n : Nat) : (ts : List Ty) → List (Option Nat) → denL ts → List SV
 | [], _, _ => []
 | [t], os, x => [Zj3 n t (ownHd os) x]
 | t :: u :: r, os, x => Zj3 n t (ownHd os) x.1 :: Zbb (n + (ownObj t (ownHd os) x.1).length) (u :: r) os.tail x.2
def Z8e (n : Nat) (ts : List Ty) (os : List (Option Nat)) (y : denL ts) : SV := match Zbb n ts os y with
 | [x] => x
 | l => .tup l
def Ty.vals : (t : Ty) → t.den → List Value
 | .pair a b, x => a.vals x.1 ++ b.vals x.2
 | .one t, x => t.vals x
 | .int k, x => [.int k x]
 | .byte, x => [.int .u8 (x.toNat : Int)]
 | .bool, x => [.bool x]
 | .str, x => [.string x]
 | .slice _, _ => []
 | .ptr _, _ => []
 | .nilS, _ => []
 | .nilI, _ => []
 | .adr, _ => []
 | .mp _, _ => []
 | .mq _, _ => []
 | .fnc _, _ => []
 | .clo _ _, _ => []
 | .ref _, _ => []
structure SFn where
 t : Ty
 run : List t.den → Option (List t.den)
 cut : Option (List t.den → Nat)
inductive Plan where
 | done
 | take (i : Nat) (r : Plan)
 | alt (i : Nat) (a b : Plan)
 | swp (k : Nat) (r : Plan)
 | no
def SV.key : SV → Nat
 | .fn f _ => f + 2
 | .val (.clo f _) _ => f + 2
 | .cst (.slice none 0 0) => 1
 | _ => 0
def keyOf : List SV → List Nat
 | [] => []
 | x :: r => x.key :: keyOf r
structure Cx where
 T : Tab
 TY : Nat → Option Ty
 B : Nat → List Nat → Option TFn
 BO : Nat → List Nat → Option TFo
 D : Nat → Option (Nat × List (Nat × Bool) × Option (Nat × List (Nat × Bool) × Nat × List (Nat × Bool)))
 DP : Nat → Option (Nat × Plan)
 FZ : List Nat
 MP : List (Nat × Nat)
 wr : Bool
 EQ : List Nat
 TR : List (Nat × Bool × Nat)
 SO : Nat → Nat → Option SFn
 n : Nat
 BW : Nat → List Nat → Option TFw
 m : Nat
inductive R2 where
 | bad
 | ok (s : TSt) (x : SV)
 | cond (c : Prop) (s : TSt) (x : SV)
 | call (ts : List Ty) (r : Option (denL ts)) (s : TSt)
 | callO (ts : List Ty) (os : List (Option Nat)) (r : Option (denL ts)) (s : TSt)
 | pick (b : Bool) (x y : SV)
 | nq (c : Prop) (b : Bool)
 | callW (keep : List Nat) (f : TFw) (r : Option (denL f.outs.tys)) (s : TSt)
def Operand.slot : Operand → Option Nat
 | .tmp t => some t
 | _ => none
def partsT : (t : Ty) → t.den → List SV
 | .pair a b, x => partsT a x.1 ++ partsT b x.2
 | .one t, x => partsT t x
 | .int k, x => [.val (.int k) x]
 | .byte, x => [.val .byte x]
 | .bool, x => [.val .bool x]
 | .str, x => [.val .str x]
 | .slice t, x => [.val (.slice t) x]
 | .ptr t, x => [.val (.ptr t) x]
 | .nilS, x => [.val .nilS x]
 | .nilI, x => [.val .nilI x]
 | .adr, x => [.val .adr x]
 | .mp t, x => [.val (.mp t) x]
 | .mq t, x => [.val (.mq t) x]
 | .fnc f, x => [.val (.fnc f) x]
 | .clo f c, x => [.fn f (partsT c x)]
 | .ref t, x => [.rp t x]
def cellsS : SV → Option (List SV)
 | .val t x => some (partsT t x)
 | .agg cs => some cs
 | .cst v => (match v with
  | .agg vs => (match vs.toList.all Value.oneCell' with | true => some (vs.toList.map .cst) | false => none)
  | v => (match v.oneCell' with | true => some [.cst v] | false => none))
 | .rp t x => some [.rp t x]
 | .own id sz => some [.own id sz]
 | .cut id sz off len => some [.cut id sz off len]
 | .ptr id i sz j => some [.ptr id i sz j]
 | .fn f cs => some [.fn f cs]
 | .nm id k => some [.nm id k]
 | .any => none
 | .tup _ => none
def putS (cs : List SV) (off : Nat) (xs : List SV) : List SV := cs.take off ++ xs ++ cs.drop (off + xs.length)
def Zc9 (pl : List (Nat × Nat)) : List SV → List (Nat × SV) → Option (List SV)
 | cs, [] => some cs
 | cs, (i, x) :: r => match nth pl i, cellsS x with
  | some (off, size), some xs => if xs.length = size ∧ off + size ≤ cs.length then Zc9 pl (putS cs off xs) r else none
  | _, _ => none
def zeroB : Ty → List Value → Bool
 | .pair a b, vs => zeroB a (vs.take a.size) && zeroB b (vs.drop a.size)
 | .one t, vs => zeroB t vs
 | .int k, vs => (match vs with | [.int k' n] => decide (k' = k) && decide (n = 0) | _ => false)
 | .byte, vs => (match vs with | [.int .u8 n] => decide (n = 0) | _ => false)
 | .bool, vs => (match vs with | [.bool b] => !b | _ => false)
 | .str, vs => (match vs with | [.string b] => decide (b.size = 0) | _ => false)
 | .slice _, vs => (match vs with | [.slice none 0 0] => true | _ => false)
 | .ptr _, vs => (match vs with | [.pointer none] => true | _ => false)
 | .nilS, _ => false
 | .nilI, _ => false
 | .adr, _ => false
 | .mp _, _ => false
 | .mq _, _ => false
 | .fnc _, _ => false
 | .clo _ _, _ => false
 | .ref _, _ => false
def setAt : (t : Ty) → Nat → Bool → t.den → (u : Ty) → u.den → Option t.den
 | .one t, off, agg, x, u, y => if off = 0 ∧ u.size = t.size ∧ agg = true then Zd (.one t) u y else setAt t off agg x u y
 | .pair a b, off, agg, x, u, y =>
  if off = 0 ∧ u.size = a.size + b.size ∧ agg = true then Zd (.pair a b) u y
  else if off < a.size then (match setAt a off agg x.1 u y with | some z => some (z, x.2) | none => none)
  else (match setAt b (off - a.size) agg x.2 u y with | some z => some (x.1, z) | none => none)
 | .int k, off, agg, x, u, y => if off = 0 ∧ agg = false then Zd (.int k) u y else none
 | .byte, off, agg, x, u, y => if off = 0 ∧ agg = false then Zd .byte u y else none
 | .bool, off, agg, x, u, y => if off = 0 ∧ agg = false then Zd .bool u y else none
 | .str, off, agg, x, u, y => if off = 0 ∧ agg = false then Zd .str u y else none
 | .slice t, off, agg, x, u, y => if off = 0 ∧ agg = false then Zd (.slice t) u y else none
 | .ptr t, off, agg, x, u, y => if off = 0 ∧ agg = false then Zd (.ptr t) u y else none
 | .nilS, off, agg, x, u, y => if off = 0 ∧ agg = false then Zd .nilS u y else none
 | .nilI, off, agg, x, u, y => if off = 0 ∧ agg = false then Zd .nilI u y else none
 | .adr, off, agg, x, u, y => if off = 0 ∧ agg = false then Zd .adr u y else none
 | .mp t, off, agg, x, u, y => if off = 0 ∧ agg = false then Zd (.mp t) u y else none
 | .mq t, off, agg, x, u, y => if off = 0 ∧ agg = false then Zd (.mq t) u y else none
 | .fnc f, off, agg, x, u, y => if off = 0 ∧ agg = false then Zd (.fnc f) u y else none
 | .clo f c, off, agg, x, u, y => if off = 0 ∧ agg = false then Zd (.clo f c) u y else none
 | .ref t, off, agg, x, u, y => if off = 0 ∧ agg = false then Zd (.ref t) u y else none
def TSt.push (s : TSt) (o : TObj) : TSt := ⟨s.env, s.heap ++ [o]⟩
def TSt.pushL (s : TSt) (l : List TObj) : TSt := ⟨s.env, s.heap ++ l⟩
def Zeq (C : Cx) (s : TSt) (e : Nat) : R2 := match C.T e with
 | some i => .ok (s.push (.box e (i.zero.cells.toList.map .cst))) (.ptr s.heap.length 0 i.size 0)
 | none => .bad
def boxT (C : Cx) (s : TSt) (e : Nat) (ro : Bool) (y : SV) : R2 := match ro with
 | true => (match C.TY e with
  | some t => (match asT [] t y with
   | some x => .ok s (.rp t x)
   | none => .bad)
  | none => .bad)
 | false => (match cellsS y with
  | some cs => .ok (s.push (.box e cs)) (.ptr s.heap.length 0 0 0)
  | none => .bad)
def Z81 (C : Cx) (s : TSt) (t : Nat) (parts : List (Nat × SV)) : R2 := match C.T t with
 | some ⟨.struct fs, _, _, z⟩ => (match Z2m C.T fs with
  | some pl => (match Zc9 pl (z.cells.toList.map .cst) parts with
   | some cs => .ok s (.agg cs)
   | none => .bad)
  | none => .bad)
 | _ => .bad
def asTs (t : Ty) : List SV → Option (List t.den)
 | [] => some []
 | x :: r => match asT [] t x, asTs t r with
  | some y, some l => some (y :: l)
  | _, _ => none
def Zc2 (C : Cx) (t : Nat) : Option (Nat × TI × Ty) := match C.T t with
 | some ⟨.slice e, _, _, _⟩ => (match C.T e, C.TY e with
  | some i, some u => if u.size = i.size ∧ 0 < i.bytes then some (e, i, u) else none
  | _, _ => none)
 | _ => none
def Ty.nilLast : Ty → Ty
 | .slice _ => .nilS
 | .one t => .one t.nilLast
 | .pair a b => .pair a b.nilLast
 | .int k => .int k
 | .byte => .byte
 | .bool => .bool
 | .str => .str
 | .ptr t => .ptr t
 | .nilS => .nilS
 | .nilI => .nilI
 | .adr => .adr
 | .mp t => .mp t
 | .mq t => .mq t
 | .fnc f => .fnc f
 | .clo f c => .clo f c
 | .ref t => .ref t
def fillNil : (t : Ty) → t.nilLast.den → t.den
 | .slice _, _ => []
 | .one t, x => fillNil t x
 | .pair _ b, x => (x.1, fillNil b x.2)
 | .int _, x => x
 | .byte, x => x
 | .bool, x => x
 | .str, x => x
 | .ptr _, x => x
 | .nilS, x => x
 | .nilI, x => x
 | .adr, x => x
 | .mp _, x => x
 | .mq _, x => x
 | .fnc _, x => x
 | .clo _ _, x => x
 | .ref _, x => x
def isNilS0 : SV → Bool
 | .cst (.slice none 0 0) => true
 | _ => false
def lastNil : List SV → Bool
 | [] => false
 | [x] => isNilS0 x
 | _ :: y :: r => lastNil (y :: r)
def trGet : List (Nat × Bool × Nat) → Nat → Option (Bool × Nat)
 | [], _ => none
 | (g, b, e) :: r, f => (match decide (g = f) with | true => some (b, e) | false => trGet r f)
def trIns : List (Nat × Bool × Nat) → Nat → Bool
 | [], _ => false
 | (_, b, e) :: r, e' => (b && decide (e = e')) || trIns r e'
def rowTy (C : Cx) (e : Nat) (u : Ty) (l : List SV) : Ty := match trIns C.TR e, l with
 | true, [.agg cs] => (match lastNil cs with | true => u.nilLast | false => u)
 | _, _ => u
def Z3t (C : Cx) (s : TSt) (t len : Nat) (parts : List (Nat × Operand)) : R2 := match Zc2 C t with
 | some (e, i, u0) =>
  let s1 := frzFor C.TY s (parts.map fun q => s.ev q.2)
  let u := rowTy C e u0 (parts.map fun q => s1.ev q.2)
  (match asTs u (parts.map fun q => s1.ev q.2) with
  | some xs => if parts.map (·.1) = List.range len ∧ len * i.size ≤ 16777216 then .ok (s1.push (.row e u xs)) (.own s1.heap.length u.size) else .bad
  | none => .bad)
 | none => .bad
def Z1z (id : Nat) : SV → SV
 | .own i sz => if i = id then .any else .own i sz
 | .cut i sz off len => if i = id then .any else .cut i sz off len
 | .ptr i k sz j => if i = id then .any else .ptr i k sz j
 | .nm i k => if i = id then (match k with | [0] => .nm i [0] | [2, n, j] => .nm i [2, n, j] | _ => .any) else .nm i k
 | x => x
def Z76 (C : Cx) (s : TSt) (t id n j : Nat) (z : SV) : R2 := match C.T t, z with
 | some i, .own id2 sz => (match nth s.heap id2, nth s.heap id with
  | some (.row e2 u l), some (.lin e ei t0 part hole xs) => (match setInn t0 (List.getD xs n t0.d) u l with
   | some y => if sz = u.size ∧ e2 = ei ∧ i.size = 1 ∧ j + 1 = t0.size ∧ C.m ≤ id then (match part, hole with
    | none, some q => .cond (q = n ∧ n < List.length xs) ((s.subAll (Zk id2) id2 .dead).subAll (Z1z id) id (.lin e ei t0 none none (List.set xs n y))) .any
    | some c, none => .cond (c = n ∧ n < List.length xs) ((s.subAll (Zk id2) id2 .dead).subAll (Z1z id) id (.lin e ei t0 (some (n + 1)) none (List.set xs n y))) .any
    | _, _ => .bad) else .bad
   | none => .bad)
  | _, _ => .bad)
 | _, _ => .bad
def Z4b (C : Cx) (s : TSt) (t : Nat) (same : Bool) (y : SV) : R2 := match Zc2 C t, y.num, same with
 | some (e, i, u), some (_, q), true => (match zeroB u i.zero.cells.toList with
  | true => .cond (0 ≤ q ∧ q * (i.bytes : Int) ≤ 140737488355328) (s.push (.row e u (List.replicate q.toNat u.d))) (.own s.heap.length u.size)
  | false => .bad)
 | _, _, _ => .bad
def putRow (t : Ty) (j : Nat) (i : TI) (xs : List t.den) (k : Nat) (z : SV) (u : Ty) : Option (List t.den) := match asT [] u z with
 | some y => if u.size = i.size ∧ u.isAgg = i.k.agg then (match setAt t j i.k.agg (List.getD xs k t.d) u y with
  | some x => some (List.set xs k x)
  | none => none) else none
 | none => none
def Zg1 (C : Cx) (s : TSt) (t : Nat) (fz : Bool) (y z : Operand) : R2 := match C.T t, s.ev y with
 | some i, .ptr id k sz j => (match nth s.heap id with
  | some (.box e cs) => (match cellsS (s.ev z) with
   | some xs => if k = 0 ∧ xs.length = i.size ∧ j + i.size ≤ cs.length then (match fz with
    | true => .ok (freezeT C.TY ⟨s.env, setH s.heap id (.box e (putS cs j xs))⟩ id) .any
    | false => .ok ⟨s.env, setH s.heap id (.box e (putS cs j xs))⟩ .any) else .bad
   | none => .bad)
  | some (.row _ _ _) => let s1 := frzFor C.TY s [s.ev z]
   (match s1.ev y, C.TY t with
   | .ptr id k sz j, some v => (match nth s1.heap id with
    | some (.row e u xs) => (match putRow u j i xs k (s1.ev z) v with
     | some xs' => if sz = u.size then .cond (k < List.length xs) ⟨s1.env, setH s1.heap id (.row e u xs')⟩ .any else .bad
     | none => .bad)
    | _ => .bad)
   | _, _ => .bad)
  | _ => .bad)
 | _, _ => .bad
def catL {α : Type} (xs ys : List α) : List α := xs ++ ys
def isSeq (C : Cx) (t : Nat) : Bool := match C.T t with
 | some ⟨.slice _, _, _, _⟩ => true
 | some ⟨.str, _, _, _⟩ => true
 | _ => false
def newsT (s : TSt) (u : Ty) (z : SV) : Option (List u.den) := match z.stg with
 | some b => Zd (.slice u) (.slice .byte) (b.data.toList)
 | none => (match z with
  | .nm _ _ => none
  | z => asT s.heap (.slice u) z)
def isNilS : SV → Bool
 | .cst (.slice none 0 0) => true
 | _ => false
def appendT (C : Cx) (s : TSt) (t t' : Nat) (y z : SV) : R2 := match Zc2 C t, isSeq C t' with
 | some (e, i, u), true => (match newsT s u z with
  | some news => (match y with
   | .cst (.slice none 0 0) => .cond (List.length news * i.bytes ≤ 140737488355328) ((s.push (.row e u [])).subAll (Zk s.heap.length) s.heap.length (.row e u news)) (.own s.heap.length u.size)
   | .own id sz => (match nth s.heap id with
    | some (.row e' u' xs) => (match Zd (.slice u) (.slice u') xs with
     | some xs => if sz = u.size ∧ e' = e ∧ C.m ≤ id then .cond ((List.length xs + List.length news) * i.bytes ≤ 140737488355328) (s.subAll (Zk id) id (.row e u (catL xs news))) (.own id u.size) else .bad
     | none => .bad)
    | _ => .bad)
   | .cut id sz off len => (match nth s.heap id with
    | some (.row e' u' xs) => (match Zd (.slice u) (.slice u') xs with
     | some xs => if sz = u.size ∧ e' = e ∧ C.m ≤ id then .cond (off + len = List.length xs ∧ (len + List.length news) * i.bytes ≤ 140737488355328) (s.subAll (Zk id) id (.row e u (catL (List.drop off xs) news))) (.own id u.size) else .bad
     | none => .bad)
    | _ => .bad)
   | _ => .bad)
  | none => .bad)
 | some (e, i, u), false => (match C.T t', isNilS y, z.num with
  | some ⟨.int _, _, _, _⟩, true, some (_, q) => (match zeroB u i.zero.cells.toList with
   | true => .cond (0 < q ∧ q * (i.bytes : Int) ≤ 140737488355328) (s.push (.row e u (List.replicate q.toNat u.d))) (.own s.heap.length u.size)
   | false => .bad)
  | _, _, _ => .bad)
 | _, _ => .bad
def Z10 (s : TSt) (d id e ei q : Nat) (t u : Ty) (xs : List t.den) (l : List u.den) : TSt :=
 ⟨(d, .own s.heap.length u.size) :: (s.subAll (Z1z id) id (.lin e ei t none (some q) xs)).env, (s.subAll (Z1z id) id (.lin e ei t none (some q) xs)).heap ++ [.row ei u l]⟩
def condR (p : Prop) : R2 → R2
 | .cond c s x => .cond (p ∧ c) s x
 | _ => .bad
def Z85 (C : Cx) (s : TSt) (t t' : Nat) (y z : Operand) (id q : Nat) : R2 := match y, nth s.heap id with
 | .tmp d, some (.lin e ei t0 none none xs) => (match innT t0 (List.getD xs q t0.d) with
  | some ⟨u, l⟩ => if C.m ≤ id then condR (q < List.length xs) (appendT C (Z10 s d id e ei q t0 u xs l) t t' ((Z10 s d id e ei q t0 u xs l).ev y) ((Z10 s d id e ei q t0 u xs l).ev z)) else .bad
  | none => .bad)
 | _, _ => .bad
def allPlain : List Ty → Bool
 | [] => true
 | t :: r => t.plain && allPlain r
def fnV : SV → SV
 | .val (.clo f c) x => .fn f (partsT c x)
 | x => x
def Z6x (C : Cx) (s : TSt) (fop : Operand) (g : Nat) (args : List Operand) (f : TFn) : R2 := let s1 := frzFor C.TY s (s.ev fop :: args.map s.ev)
 match fnV (s1.ev fop) with
 | .fn g' caps => (match asTL [] f.args (args.map s1.ev ++ caps) with
  | some x => if g' = g then .call f.res (f.run x) s1 else .bad
  | none => .bad)
 | _ => .bad
def Zjz (C : Cx) (s : TSt) (fop : Operand) (args : List Operand) : R2 := match fnV (s.ev fop) with
 | .fn g caps => (match C.B g (keyOf (args.map s.ev)) with
  | some f => (match allPlain f.res with
   | true => (match asTL s.heap f.args (args.map s.ev ++ caps) with
    | some x => .call f.res (f.run x) s
    | none => Z6x C s fop g args f)
   | false => Z6x C s fop g args f)
  | none => (match C.BO g (keyOf (args.map s.ev)) with
   | some f => let s1 := frzFor C.TY s (s.ev fop :: args.map s.ev)
    (match fnV (s1.ev fop) with
    | .fn g' caps' => (match asTL [] f.args (args.map s1.ev ++ caps') with
     | some x => if g' = g then .callO f.res f.own (f.run x) s1 else .bad
     | none => .bad)
    | _ => .bad)
   | none => .bad))
 | _ => .bad
def Zif (n : Nat) : List Nat → Bool
 | [] => true
 | x :: r => decide (x < n) && Zif n r
def Zin (C : Cx) (s : TSt) (fop : Operand) (args : List Operand) : Option (Nat × TFw) := match fnV (s.ev fop) with
 | .fn g _ => (match C.BW g (keyOf (args.map s.ev)) with
  | some f => some (g, f)
  | none => none)
 | _ => none
def callW (C : Cx) (s : TSt) (fop : Operand) (args : List Operand) (g : Nat) (f : TFw) : R2 := match fnV (s.ev fop) with
 | .fn _ caps => (match Z9u s.heap f.ins (args.map s.ev ++ caps) [] with
  | some keep => let s1 := freezeAllT C.TY s (Zbl keep (Z9x s.heap (SV.ids0L (args.map s.ev ++ caps) ++ keep)))
   (match fnV (s1.ev fop), Zif s1.heap.length keep with
   | .fn g' caps', true => (match lendT s1.heap f (args.map s1.ev ++ caps') keep with
    | some x => if g' = g ∧ (args.map s1.ev ++ caps').length = f.ins.slots.length then .callW keep f (f.run x) s1 else .bad
    | none => .bad)
   | _, _ => .bad)
  | none => .bad)
 | _ => .bad
def wrapT (C : Cx) (op : BinOp) (x y : SV) : Option SV := match C.wr, x.num, y.num with
 | true, some (.i64, a), some (.i64, b) => (match op with
  | .add => some (.val (.int .i64) (IntKind.wrap .i64 (a + b)))
  | .sub => some (.val (.int .i64) (IntKind.wrap .i64 (a - b)))
  | .mul => some (.val (.int .i64) (IntKind.wrap .i64 (a * b)))
  | _ => none)
 | _, _, _ => none
def zeroVB0 : Ty → Value → Bool
 | .int k, v => (match v with | .int k' n => decide (k' = k) && decide (n = 0) | _ => false)
 | .byte, v => (match v with | .int .u8 n => decide (n = 0) | _ => false)
 | .bool, v => (match v with | .bool b => !b | _ => false)
 | .str, v => (match v with | .string b => decide (b.size = 0) | _ => false)
 | _, _ => false
def zeroPs : Ty → List Value → Option (List Value)
 | .pair a b, l => (match zeroPs a l with
  | some r => zeroPs b r
  | none => none)
 | _, [] => none
 | t, v :: r => (match zeroVB0 t v with
  | true => some r
  | false => none)
def Zfm (t : Ty) (v : Value) : Bool := match t with
 | .pair a b => (match v with
  | .agg vs => (match zeroPs (.pair a b) vs.toList with
   | some [] => true
   | _ => false)
  | _ => false)
 | t => zeroVB0 t v
def Zf8 (C : Cx) (t : Nat) : Option Ty := match mapGet C.MP t with
 | some e => (match decide (e = 0) with
  | true => none
  | false => (match C.T e, C.TY e with
   | some i, some u => (match Zfm u i.zero with | true => some u | false => none)
   | _, _ => none))
 | none => none
def isNI : SV → Bool
 | .cst .nilIface => true
 | .val .nilI _ => true
 | _ => false
def ifcT (C : Cx) (op : BinOp) (t : Nat) (y : SV) (z : Operand) : Option SV := match z, eqOp op, mapGet C.MP t, isNI y with
 | .const .nilIface, some b, some 0, true => some (.cst (.bool (match b with | true => false | false => true)))
 | _, _, _, _ => none
def Z6u (C : Cx) (s : TSt) (t : Nat) : R2 := match Zf8 C t with
 | some u => .ok (s.push (.mapo u [])) (.nm s.heap.length [])
 | none => .bad
def Z9r (C : Cx) (s : TSt) (t : Nat) (x k : SV) (b : Bool) : R2 := match Zf8 C t, x, k.stg with
 | some u, .nm id [], some q => (match nth s.heap id with
  | some (.mapo u' es) => (match Zd (.slice (.pair .str u)) (.slice (.pair .str u')) es with
   | some es => .ok s (match b with
    | true => .tup [.val u (Option.getD (mget q es) u.d), .val .bool (Option.isSome (mget q es))]
    | false => .val u (Option.getD (mget q es) u.d))
   | none => .bad)
  | _ => .bad)
 | some u, .val u' es, some q => (match Zd (.mp u) u' es with
  | some es => .ok s (match b with
   | true => .tup [.val u (Option.getD (mget q es) u.d), .val .bool (Option.isSome (mget q es))]
   | false => .val u (Option.getD (mget q es) u.d))
  | none => .bad)
 | _, _, _ => .bad
def Zgf (C : Cx) (s : TSt) (t : Nat) (x : SV) : R2 := match Zf8 C t, x with
 | some u, .val u' es => (match Zd (.mp u) u' es with
  | some es => .ok (s.push (.iter u es)) (.nm s.heap.length [])
  | none => .bad)
 | _, _ => .bad
def Z60 (C : Cx) (s : TSt) (t : Nat) (x k v : SV) : R2 := match Zf8 C t, x, k.stg with
 | some u, .nm id [], some q => (match nth s.heap id with
  | some (.mapo u' es) => (match Zd (.slice (.pair .str u)) (.slice (.pair .str u')) es, asT [] u v with
   | some es, some y => .ok ⟨s.env, setH s.heap id (.mapo u (mset q y es))⟩ .any
   | _, _ => .bad)
  | _ => .bad)
 | _, _, _ => .bad
def of1 (s : TSt) : R1 → R2
 | .bad => .bad
 | .ok x => .ok s x
 | .cond c x => .cond c s x
def nilT (C : Cx) (s : TSt) (op : BinOp) (t : Nat) (y z : SV) : Option R2 := match C.T t, z, eqOp op with
 | some ⟨.slice _, _, _, _⟩, .cst (.slice none 0 0), some b => (match y with
  | .val (.slice u) xs => some (.nq (¬ xs = ([] : List u.den)) b)
  | .own id sz => (match nth s.heap id with
   | some (.row _ u xs) => some (.nq (¬ xs = []) b)
   | _ => some .bad)
  | .cut id sz off len => some (.nq (len ≠ 0) b)
  | _ => some .bad)
 | _, _, _ => none
def eqI (a b : Int) : Bool := a == b
def eqO (a b : Bool) : Bool := a == b
def eqS (a b : ByteArray) : Bool := a == b
def Zhw (T : Tab) (ft : Nat) (x y : SV) : Option Bool := match T ft with
 | some ⟨.int _, 1, _, _⟩ => (match x.num, y.num with
  | some (k, a), some (k', b) => if k = k' then some (eqI a b) else none
  | _, _ => none)
 | some ⟨.bool, 1, _, _⟩ => (match x.boo, y.boo with
  | some a, some b => some (eqO a b)
  | _, _ => none)
 | some ⟨.str, 1, _, _⟩ => (match x.stg, y.stg with
  | some a, some b => some (eqS a b)
  | _, _ => none)
 | _ => none
def Z5k (T : Tab) : List (Nat × Nat) → List SV → List SV → Option Bool
 | [], _, _ => some true
 | (off, ft) :: r, xs, ys => (match nth xs off, nth ys off with
  | some x, some y => (match Zhw T ft x y, Z5k T r xs ys with
   | some p, some q => some (p && q)
   | _, _ => none)
  | _, _ => none)
def aggS : SV → Option (List SV)
 | .agg cs => some cs
 | .val t x => (match t.isAgg with | true => some (partsT t x) | false => none)
 | _ => none
def eqsT (C : Cx) (s : TSt) (op : BinOp) (t : Nat) (x y : SV) : Option R2 := match C.T t, aggS x, aggS y, eqOp op with
 | some ⟨.struct fs, _, _, _⟩, some xs, some ys, some b => (match Z5k C.T fs xs ys, memN C.EQ t with
  | some q, true => some (.ok s (.val .bool (match b with | true => !q | false => q)))
  | _, _ => some .bad)
 | _, _, _, _ => none
def sameOp : Operand → Operand → Bool
 | .tmp i, .tmp j => decide (i = j)
 | .const (.int k n), .const (.int k' n') => decide (k = k') && decide (n = n')
 | _, _ => false
def inFZ (C : Cx) : Option Nat → Bool
 | some d => memN C.FZ d
 | none => false
def capT (C : Cx) (s : TSt) (t : Nat) (x : SV) : R2 := match C.T t, x with
 | some ⟨.slice _, _, _, _⟩, .cst (.slice none 0 0) => .ok s (.cst (.int .i64 0))
 | _, _ => .bad
def Zb3 (C : Cx) (s : TSt) (t : Nat) (lo hi : Option SV) : R2 := match Z6h lo, Z6h hi, C.T t with
 | some lo, some hi, some ⟨.slice e, _, _, _⟩ => (match C.T e with
  | some _ => (match lo, hi with
   | none, none => .ok s (.cst (.slice none 0 0))
   | some l, none => .cond (0 ≤ l ∧ l ≤ 0) s (.cst (.slice none 0 0))
   | none, some h => .cond (0 ≤ h ∧ h ≤ 0) s (.cst (.slice none 0 0))
   | some l, some h => .cond (0 ≤ l ∧ l ≤ h ∧ h ≤ 0) s (.cst (.slice none 0 0)))
  | none => .bad)
 | _, _, _ => .bad
def Z9c (C : Cx) (s : TSt) (fop : Operand) (args : List Operand) : Option (Nat × Nat × SFn) := match s.ev fop, args with
 | .fn f [], [y, z] => (match s.ev y, s.ev z with
  | .own id sz, .fn g [] => (match C.SO f g, decide (g = 1000000) with
   | some sf, false => some (id, sz, sf)
   | _, _ => none)
  | _, _ => none)
 | .fn f [], [y] => (match s.ev y with
  | .own id sz => (match C.SO f 1000000 with
   | some sf => some (id, sz, sf)
   | none => none)
  | _ => none)
 | _, _ => none
def Ziu (C : Cx) (s : TSt) (dst : Option Nat) (id sz : Nat) (sf : SFn) : R2 := match nth s.heap id with
 | some (.row e u xs) => (match Zd (.slice sf.t) (.slice u) xs with
  | some xs => if sz = sf.t.size then (match sf.cut, dst with
   | none, _ => .cond (Option.isSome (sf.run xs) = true) ⟨s.env, setH s.heap id (.row e sf.t (Option.getD (sf.run xs) []))⟩ .any
   | some c, some _ => if C.m ≤ id then .cond (Option.isSome (sf.run xs) = true) (TSt.subAll ⟨s.env, setH s.heap id (.row e sf.t (Option.getD (sf.run xs) []))⟩ (Zk id) id (.row e sf.t (List.take (c xs) (Option.getD (sf.run xs) [])))) (.own id sf.t.size) else .bad
   | some _, none => .bad) else .bad
  | none => .bad)
 | _ => .bad
def Z7t (C : Cx) (s : TSt) (t id sz : Nat) : R2 := match C.T t, nth s.heap id with
 | some ⟨.slice e, _, _, _⟩, some (.row _ u xs) => (match C.T e, Zd (.slice .byte) (.slice u) xs with
  | some ⟨.int .u8, _, _, _⟩, some xs => if sz = 1 then .cond (0 < List.length xs) (s.subAll (Zk id) id .dead) (.val (.slice .byte) xs) else .bad
  | _, _ => .bad)
 | _, _ => .bad
def Z4g (C : Cx) (t t' : Nat) (x : SV) : Option SV := match C.T t, C.T t', x.stg with
 | some ⟨.str, _, _, _⟩, some ⟨.slice e, _, _, _⟩, some b => (match C.T e with
  | some ⟨.int .u8, _, _, _⟩ => some (.val (.slice .byte) b.data.toList)
  | _ => none)
 | _, _, _ => none
def insL {α : Type} (xs : List α) (k : Nat) (x : α) : List α := List.take k xs ++ x :: List.drop k xs
def delL {α : Type} (xs : List α) (k : Nat) : List α := List.take k xs ++ List.drop (k + 1) xs
def insT (C : Cx) (s : TSt) (e : Nat) (y i z : SV) : R2 := match C.T e, i.num, z with
 | some ti, some (.i64, k), .own id2 sz2 => (match nth s.heap id2, y with
  | some (.row e2 u2 [x2]), .own id sz => (match nth s.heap id with
   | some (.row e1 u xs) => (match Zd u u2 x2 with
    | some x => if sz = u.size ∧ sz2 = u.size ∧ u2.size = u.size ∧ e1 = e ∧ e2 = e ∧ ti.size = u.size ∧ id ≠ id2 ∧ C.m ≤ id then
      .cond (0 ≤ k ∧ k ≤ (List.length xs : Int) ∧ (List.length xs + 1) * ti.bytes ≤ 140737488355328) (s.subAll (Zk id) id (.row e u (insL xs k.toNat x))) (.own id u.size) else .bad
    | none => .bad)
   | _ => .bad)
  | some (.row e2 u2 [x2]), .nm id [0] => (match nth s.heap id with
   | some (.lin e1 ei t none none xs) => (match Zd t.nilLast u2 x2, t.inn with
    | some x, some _ => if sz2 = t.size ∧ u2.size = t.size ∧ e1 = e ∧ e2 = e ∧ ti.size = t.size ∧ C.m ≤ id then
      .cond (0 ≤ k ∧ k ≤ (List.length xs : Int) ∧ (List.length xs + 1) * ti.bytes ≤ 140737488355328) (s.subAll (Zk id) id (.lin e ei t none none (insL xs k.toNat (fillNil t x)))) (.nm id [0]) else .bad
    | _, _ => .bad)
   | _ => .bad)
  | _, _ => .bad)
 | _, _, _ => .bad
def Zd8 (env : List (Nat × SV)) (id : Nat) : List (Nat × SV) → Option Nat
 | [] => none
 | (d, _) :: r => (match tget env d with
  | .nm id' [1, _] => (match decide (id' = id) with | true => some d | false => Zd8 env id r)
  | _ => Zd8 env id r)
def delT1 (C : Cx) (s : TSt) (e : Nat) (y i z : SV) : R2 := match C.T e, i.num, z.num, y with
 | some ti, some (.i64, k), some (.i64, k2), .nm id [0] => (match nth s.heap id with
  | some (.lin e1 ei t none none xs) => if e1 = e ∧ ti.size = t.size ∧ C.m ≤ id then
    .cond (0 ≤ k ∧ k < (List.length xs : Int) ∧ k2 = k + 1) (s.subAll (Zk id) id (.lin e ei t none none (delL xs k.toNat))) (.nm id [0]) else .bad
  | some (.lin e1 ei t none (some q) xs) => if e1 = e ∧ ti.size = t.size ∧ C.m ≤ id then
    .cond (q < List.length xs ∧ k = (q : Int) ∧ k2 = (q : Int) + 1) (s.subAll (Zk id) id (.lin e ei t none none (delL xs q))) (.nm id [0]) else .bad
  | _ => .bad)
 | _, _, _, _ => .bad
def delT (C : Cx) (s : TSt) (fop : Operand) (f e : Nat) (y i z : Operand) : R2 := match s.ev y with
 | .nm id [0] => (match nth s.heap id, Zd8 s.env id s.env with
  | some (.lin e1 ei t none none xs), some d => (match tget s.env d with
   | .nm id' [1, q] => (match innT t (List.getD xs q t.d) with
    | some ⟨u, l⟩ => if C.m ≤ id ∧ id' = id then (match (Z10 s d id e1 ei q t u xs l).ev fop with
     | .fn f' [] => if f' = f then condR (q < List.length xs) (delT1 C (Z10 s d id e1 ei q t u xs l) e ((Z10 s d id e1 ei q t u xs l).ev y) ((Z10 s d id e1 ei q t u xs l).ev i) ((Z10 s d id e1 ei q t u xs l).ev z)) else .bad
     | _ => .bad) else .bad
    | none => .bad)
   | _ => .bad)
  | _, _ => delT1 C s e (s.ev y) (s.ev i) (s.ev z))
 | _ => .bad
def Zfw (C : Cx) (s : TSt) (fop : Operand) (args : List Operand) : Option (Nat × Bool × Nat × Operand × Operand × Operand) := match s.ev fop, args with
 | .fn f [], [y, i, z] => (match trGet C.TR f with
  | some (b, e) => some (f, b, e, y, i, z)
  | none => none)
 | _, _ => none
def exT2 (C : Cx) (s : TSt) (o : Oper) : R2 :=
 match o.op with
 | .alloc e => Zeq C s e
 | .box e y => boxT C s e (inFZ C o.dst) (s.ev y)
 | .build t parts => Z81 C s t (parts.toList.map fun q => (q.1, s.ev q.2))
 | .buildSlice t len parts => Z3t C s t len parts.toList
 | .makeSlice t y z => Z4b C s t (sameOp y z) (s.ev y)
 | .store t y z => (match s.ev y with
  | .nm id [2, n, j] => Z76 C s t id n j (s.ev z)
  | _ => Zg1 C s t (inFZ C (Operand.slot y) && Option.isNone o.dst) y z)
 | .makeMap t none => Z6u C s t
 | .lookup t x k b => Z9r C s t (s.ev x) (s.ev k) b
 | .mapUpdate t x k v => Z60 C s t (s.ev x) (s.ev k) (s.ev v)
 | .range t x => Zgf C s t (s.ev x)
 | .pick c p q => (match (s.ev c).boo with | some b => .pick b (s.ev p) (s.ev q) | none => .bad)
 | .call { callee := .builtin .append, args := args, argTypes := ts } => (match args.toList, ts.toList with
  | [y, z], [t, t'] => (match s.ev y with
   | .nm id [1, q] => Z85 C s t t' y z id q
   | y' => appendT C s t t' y' (s.ev z))
  | _, _ => .bad)
 | .call { callee := .value fop, args := args, .. } => (match Z9c C s fop args.toList with
  | some (id, sz, sf) => Ziu C s o.dst id sz sf
  | none => (match Zfw C s fop args.toList with
  | some (_, true, e, y, i, z) => insT C s e (s.ev y) (s.ev i) (s.ev z)
  | some (f, false, e, y, i, z) => delT C s fop f e y i z
  | none => (match Zin C s fop args.toList with
   | some (g, f) => callW C s fop args.toList g f
   | none => Zjz C s fop args.toList)))
 | .call { callee := .builtin .cap, args := args, argTypes := ts } => (match args.toList, ts.toList with
  | [x], [t] => capT C s t (s.ev x)
  | _, _ => .bad)
 | .slice t x lo hi none => (match isNilS (s.ev x) with
  | true => Zb3 C s t (lo.map s.ev) (hi.map s.ev)
  | false => of1 s (exT1 C.T s (.slice t x lo hi none)))
 | .convert t t' x => (match s.ev x, decide (t = t') with
  | .own id sz, true => Z7t C s t id sz
  | _, _ => (match Z4g C t t' (s.ev x) with
   | some y => .ok s y
   | none => of1 s (exT1 C.T s (.convert t t' x))))
 | .binOp op t y z t' => (match nilT C s op t (s.ev y) (s.ev z) with
  | some r => r
  | none => (match eqsT C s op t (s.ev y) (s.ev z) with
   | some r => r
   | none => (match wrapT C op (s.ev y) (s.ev z) with
    | some x => .ok s x
    | none => (match ifcT C op t (s.ev y) z with
     | some x => .ok s x
     | none => of1 s (exT1 C.T s (.binOp op t y z t'))))))
 | op => of1 s (exT1 C.T s op)
end Go.Proofs.YtnehieeplbgaiacDoor.Eng
set_option linter.unusedVariables false
set_option linter.unusedSimpArgs false
namespace Go.Proofs.YtnehieeplbgaiacDoor.Eng
open Go Go.RowKit
section
variable {P : Program} {C : Cx} {X : Ctx} {σ σ' : Nat → Option Blk} {F F' : Nat → Prop} {a : Act} {w w' : World} {s s' : TSt} {o : Oper}
def opT (P : Program) (X : Ctx) (o : Oper) (K : TSt → Prop) (s : TSt) : Prop := opWP P X o (fun s' => ∃ s1, Imp X s' s1.toSt ∧ K s1) s.toSt
theorem opWP.wf {K : St → Prop} (h : s.wf → opWP P X o K s.toSt) : opWP P X o K s.toSt := fun Qc next a w hn hr => h (by obtain ⟨σ, F, hr'⟩ := hr; exact Zap hr') Qc next a w hn hr
theorem StLe.refl (s : St) : StLe s s := ⟨fun i => .refl _, rfl, fun i o o' h1 h2 => by rw [h1] at h2; cases h2; exact .refl _⟩
theorem StLe.put {s s' : St} {x y : AV} (h : StLe s s') (hx : AV.le x y) (d : Option Nat) : StLe (s.put d x) (s'.put d y) := by
 cases d with
 | none => exact h
 | some d =>
  refine ⟨fun i => ?_, h.2.1, h.2.2⟩
  simp only [St.put, envGet]
  split
  ·exact hx
  ·exact h.1 i
theorem StLe.imp {s s' : St} (h : StLe s s') : Imp X s s' := fun a w hr => hr.weak h
theorem opT.of {K : TSt → Prop} {so : St} {xo : AV} {s1 : TSt} {x : SV} (hop : ∀ K' : St → Prop, K' (so.put o.dst xo) → opWP P X o K' s.toSt) (hle : StLe so s1.toSt) (hx : AV.le xo (x.toAV s1.heap)) (hK : K (s1.put o.dst x)) : opT P X o K s :=
 hop _ ⟨_, by rw [TSt.put_ok]; exact (hle.put hx _).imp, hK⟩
theorem opT.from {K : TSt → Prop} (h : Imp X s.toSt s'.toSt) (k : opT P X o K s') : opT P X o K s := opWP.from h k
def Tell2 (P : Program) (X : Ctx) (o : Oper) (s : TSt) : R2 → Prop
 | .bad => True
 | .ok s' x => PureSame s s' ∧ ∀ K : TSt → Prop, K (s'.put o.dst x) → opT P X o K s
 | .cond c s' x => PureSame s s' ∧ (c → ∀ K : TSt → Prop, K (s'.put o.dst x) → opT P X o K s)
 | .call ts r s' => PureSame s s' ∧ ∀ y, r = some y → ∀ K : TSt → Prop, K (s'.put o.dst (Zcv ts y)) → opT P X o K s
 | .callO ts os r s' => PureSame s s' ∧ ∀ y, r = some y → ∀ K : TSt → Prop, K ((s'.pushL (ownObjs ts os y)).put o.dst (Z8e s'.heap.length ts os y)) → opT P X o K s
 | .pick b x y => ∀ K : TSt → Prop, (b = true → K (s.put o.dst x)) → (b = false → K (s.put o.dst y)) → opT P X o K s
 | .callW keep f r s' => PureSame s s' ∧ ∀ y, r = some y → (∀ c ∈ Z4x s'.heap (encS f.outs y []).heap 0 keep, c) → ∀ K : TSt → Prop, K (TSt.put (s'.backL keep (encS f.outs y []).heap) o.dst ((retL (Z2h (encS f.outs y []).env 0 f.nr)).sub (Zag keep s'.heap.length))) → opT P X o K s
 | .nq c b => ∀ K : TSt → Prop, (c → K (s.put o.dst (.val .bool b))) → (¬ c → ∀ b : Bool, K (s.put o.dst (.val .bool b))) → opT P X o K s
def opTG (P : Program) (X : Ctx) (o : Oper) (K : TSt → Prop) (s : TSt) : Prop := opWPG P X o (fun s' => ∃ s1, Imp X s' s1.toSt ∧ K s1) s.toSt
theorem opWPG.from {s s' : St} {K : St → Prop} (h : Imp X s s') (k : opWPG P X o K s') : opWPG P X o K s := fun Qc next a w hn hr => k Qc next a w hn (h a w hr)
theorem opWPG.wf {K : St → Prop} (h : s.wf → opWPG P X o K s.toSt) : opWPG P X o K s.toSt := fun Qc next a w hn hr => h (by obtain ⟨σ, F, hr'⟩ := hr; exact Zap hr') Qc next a w hn hr
theorem opTG.of {K : TSt → Prop} {so : St} {xo : AV} {s1 : TSt} {x : SV} (hop : ∀ K' : St → Prop, K' (so.put o.dst xo) → opWPG P X o K' s.toSt) (hle : StLe so s1.toSt) (hx : AV.le xo (x.toAV s1.heap)) (hK : K (s1.put o.dst x)) : opTG P X o K s :=
 hop _ ⟨_, by rw [TSt.put_ok]; exact (hle.put hx _).imp, hK⟩
theorem opTG.from {K : TSt → Prop} (h : Imp X s.toSt s'.toSt) (k : opTG P X o K s') : opTG P X o K s := opWPG.from h k
def Z5v (P : Program) (X : Ctx) (o : Oper) (s : TSt) : R2 → Prop
 | .call ts r s' => PureSame s s' ∧ ∀ y, r = some y → ∀ K : TSt → Prop, K (s'.put o.dst (Zcv ts y)) → opTG P X o K s
 | .callO ts os r s' => PureSame s s' ∧ ∀ y, r = some y → ∀ K : TSt → Prop, K ((s'.pushL (ownObjs ts os y)).put o.dst (Z8e s'.heap.length ts os y)) → opTG P X o K s
 | .ok s' x => PureSame s s' ∧ ∀ K : TSt → Prop, K (s'.put o.dst x) → opTG P X o K s
 | .cond c s' x => PureSame s s' ∧ (c → ∀ K : TSt → Prop, K (s'.put o.dst x) → opTG P X o K s)
 | .bad => True
 | _ => False
theorem Tell2.ofC {r : R2} (h : Z5v P X o s r) : Tell2 P X o s r := by
 cases r with
 | call ts r s' => exact ⟨h.1, fun y hy K hK => (h.2 y hy K hK).wp⟩
 | callO ts os r s' => exact ⟨h.1, fun y hy K hK => (h.2 y hy K hK).wp⟩
 | ok s' x => exact ⟨h.1, fun K hK => (h.2 K hK).wp⟩
 | cond c s' x => exact ⟨h.1, fun hc K hK => (h.2 hc K hK).wp⟩
 | bad => trivial
 | _ => exact h.elim
theorem Zbj (hT : Zh P C.T) (hd : dOK X.n o.dst) {r : R1} (h : Tell1 s.heap (Zc C.T s.toSt o.op) r) : Tell2 P X o s (of1 s r) := by
 have go : ∀ {x : SV} {c' : Prop} {x' : AV}, Zc C.T s.toSt o.op = some (c', x') → c' → AV.le x' (x.toAV s.heap) → ∀ K : TSt → Prop, K (s.put o.dst x) → opT P X o K s := by
  intro x c' x' he hc hle K hK
  refine opT.of (s1 := s) (x := x) (xo := x') (so := s.toSt) (fun K' hK' => ?_) (.refl _) hle hK
  exact opWP.val (fun σ F a w hr => (Za6 hT hr he hc).imp fun v hv => ⟨hv.1 w (Grow.refl w), hv.2⟩) hd hK'
 cases r with
 | bad => trivial
 | ok x =>
  obtain ⟨c', x', he, hc, hle⟩ := h
  exact ⟨.refl _, go he hc hle⟩
 | cond c x =>
  refine ⟨.refl _, fun hc => ?_⟩
  obtain ⟨c', x', he, hc, hle⟩ := h hc
  exact go he hc hle
theorem Z6f (hw : s.wf) {ob : TObj} {oa : AObj} (hob : ∀ e cs, ob = .box e cs → SV.idsLtL s.heap.length cs) (hoa : ObjLe oa (ob.toObj s.heap)) : StLe { s.toSt with heap := s.toSt.heap ++ [oa] } (s.push ob).toSt := by
 obtain ⟨h1, h2⟩ := Z99 hw ob hob
 refine ⟨fun i => ?_, by simp [TSt.push, h1], fun i o o' ho ho' => ?_⟩
 ·show AV.le _ (envGet (TSt.toSt ⟨s.env, s.heap ++ [ob]⟩).env i)
  rw [h2]; exact .refl _
 ·simp only [TSt.push, h1] at ho'
  by_cases hi : i < s.toSt.heap.length
  ·simp only [List.getElem?_append_left hi] at ho ho'
   rw [ho] at ho'; cases ho'; exact .refl _
  ·simp only [List.getElem?_append_right (Nat.le_of_not_lt hi)] at ho ho'
   cases hk : i - s.toSt.heap.length with
   | zero => rw [hk] at ho ho'; simp at ho ho'; subst ho ho'; exact hoa
   | succ k => rw [hk] at ho; simp at ho
theorem Zx (ob : TObj) : PureSame s (s.push ob) := .of _ _ rfl
theorem Z91 {v : Value} (h : v.oneCell' = true) : Z3v v = .v v := by cases v <;> first | rfl | (simp [Value.oneCell'] at h)
theorem Z64 {n : Nat} : ∀ (l : List Value), SV.idsLtL n (l.map .cst)
 | [] => trivial
 | v :: r => ⟨trivial, Z64 r⟩
theorem Z57 {h : List TObj} {l : List Value} (hl : l.all Value.oneCell' = true) : SV.toAVL h (l.map .cst) = l.map .v := by
 rw [SV.toAVL_eq, List.map_map]
 refine List.map_congr_left fun v hv => ?_
 exact Z91 (List.all_eq_true.1 hl v hv)
theorem Zal (hT : Zh P C.T) (hd : dOK X.n o.dst) {e : Nat} (ho : o.op = .alloc e) : Z5v P X o s (Zeq C s e) := by
 unfold Zeq
 split
 ·rename_i i hi
  refine ⟨Zx _, fun K hK => opWPG.wf fun hw => ?_⟩
  have hlen : s.toSt.heap.length = s.heap.length := by simp [TSt.toSt]
  refine opTG.of (fun K' hK' => Zgn ho hT hi hd hK') (Z6f hw (ob := .box e (i.zero.cells.toList.map .cst)) (fun e' cs h => by cases h; exact Z64 _) ?_) ?_ hK
  ·exact ⟨rfl, Z7i (Z57 (hT _ _ hi).one).symm⟩
  ·rw [hlen]; exact .refl _
 ·trivial
theorem Z2d {h : List TObj} : ∀ (t : Ty) (x : t.den), SV.toAVL h (partsT t x) = t.cells x
 | .pair a b, x => by
  have h1 := Z2d (h := h) a x.1
  have h2 := Z2d (h := h) b x.2
  rw [SV.toAVL_eq] at h1 h2 ⊢
  simp only [partsT, List.map_append, h1, h2, Ty.cells]
 | .one t, x => Z2d t x
 | .ptr t, none => rfl
 | .ptr t, some x => rfl
 | .nilS, _ => rfl
 | .nilI, _ => rfl
 | .adr, _ => rfl
 | .mp _, _ => rfl
 | .mq _, _ => rfl
 | .fnc _, _ => rfl
 | .clo f c, x => by simp only [partsT, SV.toAVL, SV.toAV, Ty.cells]; rw [Z2d c x]
 | .ref _, _ => rfl
 | .int _, _ | .byte, _ | .bool, _ | .str, _ | .slice _, _ => rfl
theorem Zjl {n : Nat} {l : List SV} (h : ∀ y ∈ l, y.idsLt n) : SV.idsLtL n l := Z84 fun j x hx => h x (List.mem_of_getElem? hx)
theorem Z32 {n : Nat} : ∀ (t : Ty) (x : t.den), ∀ y ∈ partsT t x, y.idsLt n
 | .pair a b, x => fun y hy => by
  rcases List.mem_append.1 hy with h | h
  ·exact Z32 a _ y h
  ·exact Z32 b _ y h
 | .one t, x => Z32 t x
 | .ptr t, x => fun y hy => by simp [partsT] at hy; subst hy; trivial
 | .nilS, x => fun y hy => by simp [partsT] at hy; subst hy; trivial
 | .nilI, x => fun y hy => by simp [partsT] at hy; subst hy; trivial
 | .adr, x => fun y hy => by simp [partsT] at hy; subst hy; trivial
 | .mp _, x => fun y hy => by simp [partsT] at hy; subst hy; trivial
 | .mq _, x => fun y hy => by simp [partsT] at hy; subst hy; trivial
 | .fnc _, x => fun y hy => by simp [partsT] at hy; subst hy; trivial
 | .clo _ c, x => fun y hy => by simp [partsT] at hy; subst hy; exact Zjl (Z32 c x)
 | .ref _, x => fun y hy => by simp [partsT] at hy; subst hy; trivial
 | .int _, _ | .byte, _ | .bool, _ | .str, _ | .slice _, _ => fun y hy => by simp [partsT] at hy; subst hy; trivial
theorem Zfc {n : Nat} {l : List SV} (h : ∀ y ∈ l, y.idsLt n) : SV.idsLtL n l := Z84 fun j x hx => h x (List.mem_of_getElem? hx)
theorem Z7z {h : List TObj} {x : SV} {xs : List SV} (hx : cellsS x = some xs) : (x.toAV h).full = true ∧ Eng.cellsOf (x.toAV h) = SV.toAVL h xs ∧ (∀ n, x.idsLt n → SV.idsLtL n xs) := by
 unfold cellsS at hx
 split at hx
 ·rename_i t y
  cases hx
  exact ⟨t.av_full y, by rw [Z2d]; exact t.cellsOf_av y, fun n _ => Zfc (Z32 t y)⟩
 ·cases hx; exact ⟨rfl, rfl, fun n h => h⟩
 ·rename_i v
  split at hx
  ·rename_i vs
   split at hx
   ·rename_i hall
    cases hx
    have e : SV.toAV h (.cst (.agg vs)) = .agg (vs.toList.map .v) := by simp only [SV.toAV, Z3v, hall, if_true]
    rw [e]
    exact ⟨rfl, (Z57 hall).symm, fun n _ => Z64 _⟩
   ·cases hx
  ·rename_i hne
   split at hx
   ·rename_i hone
    cases hx
    have e : SV.toAV h (.cst v) = .v v := Z91 hone
    rw [e]
    exact ⟨hone, by simp only [Eng.cellsOf, SV.toAVL]; rw [e], fun n _ => ⟨trivial, trivial⟩⟩
   ·cases hx
 ·cases hx; exact ⟨rfl, rfl, fun n _ => ⟨trivial, trivial⟩⟩
 ·cases hx; exact ⟨rfl, rfl, fun n h => ⟨h, trivial⟩⟩
 ·cases hx; exact ⟨rfl, rfl, fun n h => ⟨h, trivial⟩⟩
 ·cases hx; exact ⟨rfl, rfl, fun n h => ⟨h, trivial⟩⟩
 ·cases hx; exact ⟨rfl, rfl, fun n h => ⟨h, trivial⟩⟩
 ·cases hx; exact ⟨rfl, rfl, fun n h => ⟨h, trivial⟩⟩
 ·cases hx
 ·cases hx
theorem wf_ev (hw : s.wf) (y : Operand) : (s.ev y).idsLt s.heap.length := by
 cases y with
 | tmp t => exact hw.1 t
 | _ => trivial
theorem Zj9 {s : St} {e : Nat} {y : Operand} (ho : o.op = .box e y) (hf : (s.ev y).full = true) (hfl : (Eng.cellsOf (s.ev y)).all AV.flat = true) (hd : dOK X.n o.dst) {K : St → Prop}
  (hK : K (St.put s o.dst (.rp (Eng.cellsOf (s.ev y))))) : opWPG P X o K s := by
 refine opWPG.mem (fun σ F a w hr => ?_) hd
 obtain ⟨h1, h2, h3⟩ := RepV.cells (hr.ev y) hf
 let F' : Nat → Prop := fun b => F b ∨ b = w.heap.size
 have hr1 := hr.ext (Ext.alloc w (.cells (a.eval y).cells e (0, 0)))
 have hF : ∀ b, F b → (w.alloc (.cells (a.eval y).cells e (0, 0))).heap[b]? = (w.alloc (.cells (a.eval y).cells e (0, 0))).heap[b]? := fun _ _ => rfl
 have hnew : ∀ id g, hasB σ id g → g ≠ w.heap.size := fun id g h e => by have := (hr.heap.lt _ _ h).1; omega
 refine ⟨.pointer (some ⟨w.heap.size, 0, none⟩), w.alloc (.cells (a.eval y).cells e (0, 0)), σ, F', s, _, ?_, Grow.alloc w _, ?_, ?_, hK⟩
 ·simp [execOp, ho, Instr.box, newVar, newRow, newObj, Sem.run]
 ·refine ⟨hr.defers.keep fun D hD hn => ⟨(Ext.alloc w (.cells (a.eval y).cells e (0, 0))).block D (Z1n hD) (fun h => h), fun h => h.elim hn (fun h => by have := Z1n hD; omega)⟩, hr1.size, fun i => (hr1.env i).mono (fun _ h => .inl h) hF, ⟨fun id ob hob => ?_, hr1.heap.out, hr1.heap.inj, fun id g h => ⟨(hr1.heap.lt _ _ h).1, fun h' => ?_⟩, fun b hb => ?_, hr1.heap.lay.mono (fun _ h => .inl h) hF⟩, hr1.keep, hr1.own, fun b hb => ?_, hr1.stab, hr1.hm⟩
  ·have := (hr1.heap.obj id ob hob).move (f := _root_.id) (σ' := σ) (F' := F') (fun _ h => h) (fun h => h) (fun x y h => h.mono (fun _ h => .inl h) hF) (fun b hb => ⟨.inl hb, hF b hb⟩) (fun _ _ => rfl) (fun x y h => by rw [AV.sub_id]; exact h.mono (fun _ h => .inl h) hF)
   rwa [AObj.sub_id] at this
  ·rcases h' with h' | h'
   ·exact (hr1.heap.lt _ _ h).2 h'
   ·exact hnew _ _ h h'
  ·rcases hb with hb | hb
   ·exact hr1.heap.flt b hb
   ·subst hb; simp
  ·rcases hb with hb | hb
   ·exact hr1.fnew b hb
   ·subst hb; exact .inr (.inr hr.keep.size)
 ·have hcell : ∀ j : Nat, (w.alloc (.cells (a.eval y).cells e (0, 0))).cell? ⟨w.heap.size, j, none⟩ = (a.eval y).cells[j]? := fun j => by
   have := heap_alloc_new w (.cells (a.eval y).cells e (0, 0))
   simp only [World.cell?, this, Option.isSome_none, Bool.false_eq_true, if_false]
  refine .f _ _ (.rp _ ⟨w.heap.size, 0, none⟩ (fun j => ((a.eval y).cells.toList[j]?).getD undef) (.inr rfl) (fun j x hx => ?_) (fun j x hx => ?_))
  ·have hj : j < (a.eval y).cells.toList.length := by rw [h1]; exact (List.getElem?_eq_some_iff.1 hx).1
   simp only [List.getElem?_eq_getElem hj, Option.getD_some]
   refine ⟨?_, h2 _ (List.getElem_mem hj)⟩
   rw [Zl, Nat.zero_add, hcell, ← Array.getElem?_toList, List.getElem?_eq_getElem hj]
  ·have hj : j < (a.eval y).cells.toList.length := by rw [h1]; exact (List.getElem?_eq_some_iff.1 hx).1
   simp only [List.getElem?_eq_getElem hj, Option.getD_some]
   exact ((h3 j x _ hx (List.getElem?_eq_getElem hj)).toF (List.all_eq_true.1 hfl x (List.mem_of_getElem? hx))).mono (fun _ h => .inl h) (fun b hb => Below.heap_alloc w _ b (hr.heap.flt b hb))
theorem mapLenB (l : List (Ty.den .byte)) : (List.map (Ty.cells .byte) l).length = l.length := List.length_map ..
theorem Z9l {T : Tab} {s : St} {t t' e : Nat} {x : Operand} (hT : Zh P T) (ho : o.op = .convert t t' x) {m p : Nat} {z : Value} (ht : T t = some ⟨.str, m, p, z⟩) {m' p' : Nat} {z' : Value} (ht' : T t' = some ⟨.slice e, m', p', z'⟩) {m2 p2 : Nat} {z2 : Value} (he : T e = some ⟨.int .u8, m2, p2, z2⟩)
  {b : ByteArray} (hx : s.ev x = .v (.string b)) (hd : dOK X.n o.dst) {K : St → Prop} (hK : K (St.put s o.dst (.ro 1 (List.map (Ty.cells .byte) b.data.toList)))) : opWPG P X o K s := by
 have hu : P.underlying t = some .string := (hT _ _ ht).kind
 have hu' : P.underlying t' = some (.slice e) := (hT _ _ ht').kind
 have hue : P.underlying e = some (.int .u8) := (hT _ _ he).kind
 refine opWPG.mem (fun σ F a w hr => ?_) hd
 have hv : a.eval x = .string b := RepV.val (hx ▸ hr.ev x)
 let w' := Lib.bytesWorld w e b
 have hold : ∀ j, j < w.heap.size → w'.heap[j]? = w.heap[j]? := fun j hj => Lib.bytesWorld_at_old w e b j hj
 have hE : Ext w w' := ⟨rfl, rfl, rfl, by have := Lib.bytesWorld_size w e b; simp only [w', this]; omega, fun g hg _ => hold g hg⟩
 let F' : Nat → Prop := fun g => F g ∨ g = w.heap.size
 have hr1 := hr.ext hE
 have hF : ∀ g, F g → w'.heap[g]? = w'.heap[g]? := fun _ _ => rfl
 have hnew : ∀ id g, hasB σ id g → g ≠ w.heap.size := fun id g h e => by have := (hr.heap.lt _ _ h).1; omega
 refine ⟨.slice (some ⟨w.heap.size, 0, none⟩) b.size (grownCap w b.size 0 e), w', σ, F', s, _, ?_, ⟨hE.size, fun g hg => hold g hg⟩, ?_, ?_, hK⟩
 ·have h := Lib.run_convert_string_bytes (P := P) w t t' e b hu hu' hue
  simp [execOp, ho, hv, h, w']
 ·refine ⟨hr.defers.keep fun D hD hn => ⟨hold D (Z1n hD), fun h => h.elim hn (fun h => by have := Z1n hD; omega)⟩, hr1.size, fun i => (hr1.env i).mono (fun _ h => .inl h) hF, ⟨fun id ob hob => ?_, hr1.heap.out, hr1.heap.inj, fun id g h => ⟨(hr1.heap.lt _ _ h).1, fun h' => ?_⟩, fun g hb => ?_, hr1.heap.lay.mono (fun _ h => .inl h) hF⟩, hr1.keep, hr1.own, fun g hb => ?_, hr1.stab, hr1.hm⟩
  ·have := (hr1.heap.obj id ob hob).move (f := _root_.id) (σ' := σ) (F' := F') (fun _ h => h) (fun h => h) (fun x y h => h.mono (fun _ h => .inl h) hF) (fun b hb => ⟨.inl hb, hF b hb⟩) (fun _ _ => rfl) (fun x y h => by rw [AV.sub_id]; exact h.mono (fun _ h => .inl h) hF)
   rwa [AObj.sub_id] at this
  ·rcases h' with h' | h'
   ·exact (hr1.heap.lt _ _ h).2 h'
   ·exact hnew _ _ h h'
  ·rcases hb with hb | hb
   ·exact hr1.heap.flt g hb
   ·subst hb; have := Lib.bytesWorld_size w e b; simp only [w', this]; omega
  ·rcases hb with hb | hb
   ·exact hr1.fnew g hb
   ·subst hb; exact .inr (.inr hr.keep.size)
 ·have hlen : b.data.toList.length = b.size := rfl
  have hget : ∀ (i : Nat) (cs : List AV) (j : Nat) (y : AV), (List.map (Ty.cells .byte) b.data.toList)[i]? = some cs → cs[j]? = some y → i < b.size ∧ j = 0 ∧ y = .v (.int .u8 (((b.data.toList.getD i 0).toNat : Nat) : Int)) := by
   intro i cs j y hi hj
   have h2 := (List.getElem?_map (f := Ty.cells .byte) (l := (b.data.toList : List (Ty.den .byte))) (i := i)).symm.trans hi
   obtain ⟨c, hc, rfl⟩ := Option.map_eq_some_iff.1 h2
   have hc : b.data.toList[i]? = some c := hc
   have hi := (List.getElem?_eq_some_iff.1 hc).1
   have hj0 : j = 0 := by
    have := (List.getElem?_eq_some_iff.1 hj).1
    simp [Ty.cells] at this
    exact this
   subst hj0
   simp [Ty.cells] at hj
   subst hj
   refine ⟨by omega, rfl, ?_⟩
   simp [List.getD, hc]; rfl
  refine .f _ _ (.ro 1 b.size _ _ ⟨w.heap.size, 0, none⟩ (fun i _ => .int .u8 (((b.data.toList.getD i 0).toNat : Nat) : Int)) ((mapLenB b.data.toList).trans hlen) (grownCap_ge w b.size 0 e) (.inr rfl) (fun cs hcs => ?_) (fun i cs j y hi hj => ?_) (fun i cs j y hi hj => ?_))
  ·obtain ⟨c, _, rfl⟩ := List.mem_map.1 hcs
   rfl
  ·obtain ⟨h1, h2, h3⟩ := hget i cs j y hi hj
   subst h2
   refine ⟨?_, rfl⟩
   rw [Zl, Nat.zero_add, Nat.mul_one, Nat.add_zero]
   exact Lib.bytesWorld_cell w e b i h1
  ·obtain ⟨h1, h2, h3⟩ := hget i cs j y hi hj
   rw [h3]
   exact .v _
end
end Go.Proofs.YtnehieeplbgaiacDoor.Eng
set_option linter.unusedVariables false
set_option linter.unusedSimpArgs false
namespace Go.Proofs.YtnehieeplbgaiacDoor.Eng
open Go Go.RowKit
section
variable {P : Program} {C : Cx} {X : Ctx} {σ σ' : Nat → Option Blk} {F F' : Nat → Prop} {a : Act} {w w' : World} {s s' : TSt} {o : Oper}
theorem Zaj {h : List TObj} {t : Ty} {x : SV} {y : t.den} (hx : asT [] t x = some y) : AV.le (x.toAV h) (t.av y) := by
 have h1 := Z6n (f := id) (Lends.none _ h) hx
 rwa [AV.sub_id] at h1
theorem Z6w {x : AV} {t : Ty} {y : t.den} (h : AV.le x (t.av y)) : x.full = true ∧ AV.leL (Eng.cellsOf x) (t.cells y) := by
 generalize hz : t.av y = z at h
 have hc := t.cellsOf_av y
 have hfu := t.av_full y
 have one : ∀ {x z : AV}, t.av y = z → x.full = true → Eng.cellsOf x = [x] → Eng.cellsOf z = [z] → AV.le x z → x.full = true ∧ AV.leL (Eng.cellsOf x) (t.cells y) := by
  intro x z hz hf h1 h2 h
  rw [hz] at hc
  refine ⟨hf, ?_⟩
  rw [← hc, h1, h2]
  exact ⟨h, trivial⟩
 cases h with
 | refl => rw [← hz, hc]; exact ⟨hfu, leL_refl _⟩
 | any => rw [hz] at hfu; simp [AV.full, AV.one] at hfu
 | nilro sz a c => exact one hz rfl rfl rfl (.nilro sz a c)
 | nilmp => exact one hz rfl rfl rfl .nilmp
 | agg cs ds hl h =>
  rw [hz] at hc
  refine ⟨rfl, ?_⟩
  rw [← hc]
  exact leL_of_get hl h
 | tup cs ds hl h => rw [hz] at hfu; simp [AV.full, AV.one] at hfu
 | fn f cs ds hl h => exact one hz rfl rfl rfl (.fn f cs ds hl h)
 | rpLe cs ds hl h => exact one hz rfl rfl rfl (.rpLe cs ds hl h)
 | rpTake cs n => exact one hz rfl rfl rfl (.rpTake cs n)
theorem Zi7 (hT : Zh P C.T) (hd : dOK X.n o.dst) {e : Nat} {y : Operand} {ro : Bool} (ho : o.op = .box e y) : Z5v P X o s (boxT C s e ro (s.ev y)) := by
 unfold boxT
 split
 ·split
  ·rename_i t ht
   split
   ·rename_i x hx
    refine ⟨.refl _, fun K hK => ?_⟩
    have h1 := Zaj (h := s.heap) hx
    rw [← TSt.ev_ok] at h1
    obtain ⟨h2, h3⟩ := Z6w h1
    refine opTG.of (s1 := s) (so := s.toSt) (xo := .rp (Eng.cellsOf (s.toSt.ev y))) (x := .rp t x) (fun K' hK' => Zj9 ho h2 (leL_flat h3 (t.cells_flat x)) hd hK') (.refl _) (AV.leRp h3) hK
   ·trivial
  ·trivial
 ·split
  ·rename_i cs hcs
   refine ⟨Zx _, fun K hK => opWPG.wf fun hw => ?_⟩
   have hlen : s.toSt.heap.length = s.heap.length := by simp [TSt.toSt]
   obtain ⟨h1, h2, h3⟩ := Z7z (h := s.heap) hcs
   rw [← TSt.ev_ok] at h1 h2
   refine opTG.of (fun K' hK' => op_boxG ho h1 hd hK') (Z6f hw (ob := .box e cs) (fun e' cs' h => by cases h; exact h3 _ (wf_ev hw y)) ⟨rfl, Z7i h2⟩) ?_ hK
   rw [hlen]; exact .refl _
  ·trivial
theorem Zaw (h : List TObj) (cs xs : List SV) (off : Nat) : SV.toAVL h (putS cs off xs) = putA (SV.toAVL h cs) off (SV.toAVL h xs) := by
 simp only [SV.toAVL_eq, putS, putA, List.map_append, List.map_take, List.map_drop, List.length_map]
theorem Z82 {h : List TObj} {pl : List (Nat × Nat)} : ∀ (ps : List (Nat × SV)) (cs cs' : List SV), Zc9 pl cs ps = some cs' → ∃ c, Z5s pl (SV.toAVL h cs) (ps.map fun q => (q.1, q.2.toAV h)) = some (c, SV.toAVL h cs') ∧ c
 | [], cs, cs', hb => by simp only [Zc9] at hb; cases hb; exact ⟨True, rfl, trivial⟩
 | (i, x) :: r, cs, cs', hb => by
  simp only [Zc9] at hb
  split at hb
  ·rename_i off size xs hp hx
   split at hb
   ·rename_i hc
    obtain ⟨h1, h2, h3⟩ := Z7z (h := h) hx
    obtain ⟨c, h4, h5⟩ := Z82 (h := h) r _ cs' hb
    rw [Zaw, ← h2] at h4
    refine ⟨_, by simp only [List.map_cons, Z5s, ← Z3, hp, h4]; rfl, ?_⟩
    refine ⟨⟨h1, ?_, ?_⟩, h5⟩
    ·rw [h2, Z19]; exact hc.1
    ·rw [Z19]; exact hc.2
   ·cases hb
  ·cases hb
theorem Zaf (hT : Zh P C.T) (hd : dOK X.n o.dst) {t : Nat} {parts : Array (Nat × Operand)} (ho : o.op = .build t parts) : Z5v P X o s (Z81 C s t (parts.toList.map fun q => (q.1, s.ev q.2))) := by
 unfold Z81
 split
 ·rename_i fs m p z ht
  split
  ·rename_i pl hpl
   split
   ·rename_i cs hcs
    refine ⟨.refl _, fun K hK => ?_⟩
    obtain ⟨c, h1, h2⟩ := Z82 (h := s.heap) _ _ _ hcs
    rw [Z57 (hT _ _ ht).one, List.map_map] at h1
    refine opTG.of (s1 := s) (so := s.toSt) (fun K' hK' => Zgm ho hT ht hpl (c := c) (cs := SV.toAVL s.heap cs) ?_ h2 hd hK') (.refl _) (.refl _) hK
    rw [← h1]
    congr 1
    exact List.map_congr_left fun q _ => by simp [TSt.ev_ok]
   ·trivial
  ·trivial
 ·trivial
theorem Zc8 (hT : Zh P C.T) {t : Nat} {parts : Array (Nat × Operand)} (ho : o.op = .build t parts) {s' : TSt} {x : SV} (hb : Z81 C s t (parts.toList.map fun q => (q.1, s.ev q.2)) = .ok s' x) :
  ∀ σ F a w, RepAt X σ F s.toSt a w → ∃ u, (∀ w', (execOp a.eval o).run P w' = .ok (.value u) w') ∧ RepV σ F w (x.toAV s.heap) u := by
 unfold Z81 at hb
 split at hb
 ·rename_i fs m p z ht
  split at hb
  ·rename_i pl hpl
   split at hb
   ·rename_i cs hcs
    cases hb
    obtain ⟨c, h1, h2⟩ := Z82 (h := s.heap) _ _ _ hcs
    rw [Z57 (hT _ _ ht).one, List.map_map] at h1
    refine Z6g ho hT ht hpl (c := c) (cs := SV.toAVL s.heap cs) ?_ h2
    rw [← h1]
    congr 1
    exact List.map_congr_left fun q _ => by simp [TSt.ev_ok]
   ·cases hb
  ·cases hb
 ·cases hb
theorem Z5m {t e : Nat} {i : TI} {u : Ty} (h : Zc2 C t = some (e, i, u)) : (∃ m p z, C.T t = some ⟨.slice e, m, p, z⟩) ∧ C.T e = some i ∧ u.size = i.size ∧ 0 < i.bytes := by
 unfold Zc2 at h
 split at h
 ·rename_i e' m p z ht
  split at h
  ·rename_i i' u' hi hu
   split at h
   ·rename_i hc
    cases h
    exact ⟨⟨m, p, z, ht⟩, hi, hc.1, hc.2⟩
   ·cases h
  ·cases h
 ·cases h
theorem Zic {h : List TObj} {t : Ty} : ∀ (l : List SV) (xs : List t.den), asTs t l = some xs → l.length = xs.length ∧ ∀ (j : Nat) (x : SV) (y : t.den), l[j]? = some x → xs[j]? = some y → AV.le (x.toAV h) (t.av y)
 | [], xs, hx => by simp only [asTs] at hx; cases hx; exact ⟨rfl, fun j x y h => by simp at h⟩
 | x :: r, xs, hx => by
  simp only [asTs] at hx
  split at hx
  ·rename_i y l hy hl
   cases hx
   obtain ⟨h1, h2⟩ := Zic (h := h) r l hl
   refine ⟨by simp [h1], fun j x' y' hj hj' => ?_⟩
   cases j with
   | zero => simp at hj hj'; subst hj hj'; exact Zaj hy
   | succ j => exact h2 j x' y' (by simpa using hj) (by simpa using hj')
  ·cases hx
theorem Z36 (l : List SV) : Imp X s.toSt (frzFor C.TY s l).toSt ∧ PureSame s (frzFor C.TY s l) := Z13 C.TY _ _
theorem nilLast_size : ∀ t : Ty, t.nilLast.size = t.size
 | .slice _ => rfl
 | .one t => nilLast_size t
 | .pair a b => by show a.size + b.nilLast.size = a.size + b.size; rw [nilLast_size b]
 | .int _ | .byte | .bool | .str | .ptr _ | .nilS | .nilI | .adr | .mp _ | .mq _ | .fnc _ | .clo _ _ | .ref _ => rfl
theorem Zey (e : Nat) (u : Ty) (l : List SV) : (rowTy C e u l).size = u.size := by
 unfold rowTy
 split
 ·split
  ·exact nilLast_size u
  ·rfl
 ·rfl
theorem Z3s (hT : Zh P C.T) (hd : dOK X.n o.dst) {t len : Nat} {parts : Array (Nat × Operand)} (ho : o.op = .buildSlice t len parts) : Z5v P X o s (Z3t C s t len parts.toList) := by
 unfold Z3t
 split
 ·rename_i e i u0 he
  obtain ⟨⟨m, p, z, ht⟩, hi, hu0, hb⟩ := Z5m he
  generalize hs1 : frzFor C.TY s (parts.toList.map fun q => s.ev q.2) = s1
  have hfrz := Z36 (X := X) (C := C) (s := s) (parts.toList.map fun q => s.ev q.2)
  rw [hs1] at hfrz
  simp only
  have hu := (Zey (C := C) e u0 (parts.toList.map fun q => s1.ev q.2)).trans hu0
  generalize rowTy C e u0 (parts.toList.map fun q => s1.ev q.2) = u at hu ⊢
  split
  ·rename_i xs hxs
   split
   ·rename_i hc
    refine ⟨hfrz.2.trans (Zx _), fun K hK => opTG.from hfrz.1 (opWPG.wf fun hw => ?_)⟩
    have hlen : s1.toSt.heap.length = s1.heap.length := by simp [TSt.toSt]
    obtain ⟨h1, h2⟩ := Zic (h := s1.heap) _ _ hxs
    rw [List.length_map] at h1
    have hcell : ∀ q ∈ parts.toList, ∃ y : u.den, AV.le (s1.toSt.ev q.2) (u.av y) := fun q hq => by
     obtain ⟨j, hj⟩ := List.getElem?_of_mem hq
     have hjl : j < xs.length := by rw [← h1]; exact (List.getElem?_eq_some_iff.1 hj).1
     exact ⟨xs[j], by rw [TSt.ev_ok]; exact h2 j _ _ (by rw [List.getElem?_map, hj]; rfl) (List.getElem?_eq_getElem hjl)⟩
    have hok : rowOK i.size (parts.toList.map fun q => s1.toSt.ev q.2) := by
     intro x hx
     obtain ⟨q, hq, rfl⟩ := List.mem_map.1 hx
     obtain ⟨y, hy⟩ := hcell q hq
     obtain ⟨h3, h4⟩ := Z6w hy
     exact ⟨h3, by rw [AV.leL_len h4, u.cells_len]; exact hu, leL_flat h4 (u.cells_flat y)⟩
    refine opTG.of (fun K' hK' => Z8a ho hT ht hi hc.1 hok (by rw [← hu]; exact u.size_pos) hc.2 hd hK') (Z6f hw (ob := .row e u xs) (fun e' cs h => by cases h) ⟨rfl, hu.symm, by simp [h1], fun j cs ds hj hj' => ?_⟩) ?_ hK
    ·rw [List.getElem?_map, Option.map_eq_some_iff] at hj hj'
     obtain ⟨q, hq, rfl⟩ := hj
     obtain ⟨y, hy, rfl⟩ := hj'
     refine (Z6w ?_).2
     rw [TSt.ev_ok]
     exact h2 j _ y (by rw [List.getElem?_map, hq]; rfl) hy
    ·have hl : len = xs.length := by
      have := congrArg List.length hc.1
      simp at this
      rw [← h1]; simpa using this.symm
     simp only [SV.toAV]
     rw [Z4 (e := e) (t := u) (xs := xs) (by rw [Z3]; simp [TSt.push]), hlen, ← hl, hu]
     exact .refl _
   ·trivial
  ·trivial
 ·trivial
theorem zeroB_ok : ∀ (t : Ty) (vs : List Value), zeroB t vs = true → AV.leL (vs.map .v) (t.cells t.d)
 | .pair a b, vs, h => by
  simp only [zeroB, Bool.and_eq_true] at h
  have h1 := zeroB_ok a _ h.1
  have h2 := zeroB_ok b _ h.2
  have e : vs = vs.take a.size ++ vs.drop a.size := (List.take_append_drop ..).symm
  rw [e, List.map_append]
  exact leL_append h1 h2
 | .one t, vs, h => zeroB_ok t vs h
 | .int k, vs, h => by
  simp only [zeroB] at h
  split at h
  ·simp only [Bool.and_eq_true, decide_eq_true_eq] at h
   obtain ⟨rfl, rfl⟩ := h
   exact leL_refl _
  ·cases h
 | .byte, vs, h => by
  simp only [zeroB] at h
  split at h
  ·simp only [decide_eq_true_eq] at h
   subst h
   exact leL_refl _
  ·cases h
 | .bool, vs, h => by
  simp only [zeroB] at h
  split at h
  ·rename_i b
   cases b with
   | true => cases h
   | false => exact leL_refl _
  ·cases h
 | .str, vs, h => by
  simp only [zeroB] at h
  split at h
  ·rename_i b
   have hb : b = ByteArray.empty := ByteArray.ext (Array.eq_empty_of_size_eq_zero (of_decide_eq_true h))
   subst hb
   exact leL_refl _
  ·cases h
 | .slice t, vs, h => by
  simp only [zeroB] at h
  split at h
  ·exact ⟨.nilro _ _ _, trivial⟩
  ·cases h
 | .ptr t, vs, h => by
  simp only [zeroB] at h
  split at h
  ·exact leL_refl _
  ·cases h
 | .nilS, vs, h => by cases h
 | .nilI, vs, h => by cases h
 | .adr, vs, h => by cases h
 | .mp _, vs, h => by cases h
 | .mq _, vs, h => by cases h
 | .fnc _, vs, h => by cases h
 | .clo _ _, vs, h => by cases h
 | .ref _, vs, h => by cases h
theorem Zga {y z : Operand} (h : sameOp y z = true) : ∀ s : St, s.ev y = s.ev z := by
 unfold sameOp at h
 split at h
 ·rw [of_decide_eq_true h]; exact fun s => rfl
 ·simp only [Bool.and_eq_true, decide_eq_true_eq] at h
  rw [h.1, h.2]; exact fun s => rfl
 ·cases h
theorem Z41 (hT : Zh P C.T) (hd : dOK X.n o.dst) {t : Nat} {y z : Operand} (ho : o.op = .makeSlice t y z) : Z5v P X o s (Z4b C s t (sameOp y z) (s.ev y)) := by
 unfold Z4b
 split
 ·rename_i e i u k q he hn hsame
  obtain ⟨⟨m, p, z', ht⟩, hi, hu, hb⟩ := Z5m he
  split
  ·rename_i hz
   refine ⟨Zx _, fun hc K hK => opWPG.wf fun hw => ?_⟩
   have hlen : s.toSt.heap.length = s.heap.length := by simp [TSt.toSt]
   have hy : s.toSt.ev y = .v (.int k q) := by rw [TSt.ev_ok, Z17 hn]
   refine opTG.of (fun K' hK' => Z9k ho hT ht hi hy ((Zga hsame s.toSt).symm.trans hy) hc.1 hc.2 hb (by rw [← hu]; exact u.size_pos) hd hK') (Z6f hw (ob := .row e u (List.replicate q.toNat u.d)) (fun e' cs h => by cases h) ⟨rfl, hu.symm, by simp, fun j cs ds hj hj' => ?_⟩) ?_ hK
   ·rw [List.getElem?_replicate] at hj
    rw [List.map_replicate, List.getElem?_replicate] at hj'
    split at hj
    ·rename_i hlt
     rw [if_pos hlt] at hj'
     cases hj; cases hj'
     exact zeroB_ok u _ hz
    ·cases hj
   ·simp only [SV.toAV]
    rw [Z4 (e := e) (t := u) (xs := List.replicate q.toNat u.d) (by rw [Z3]; simp [TSt.push]), hlen, hu, List.length_replicate]
    exact .refl _
  ·trivial
 ·trivial
end
end Go.Proofs.YtnehieeplbgaiacDoor.Eng
set_option linter.unusedVariables false
set_option linter.unusedSimpArgs false
namespace Go.Proofs.YtnehieeplbgaiacDoor.Eng
open Go Go.RowKit
section
variable {P : Program} {C : Cx} {X : Ctx} {σ σ' : Nat → Option Blk} {F F' : Nat → Prop} {a : Act} {w w' : World} {s s' : TSt} {o : Oper}
mutual
theorem Z72 {h h' : List TObj} (hr : ∀ id, rowLen h id = rowLen h' id) : ∀ x : SV, x.toAV h = x.toAV h'
 | .own id sz => by simp only [SV.toAV]; rw [hr]
 | .cut _ _ _ _ => rfl
 | .ptr _ _ _ _ => rfl
 | .agg cs => by simp only [SV.toAV]; rw [Z1q hr cs]
 | .tup cs => by simp only [SV.toAV]; rw [Z1q hr cs]
 | .fn _ cs => by simp only [SV.toAV]; rw [Z1q hr cs]
 | .any | .cst _ | .val _ _ | .rp _ _ | .nm _ _ => rfl
theorem Z1q {h h' : List TObj} (hr : ∀ id, rowLen h id = rowLen h' id) : ∀ l : List SV, SV.toAVL h l = SV.toAVL h' l
 | [] => rfl
 | x :: r => by simp only [SV.toAVL]; rw [Z72 hr x, Z1q hr r]
end
theorem Zex {id : Nat} {ob : TObj} {oa : AObj} (hr : ∀ i, rowLen s.heap i = rowLen (setH s.heap id ob) i) (hob : ObjLe oa (ob.toObj s.heap)) : StLe ⟨s.toSt.env, s.toSt.heap.set id oa⟩ (TSt.toSt ⟨s.env, setH s.heap id ob⟩) := by
 have ho : ∀ q : TObj, q.toObj (setH s.heap id ob) = q.toObj s.heap := fun q => by
  cases q with
  | box e cs => simp only [TObj.toObj]; rw [Z1q hr]
  | _ => rfl
 refine ⟨fun i => ?_, by simp [TSt.toSt, setH_eq], fun i o o' h1 h2 => ?_⟩
 ·simp only [TSt.toSt, Zf]
  rw [Z72 hr]; exact .refl _
 ·simp only [TSt.toSt] at h1 h2
  rw [List.getElem?_map, Option.map_eq_some_iff] at h2
  obtain ⟨q, hq, rfl⟩ := h2
  rw [ho]
  rw [setH_eq] at hq
  by_cases hi : i = id
  ·subst hi
   have hlt : i < s.heap.length := by have := (List.getElem?_eq_some_iff.1 hq).1; simpa using this
   rw [List.getElem?_set_self hlt] at hq
   rw [List.getElem?_set_self (by simpa using hlt)] at h1
   cases hq; cases h1
   exact hob
  ·rw [List.getElem?_set_ne (by omega)] at hq
   rw [List.getElem?_set_ne (by omega), List.getElem?_map, hq, Option.map_some] at h1
   cases h1
   exact .refl _
theorem Z5x {h : List TObj} {id : Nat} {e : TypeId} {cs cs' : List SV} (hq : nth h id = some (.box e cs)) (i : Nat) : rowLen h i = rowLen (setH h id (.box e cs')) i := by
 unfold rowLen
 rw [Z3] at hq
 rw [Z3, Z3, setH_eq]
 by_cases hi : i = id
 ·subst hi
  rw [hq, List.getElem?_set_self (List.getElem?_eq_some_iff.1 hq).1]
 ·rw [List.getElem?_set_ne (by omega)]
theorem Zez {h : List TObj} {id : Nat} {e : TypeId} {u : Ty} {xs xs' : List u.den} (hq : nth h id = some (.row e u xs)) (hl : xs'.length = xs.length) (i : Nat) : rowLen h i = rowLen (setH h id (.row e u xs')) i := by
 unfold rowLen
 rw [Z3] at hq
 rw [Z3, Z3, setH_eq]
 by_cases hi : i = id
 ·subst hi
  rw [hq, List.getElem?_set_self (List.getElem?_eq_some_iff.1 hq).1]
  exact hl.symm
 ·rw [List.getElem?_set_ne (by omega)]
theorem setAt_ok : ∀ (t : Ty) (off : Nat) (agg : Bool) (x : t.den) (u : Ty) (y : u.den) {z : t.den}, setAt t off agg x u y = some z → off + u.size ≤ t.size ∧ t.cells z = putA (t.cells x) off (u.cells y) := by
 have whole : ∀ (t u : Ty) (x : t.den) (y : u.den) {z : t.den}, Zd t u y = some z → 0 + u.size ≤ t.size ∧ t.cells z = putA (t.cells x) 0 (u.cells y) := by
  intro t u x y z h
  obtain ⟨rfl, rfl⟩ := Za h
  refine ⟨by omega, ?_⟩
  simp only [putA, List.take_zero, List.nil_append, Nat.zero_add]
  rw [List.drop_eq_nil_of_le (by rw [Ty.cells_len, Ty.cells_len]; exact Nat.le_refl _), List.append_nil]
 have leaf : ∀ (t : Ty) (off : Nat) (agg : Bool) (x : t.den) (u : Ty) (y : u.den) {z : t.den}, (if off = 0 ∧ agg = false then Zd t u y else none) = some z → off + u.size ≤ t.size ∧ t.cells z = putA (t.cells x) off (u.cells y) := by
  intro t off agg x u y z h
  split at h
  ·rename_i hc
   obtain ⟨rfl, _⟩ := hc
   exact whole t u x y h
  ·cases h
 intro t
 induction t with
 | one t ih =>
  intro off agg x u y z h
  have key : ∀ {α : Type} (c : Prop) [Decidable c] (p q : Option α) (r : α), (if c then p else q) = some r → (c → p = some r) ∧ (¬ c → q = some r) := fun c _ p q r h => by
   split at h
   ·rename_i hc; exact ⟨fun _ => h, fun hn => absurd hc hn⟩
   ·rename_i hc; exact ⟨fun hn => absurd hn hc, fun _ => h⟩
  have h0 := @key t.den (off = 0 ∧ u.size = t.size ∧ agg = true) _ (Zd (.one t) u y) (setAt t off agg x u y) z h
  by_cases hc : off = 0 ∧ u.size = t.size ∧ agg = true
  ·have h9 := h0.1 hc
   obtain ⟨rfl, _, _⟩ := hc
   exact whole (.one t) u x y h9
  ·exact ih _ _ _ _ _ (h0.2 hc)
 | pair a b iha ihb =>
  intro off agg x u y z h
  simp only [setAt] at h
  split at h
  ·rename_i hc
   obtain ⟨rfl, _, _⟩ := hc
   exact whole (.pair a b) u x y h
  ·split at h
   ·rename_i hlt
    split at h
    ·rename_i q hq
     cases h
     obtain ⟨h1, h2⟩ := iha _ _ _ _ _ hq
     refine ⟨by simp only [Ty.size]; omega, ?_⟩
     simp only [Ty.cells, h2, putA]
     rw [List.take_append_of_le_length (by rw [a.cells_len]; omega), List.drop_append_of_le_length (by rw [a.cells_len, u.cells_len]; exact h1)]
     simp only [List.append_assoc]
    ·cases h
   ·rename_i hge
    split at h
    ·rename_i q hq
     cases h
     obtain ⟨h1, h2⟩ := ihb _ _ _ _ _ hq
     refine ⟨by simp only [Ty.size]; omega, ?_⟩
     simp only [Ty.cells, h2, putA]
     have e1 : (a.cells x.1).take off = a.cells x.1 := List.take_of_length_le (by rw [a.cells_len]; omega)
     have e2 : (a.cells x.1).drop (off + (u.cells y).length) = [] := List.drop_eq_nil_of_le (by rw [a.cells_len, u.cells_len]; omega)
     rw [List.take_append, List.drop_append, e1, e2, a.cells_len, u.cells_len]
     simp only [List.append_assoc, List.nil_append]
     rw [show off + u.size - a.size = off - a.size + u.size by omega]
    ·cases h
 | int k => exact fun off agg x u y z h => leaf (.int k) off agg x u y h
 | byte => exact fun off agg x u y z h => leaf .byte off agg x u y h
 | bool => exact fun off agg x u y z h => leaf .bool off agg x u y h
 | str => exact fun off agg x u y z h => leaf .str off agg x u y h
 | slice t _ => exact fun off agg x u y z h => leaf (.slice t) off agg x u y h
 | ptr t _ => exact fun off agg x u y z h => leaf (.ptr t) off agg x u y h
 | nilS => exact fun off agg x u y z h => leaf .nilS off agg x u y h
 | nilI => exact fun off agg x u y z h => leaf .nilI off agg x u y h
 | adr => exact fun off agg x u y z h => leaf .adr off agg x u y h
 | mp t => exact fun off agg x u y z h => leaf (.mp t) off agg x u y h
 | mq t => exact fun off agg x u y z h => leaf (.mq t) off agg x u y h
 | fnc f => exact fun off agg x u y z h => leaf (.fnc f) off agg x u y h
 | clo f c _ => exact fun off agg x u y z h => leaf (.clo f c) off agg x u y h
 | ref t _ => exact fun off agg x u y z h => leaf (.ref t) off agg x u y h
theorem Zit (hT : Zh P C.T) (hd : dOK X.n o.dst) {t : Nat} {y z : Operand} {fz : Bool} (hfz : fz = true → o.dst = none) (ho : o.op = .store t y z) : Tell2 P X o s (Zg1 C s t fz y z) := by
 unfold Zg1
 split
 ·rename_i i id k sz j hi hy
  split
  ·rename_i e cs hq
   split
   ·rename_i xs hxs
    split
    ·rename_i hc
     obtain ⟨rfl, hxl, hjl⟩ := hc
     obtain ⟨h1, h2, _⟩ := Z7z (h := s.heap) hxs
     rw [← TSt.ev_ok] at h1 h2
     have hq' : s.toSt.heap[id]? = some (.box e (SV.toAVL s.heap cs)) := by rw [TSt.heap_get, hq]; rfl
     have hop : ∀ K' : St → Prop, K' (St.put ⟨s.toSt.env, s.toSt.heap.set id (.box e (putA (SV.toAVL s.heap cs) j (Eng.cellsOf (s.toSt.ev z))))⟩ o.dst .any) → opWP P X o K' s.toSt := fun K' hK' =>
      Zbf ho hT hi (by rw [TSt.ev_ok, hy]; rfl) hq' h1 (by rw [h2, Z19]; exact hxl) (by rw [Z19]; exact hjl) hd hK'
     have hle : StLe ⟨s.toSt.env, s.toSt.heap.set id (.box e (putA (SV.toAVL s.heap cs) j (Eng.cellsOf (s.toSt.ev z))))⟩ (TSt.toSt ⟨s.env, setH s.heap id (.box e (putS cs j xs))⟩) :=
      Zex (Z5x hq) ⟨rfl, by rw [Zaw, h2]; exact leL_refl _⟩
     cases fz with
     | false => exact ⟨.of _ _ rfl, fun K hK => opT.of hop hle (.refl _) hK⟩
     | true =>
      have hdn := hfz rfl
      have hfr := Z65 (X := X) C.TY ⟨s.env, setH s.heap id (.box e (putS cs j xs))⟩ id
      refine ⟨hfr.2, fun K hK => ?_⟩
      refine hop _ ⟨_, ?_, hK⟩
      rw [hdn]
      exact hle.imp.trans hfr.1
    ·trivial
   ·trivial
  ·rename_i e0 u0 xs0 hq0
   generalize hs1 : frzFor C.TY s [s.ev z] = s1
   have hfrz := Z36 (X := X) (C := C) (s := s) [s.ev z]
   rw [hs1] at hfrz
   simp only
   split
   ·rename_i id k sz j v hy hv
    split
    ·rename_i e u xs hq
     split
     ·rename_i xs' hxs'
      split
      ·rename_i hsz
       subst hsz
       refine ⟨hfrz.2.trans (.of _ _ rfl), fun hk K hK => opT.from hfrz.1 ?_⟩
       unfold putRow at hxs'
       split at hxs'
       ·rename_i y' hy'
        split at hxs'
        ·rename_i hva
         split at hxs'
         ·rename_i x' hx'
          cases hxs'
          have h1 := Zaj (h := s1.heap) hy'
          rw [← TSt.ev_ok] at h1
          obtain ⟨h2, h3⟩ := Z6w h1
          obtain ⟨h4, h5⟩ := setAt_ok _ _ _ _ _ _ hx'
          have hq' : s1.toSt.heap[id]? = some (.row e u.size (xs.map u.cells)) := by rw [TSt.heap_get, hq]; rfl
          have hlen : (Eng.cellsOf (s1.toSt.ev z)).length = i.size := by rw [AV.leL_len h3, v.cells_len]; exact hva.1
          refine opT.of (s1 := ⟨s1.env, setH s1.heap id (.row e u (xs.set k x'))⟩) (fun K' hK' => Zbd ho hT hi (by rw [TSt.ev_ok, hy]; rfl) hq' (by simpa using hk) h2 (leL_flat h3 (v.cells_flat y')) hlen (by rw [← hva.1]; exact h4) hd hK') (Zex (Zez hq (by simp)) ⟨rfl, rfl, by simp, fun q cs ds hc1 hc2 => ?_⟩) (.refl _) hK
          rw [List.map_set] at hc2
          by_cases hqk : q = k
          ·subst hqk
           rw [List.getElem?_set_self (by simpa using hk)] at hc1 hc2
           cases hc1; cases hc2
           have hg : Z2 (xs.map u.cells) q = u.cells (xs.getD q u.d) := by
            simp [Z2, List.getElem?_map, List.getElem?_eq_getElem hk, List.getD]
           rw [hg, h5]
           unfold putA
           rw [AV.leL_len h3]
           exact leL_append (leL_append (leL_refl _) h3) (leL_refl _)
          ·rw [List.getElem?_set_ne (by omega)] at hc1 hc2
           rw [hc1] at hc2; cases hc2; exact leL_refl _
         ·cases hxs'
        ·cases hxs'
       ·cases hxs'
      ·trivial
     ·trivial
    ·trivial
   ·trivial
  ·trivial
 ·trivial
theorem Zjb {u : Ty} {z : SV} {news : List u.den} (h : newsT s u z = some news) : ∃ c, Z21 s.toSt u.size (z.toAV s.heap) = some (c, news.map u.cells) ∧ c := by
 unfold newsT at h
 split at h
 ·rename_i b hb
  obtain ⟨e, rfl⟩ := Za h
  injection e with e
  subst e
  rw [Z2x hb]
  exact ⟨_, rfl, rfl⟩
 ·rename_i hns
  have hnm : (∀ id k, z ≠ .nm id k) ∧ asT s.heap (.slice u) z = some news := by
   cases z with
   | nm id k => cases h
   | _ => exact ⟨(fun _ _ e => by cases e), h⟩
  clear h
  obtain ⟨hnm, h⟩ := hnm
  unfold asT at h
  have row : ∀ {id : Nat} {xs : List u.den}, Zf1 s.heap id u = some xs → ∃ e, s.toSt.heap[id]? = some (.row e u.size (xs.map u.cells)) ∧ rowLen s.heap id = xs.length := by
   intro id xs hr
   unfold Zf1 at hr
   cases hq : nth s.heap id with
   | none => rw [hq] at hr; exact absurd hr (by simp)
   | some o =>
    rw [hq] at hr
    cases o with
    | row e u' xs' =>
     obtain ⟨e', h2⟩ := Za hr
     injection e' with e'
     subst e'
     subst h2
     exact ⟨e, by rw [TSt.heap_get, hq]; rfl, Z4 hq⟩
    | box e cs => exact absurd hr (by simp)
    | dead => exact absurd hr (by simp)
    | mapo _ _ => exact absurd hr (by simp)
    | iter _ _ => exact absurd hr (by simp)
    | lin _ _ _ _ _ _ => exact absurd hr (by simp)
  split at h
  ·obtain ⟨e, rfl⟩ := Za h
   subst e
   exact ⟨_, rfl, rfl⟩
  ·simp [Ty.isAgg] at h
  ·simp [Ty.isAgg] at h
  ·simp only [Ty.isAgg, asm] at h
   split at h
   ·rename_i u' y hl
    injection hl with h1 h2
    subst h1
    obtain ⟨e, rfl⟩ := Za h
    subst e
    exact ⟨_, rfl, rfl⟩
   ·rename_i hl
    injection hl with h1 h2
    subst h1
    cases h
    exact ⟨_, rfl, trivial⟩
   ·rename_i id sz hl
    injection hl with h1 h2
    subst h1
    split at h
    ·rename_i hd
     obtain rfl := of_decide_eq_true hd
     obtain ⟨e, h3, h4⟩ := row h
     refine ⟨_, by simp only [Z21, SV.toAV, h3]; rw [h4, List.drop_zero, List.take_of_length_le (by simp)], ?_⟩
     simp
    ·cases h
   ·rename_i id sz off len hl
    injection hl with h1 h2
    subst h1
    split at h
    ·rename_i hd
     obtain rfl := of_decide_eq_true hd
     split at h
     ·rename_i xs hr
      cases h
      obtain ⟨e, h3, h4⟩ := row hr
      refine ⟨_, by simp only [Z21, SV.toAV, h3]; rw [List.map_take, List.map_drop], ?_⟩
      simp
     ·cases h
    ·cases h
   ·rename_i id k hl
    injection hl with h1 h2
    exact absurd h1 (hnm id k)
   ·cases h
end
end Go.Proofs.YtnehieeplbgaiacDoor.Eng
