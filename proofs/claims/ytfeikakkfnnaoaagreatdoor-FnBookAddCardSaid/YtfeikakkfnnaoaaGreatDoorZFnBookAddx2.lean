/- Part of the proof of the law FnBookAdd: what it uses of the texts that this session and the kit's print wrote. -/
import Derived.Calls
import Derived.Orders
import Derived.Below
import Derived.Laws.AppendOwn
import Derived.Maps.AppendAt
import Derived.Laws.OwnMore
import Derived.Laws.Sem
import Derived.Laws.Slices
import Derived.Laws.MakeOwn
import Derived.Laws.StructEq
import Derived.Deep.MidRow
import Derived.Laws.Entries
import Derived.Laws.Strings
import Derived.Laws.DeepStrings4
import Derived.Laws.Cover1
import Derived.Laws.Concat
import Derived.WalkLawsBesides
namespace Go.Proofs.YtfeikakkfnnaoaaGreatDoor.V
open Go
set_option linter.unusedVariables false
inductive SV (D : TypeId → Type) : Type where
 | v (x : Value)
 | ro (t : TypeId) (xs : List (D t))
 | nl (t : TypeId)
 | own (i : Nat)
 | ptr (b off : Nat)
 | ep (i ix off : Nat)
 | rp (t : TypeId) (x : D t) (off : Nat)
 | agg (cs : List (SV D))
 | tup (cs : List (SV D))
 | cl (f : FuncId) (cs : List (SV D))
 | rb (cs : List (SV D)) (off : Nat)
 | pb (cs : List (SV D))
 | fr (t : TypeId) (xs : List (D t))
 | gd (j : Nat) (w : Bool) (s : SV D)
 | lr (l : Nat) (t : TypeId) (xs : List (D t))
 | rn (t : TypeId) (xs : List (D t))
 | ct (n : Nat)
 | dead
inductive TK where
 | int (k : IntKind) | bool | str | slice (e : TypeId) | struct (fs : List (Nat × Nat)) | ptr (e : TypeId) | other
structure TI where
 kind : TK
 sz : Nat
 bytes : Nat
structure Lay where
 D : TypeId → Type
 ti : TypeId → TI
 zero : TypeId → List (SV D)
 cell : (t : TypeId) → D t → List (SV D)
 make : (t : TypeId) → List (SV D) → Option (D t)
 zd : (t : TypeId) → D t
 eqt : TypeId → List Nat
 labd : TypeId → Bool
inductive Sh where
 | int (k : IntKind) | bool | str | ro (t : TypeId) | fr (t : TypeId) | lr (t : TypeId) | ct
abbrev ST (D : TypeId → Type) : Sh → Type
 | .int _ => Int
 | .bool => Bool
 | .str => ByteArray
 | .ro t => List (D t)
 | .fr t => List (D t)
 | .lr t => Nat × List (D t)
 | .ct => Nat
abbrev RT (D : TypeId → Type) : List Sh → Type
 | [] => Unit
 | [s] => ST D s
 | s :: r :: l => ST D s × RT D (r :: l)
variable {D : TypeId → Type}
def enc1 : (s : Sh) → ST D s → SV D
 | .int k, n => .v (.int k n)
 | .bool, b => .v (.bool b)
 | .str, s => .v (.string s)
 | .ro t, xs => .ro t xs
 | .fr t, xs => .fr t xs
 | .lr t, x => .lr x.1 t x.2
 | .ct, n => .ct n
def enc : (l : List Sh) → RT D l → List (SV D)
 | [], _ => []
 | [s], x => [enc1 s x]
 | s :: r :: l, (x, y) => enc1 s x :: enc (r :: l) y
def castL {t t' : TypeId} (xs : List (D t)) : Option (List (D t')) := if h : t = t' then some (h ▸ xs) else none
def dec1 : (s : Sh) → SV D → Option (ST D s)
 | .int k, .v (.int k' n) => if k = k' then some n else none
 | .bool, .v (.bool b) => some b
 | .str, .v (.string s) => some s
 | .ro t, .ro t' xs => castL xs
 | .ro t, .fr t' xs => castL xs
 | .fr t, .fr t' xs => castL xs
 | .lr t, .lr l t' xs => match castL (t' := t) xs with
  | some ys => some (l, ys)
  | none => none
 | .ct, .ct n => some n
 | _, _ => none
def dec : (l : List Sh) → List (SV D) → Option (RT D l)
 | [], [] => some ()
 | [s], [x] => dec1 s x
 | s :: r :: l, x :: y => match dec1 s x with
  | some a => match dec (r :: l) y with
   | some b => some (a, b)
   | none => none
  | none => none
 | _, _ => none
def dflt1 : (s : Sh) → ST D s
 | .int _ => (0 : Int)
 | .bool => false
 | .str => ByteArray.empty
 | .ro _ => []
 | .fr _ => []
 | .lr _ => (0, [])
 | .ct => (0 : Nat)
def dflt : (l : List Sh) → RT D l
 | [] => ()
 | [s] => dflt1 s
 | s :: r :: l => (dflt1 s, dflt (r :: l))
structure Sig where
 res : List (List Sh)
 fin : List (List Sh)
 aggs : List Bool
 new : Bool
 ctr : Bool
 nk : List Bool
 mv : List Bool
def Sig.end_ (s : Sig) : List Sh := match s.ctr with
 | true => [.ct]
 | false => []
def Sig.all (s : Sig) : List Sh := s.res.flatten ++ s.fin.flatten ++ s.end_
structure Row (D : TypeId → Type) where
 t : TypeId
 fz : Bool
 xs : List (D t)
structure St (D : TypeId → Type) where
 tmps : List (Nat × SV D)
 boxes : List (Nat × Option (List (SV D)))
 rows : List (Nat × Option (Row D))
 imps : List Nat
 ctr : Option Nat := none
 c0 : Nat := 0
def look {α : Type} : List (Nat × α) → Nat → Option α
 | [], _ => none
 | (k, x) :: r, n => match Nat.beq n k with
  | true => some x
  | false => look r n
def orDead : Option (SV D) → SV D
 | some s => s
 | none => .dead
def St.tmp (st : St D) (n : Nat) : SV D := orDead (look st.tmps n)
def St.box (st : St D) (b : Nat) : Option (List (SV D)) := match look st.boxes b with
 | some o => o
 | none => none
def St.row (st : St D) (i : Nat) : Option (Row D) := match look st.rows i with
 | some o => o
 | none => none
structure Dl (D : TypeId → Type) where
 val : SV D
 boxes : List (Nat × Option (List (SV D))) := []
 rows : List (Nat × Option (Row D)) := []
 ctr : Option Nat := none
def orElse_ {α : Type} : Option α → Option α → Option α
 | some x, _ => some x
 | none, y => y
def St.put (st : St D) (dst : Option Nat) (d : Dl D) : St D :=
 {imps := st.imps, tmps := (match dst with | some n => (n, d.val) :: st.tmps | none => st.tmps), boxes := d.boxes ++ st.boxes, rows := d.rows ++ st.rows, ctr := orElse_ d.ctr st.ctr, c0 := st.c0 }
def chk {ρ : Type} (g c : Bool) (x : Option ρ) : Option ρ := match c || !g with
 | true => x
 | false => none
def svc : Value → SV D
 | .slice none 0 0 => .dead
 | .agg _ => .dead
 | .tuple _ => .dead
 | x => .v x
def rdo (st : St D) : Operand → SV D
 | .tmp n => st.tmp n
 | .const x => svc x
 | .global _ => .dead
 | .func f => .cl f []
abbrev Key := Nat × Nat
def keyEq (k l : Key) : Bool := Nat.beq k.1 l.1 && Nat.beq k.2 l.2
mutual
def ment (k : Key) : SV D → Bool
 | .own j => keyEq k (2, j)
 | .ep j _ _ => keyEq k (2, j)
 | .ptr b _ => keyEq k (1, b)
 | .agg cs => mentL k cs
 | .tup cs => mentL k cs
 | .cl _ cs => mentL k cs
 | .gd j _ s => keyEq k (0, j) || ment k s
 | _ => false
def mentL (k : Key) : List (SV D) → Bool
 | [] => false
 | s :: l => ment k s || mentL k l
end
def mentT (k : Key) : List (Nat × SV D) → Bool
 | [] => false
 | (_, s) :: l => ment k s || mentT k l
def mentC (k : Key) : List (Nat × Option (List (SV D))) → Bool
 | [] => false
 | (_, some cs) :: l => mentL k cs || mentC k l
 | (_, none) :: l => mentC k l
def clean (st : St D) : List Key → Bool
 | [] => true
 | k :: l => !mentT k st.tmps && !mentC k st.boxes && (match k.1 with | 1 => !st.imps.any (Nat.beq k.2) | _ => true) && clean st l
def good (st : St D) : SV D → Bool
 | .v _ | .ro _ _ | .nl _ | .agg _ | .rp _ _ _ | .rb _ _ | .cl _ _ | .lr _ _ _ | .rn _ _ => true
 | .own j => (st.row j).isSome
 | .ptr b _ => (st.box b).isSome
 | _ => false
def cellsOf : SV D → List (SV D)
 | .agg cs => cs
 | s => [s]
def canon : SV D → SV D
 | .nl t => .ro t []
 | s => s
def canonT : Bool → SV D → SV D
 | true, .nl t => .lr 0 t []
 | _, s => canon s
noncomputable def okLe (a b : Int) : Bool := @decide (a ≤ b) (Classical.propDecidable _)
theorem okLe_iff {a b : Int} : okLe a b = true ↔ a ≤ b := by unfold okLe; exact @decide_eq_true_iff _ (Classical.propDecidable _)
noncomputable section
def intOp : BinOp → IntKind → Int → Int → Option (Bool × Value)
 | .add, k, a, b => some (true, .int k (k.wrap (a + b)))
 | .sub, k, a, b => some (true, .int k (k.wrap (a - b)))
 | .mul, k, a, b => some (true, .int k (k.wrap (a * b)))
 | .quo, k, a, b => some (b != 0, .int k (k.wrap (a.tdiv b)))
 | .rem, k, a, b => some (b != 0, .int k (a.tmod b))
 | .and, k, a, b => some (true, .int k (k.wrap (BitVec.ofInt k.bits a &&& BitVec.ofInt k.bits b).toNat))
 | .or, k, a, b => some (true, .int k (k.wrap (BitVec.ofInt k.bits a ||| BitVec.ofInt k.bits b).toNat))
 | .xor, k, a, b => some (true, .int k (k.wrap (BitVec.ofInt k.bits a ^^^ BitVec.ofInt k.bits b).toNat))
 | .andNot, k, a, b => some (true, .int k (k.wrap (BitVec.ofInt k.bits a &&& ~~~ BitVec.ofInt k.bits b).toNat))
 | .eql, _, a, b => some (true, .bool (a == b))
 | .neq, _, a, b => some (true, .bool (a != b))
 | .lss, _, a, b => some (true, .bool (decide (a < b)))
 | .leq, _, a, b => some (true, .bool (decide (a ≤ b)))
 | .gtr, _, a, b => some (true, .bool (decide (a > b)))
 | .geq, _, a, b => some (true, .bool (decide (a ≥ b)))
 | _, _, _, _ => none
def strOp : BinOp → ByteArray → ByteArray → Option (Bool × Value)
 | .add, a, b => some (okLe ((a.size + b.size : Nat) : Int) IntKind.i64.max, .string (a ++ b))
 | .eql, a, b => some (true, .bool (a.toList == b.toList))
 | .neq, a, b => some (true, .bool !(a.toList == b.toList))
 | .lss, a, b => some (true, .bool (Op.bytesLess a.toList b.toList))
 | .leq, a, b => some (true, .bool (Op.bytesLess a.toList b.toList || a.toList == b.toList))
 | .gtr, a, b => some (true, .bool !(Op.bytesLess a.toList b.toList || a.toList == b.toList))
 | .geq, a, b => some (true, .bool !(Op.bytesLess a.toList b.toList))
 | _, _, _ => none
def scal (op : BinOp) : Value → Value → Option (Bool × Value)
 | .int k a, .int k' b => match op with
  | .shl => some (decide (0 ≤ b), .int k (k.wrap (a * 2 ^ min b.toNat k.bits)))
  | .shr => some (decide (0 ≤ b), .int k (a.fdiv (2 ^ min b.toNat k.bits)))
  | _ => if k = k' then intOp op k a b else none
 | .string a, .string b => strOp op a b
 | _, _ => none
def eq1 : Nat → Value → Value → Option Bool
 | 1, .int k a, .int k' b => if k = k' then some (a == b) else none
 | 2, .bool a, .bool b => some (a == b)
 | 3, .string a, .string b => some (a == b)
 | _, _, _ => none
def eqs : List Nat → List (SV D) → List (SV D) → Option Bool
 | [n], [.v a], [.v b] => eq1 n a b
 | n :: ns, .v a :: l, .v b :: m => match eq1 n a b, eqs ns l m with
  | some p, some q => some (p && q)
  | _, _ => none
 | _, _, _ => none
def unop : UnOp → Value → Option Value
 | .neg, .int k n => some (.int k (k.wrap (0 - n)))
 | .not, .bool b => some (.bool !b)
 | _, _ => none
def nodupB : List Nat → Bool
 | [] => true
 | n :: l => !l.any (Nat.beq n) && nodupB l
def disjB : List Nat → List Nat → Bool
 | [], _ => true
 | n :: l, m => !m.any (Nat.beq n) && disjB l m
def isNl : SV D → Bool
 | .nl _ => true
 | _ => false
end
end Go.Proofs.YtfeikakkfnnaoaaGreatDoor.V
namespace Go.Proofs.YtfeikakkfnnaoaaGreatDoor.V
open Go
set_option linter.unusedVariables false
noncomputable section
section
variable (L : Lay) (sig : FuncId → Sig) (call : (f : FuncId) → List (SV L.D) → Option (RT L.D (sig f).all))
def isAgg (t : TypeId) : Bool := match (L.ti t).kind with
 | .struct _ => true
 | _ => false
def okT (t : TypeId) : Bool := match (L.ti t).kind with
 | .other => false
 | _ => true
def pack (t : TypeId) (cs : List (SV L.D)) : SV L.D := match isAgg L t with
 | true => .agg cs
 | false => match cs with
  | s :: _ => s
  | [] => .dead
def rdt (st : St L.D) (t : TypeId) : Operand → SV L.D
 | .const (.slice none 0 0) => match (L.ti t).kind with
  | .slice e => .nl e
  | _ => .dead
 | x => rdo st x
def elemOf (t : TypeId) : Option TypeId := match (L.ti t).kind with
 | .slice e => some e
 | _ => none
def fieldOf (t : TypeId) (f : Nat) : Option (Nat × Nat) := match (L.ti t).kind with
 | .struct fs => fs[f]?
 | _ => none
def rowOf (st : St L.D) : SV L.D → Option (Row L.D)
 | .own j => st.row j
 | .ro t xs => some ⟨t, true, xs⟩
 | .nl t => some ⟨t, true, []⟩
 | .lr _ t xs => some ⟨t, true, xs⟩
 | .rn t xs => some ⟨t, true, xs⟩
 | _ => none
def still (b : Bool) (c : Option Nat) (st : St L.D) : SV L.D → Option (SV L.D × List (Nat × Option (Row L.D)) × Option Nat)
 | .v x => some (.v x, [], c)
 | .ro t xs => match b with
  | false => some (.ro t xs, [], c)
  | true => none
 | .nl t => some (.nl t, [], c)
 | .lr l t xs => match b with
  | true => some (.lr l t xs, [], c)
  | false => none
 | .own j => match st.row j, b with
  | some r, false => some (.ro r.t r.xs, [(j, some { r with fz := true })], c)
  | some r, true => match r.fz, c with
   | false, some n => some (.lr n r.t r.xs, [(j, none)], some (n + 1))
   | _, _ => none
  | none, _ => none
 | _ => none
def stills (b : Bool) (c : Option Nat) (st : St L.D) : List (SV L.D) → Option (List (SV L.D) × List (Nat × Option (Row L.D)) × Option Nat)
 | [] => some ([], [], c)
 | s :: l => match still L b c st s with
  | some (x, a, c1) => match stills b c1 st l with
   | some (r, a', c2) => some (x :: r, a ++ a', c2)
   | none => none
  | none => none
def labs : List (Nat × Option (Row L.D)) → List Nat
 | [] => []
 | (j, none) :: l => j :: labs l
 | (_, some _) :: l => labs l
def fillS (st : St L.D) (fs : List (Nat × Nat)) : List (SV L.D) → List (Nat × Operand) → Option (List (SV L.D))
 | cs, [] => some cs
 | cs, (j, .const (.slice none 0 0)) :: ps => match fs[j]? with
  | some (off, 1) => match cs[off]? with
   | some (.nl _) => fillS st fs cs ps
   | _ => none
  | _ => none
 | cs, (j, x) :: ps => match fs[j]? with
  | some (off, n) => match good st (rdo st x) && Nat.beq (cellsOf (rdo st x)).length n && Nat.ble (off + n) cs.length with
   | true => fillS st fs (cs.take off ++ cellsOf (rdo st x) ++ cs.drop (off + n)) ps
   | false => none
  | none => none
def dense : Nat → List (Nat × Operand) → Bool
 | _, [] => true
 | q, (j, _) :: l => Nat.beq j q && dense (q + 1) l
def elems (st : St L.D) (e : TypeId) : Option Nat → List (Nat × Operand) → Option (List (L.D e) × List (Nat × Option (Row L.D)) × Option Nat)
 | c, [] => some ([], [], c)
 | c, (_, x) :: ps => match good st (rdt L st e x) && Nat.beq (cellsOf (rdt L st e x)).length (L.ti e).sz, stills L (L.labd e) c st (cellsOf (rdt L st e x)) with
  | true, some (cs, u, c1) => match L.make e cs, elems st e c1 ps with
   | some x, some (l, u', c2) => some (x :: l, u ++ u', c2)
   | _, _ => none
  | _, _ => none
def ctrD : List Nat → Option Nat → Option Nat
 | [], _ => none
 | _ :: _, c => c
def byteOf (e : TypeId) (x : L.D e) : UInt8 := match L.cell e x with
 | [.v (.int _ n)] => UInt8.ofNat n.toNat
 | _ => 0
def ofByte (e : TypeId) (b : UInt8) : L.D e := match L.make e [.v (.int .u8 (b.toNat : Int))] with
 | some x => x
 | none => L.zd e
def at_ {α : Type} (xs : List α) (n : Int) (z : α) : α := xs.getD n.toNat z
def ident (i c : Nat) : Nat := 1000 * (i + 1) + c
variable {L} {ρ : Type}
def memo (p : SV L.D) (st : St L.D) : Option (List (SV L.D) × Nat) := match p with
 | .ptr b off => match st.box b with
  | some cs => some (cs, off)
  | none => none
 | .rp t x off => some (L.cell t x, off)
 | .rb cs off => some (cs, off)
 | .ep i ix off => match st.row i with
  | some r => some (L.cell r.t (r.xs.getD ix (L.zd r.t)), off)
  | none => none
 | _ => none
variable (L)
def roS : List Sh → Bool
 | [] => false
 | .ro _ :: _ => true
 | .fr t :: l => ((L.zero t).any isNl && !L.labd t) || roS l
 | .lr t :: l => ((L.zero t).any isNl && !L.labd t) || roS l
 | _ :: l => roS l
def argOf (st : St L.D) : SV L.D → Option (SV L.D × List (Nat × Row L.D))
 | .v x => some (.v x, [])
 | .ro t xs => some (.ro t xs, [])
 | .nl t => some (.ro t [], [])
 | .own j => match st.row j with
  | some r => some (.ro r.t r.xs, [(j, r)])
  | none => none
 | .lr l t xs => some (.lr l t xs, [])
 | _ => none
def argsOf (st : St L.D) : List (SV L.D) → Option (List (SV L.D) × List (Nat × Row L.D))
 | [] => some ([], [])
 | s :: l => match argOf L st s, argsOf st l with
  | some (x, a), some (r, b) => some (x :: r, a ++ b)
  | _, _ => none
def capOf (st : St L.D) : SV L.D → Option (SV L.D × List (Nat × Row L.D) × List Nat)
 | .ptr b off => match st.box b with
  | some cs => match argsOf L st cs with
   | some (cs', sh) => some (.rb cs' off, sh, [b])
   | none => none
  | none => none
 | .rb cs off => some (.rb cs off, [], [])
 | s => match argOf L st s with
  | some (x, sh) => some (x, sh, [])
  | none => none
def capsOf (st : St L.D) : List (SV L.D) → Option (List (SV L.D) × List (Nat × Row L.D) × List Nat)
 | [] => some ([], [], [])
 | s :: l => match capOf L st s, capsOf st l with
  | some (x, a, p), some (r, b, q) => some (x :: r, a ++ b, p ++ q)
  | _, _ => none
def movOf (st : St L.D) : SV L.D → Option (SV L.D × List Nat)
 | .v x => some (.v x, [])
 | .ro t xs => some (.ro t xs, [])
 | .nl t => some (.fr t [], [])
 | .own j => match st.row j with
  | some r => match r.fz with
   | false => some (.fr r.t r.xs, [j])
   | true => some (.ro r.t r.xs, [])
  | none => none
 | _ => none
def movsOf (st : St L.D) : List (SV L.D) → Option (List (SV L.D) × List Nat)
 | [] => some ([], [])
 | s :: l => match movOf L st s, movsOf st l with
  | some (x, a), some (r, b) => some (x :: r, a ++ b)
  | _, _ => none
structure Arg where
 sv : SV L.D
 lent : List (Nat × Nat × Nat × List (SV L.D)) := []
 gone : List Nat := []
 shown : List (Nat × Row L.D) := []
 capt : List Nat := []
def nkS {D : TypeId → Type} : Bool → SV D → SV D
 | true, .ro t xs => .rn t xs
 | true, .lr _ t xs => .rn t xs
 | _, s => s
def pointee (t : TypeId) : Option TypeId := match (L.ti t).kind with
 | .ptr e => some e
 | .struct _ => some t
 | _ => none
def arg1 (nk : Bool) (st : St L.D) (t : TypeId) (x : Operand) : Option (Arg L) := match rdt L st t x with
 | .agg cs => match argsOf L st cs with
  | some (cs', sh) => some { sv := .agg cs', shown := sh }
  | none => none
 | .cl f cs => match capsOf L st cs with
  | some (cs', sh, bs) => some { sv := .cl f cs', shown := sh, capt := bs }
  | none => none
 | .rb cs off => some { sv := .rb cs off }
 | .rp t x off => some { sv := .rb (L.cell t x) off }
 | .ptr b off => match pointee L t, st.box b with
  | some e, some cs => match Nat.ble (off + (L.ti e).sz) cs.length && Nat.ble (L.ti e).sz 900, movsOf L st ((cs.drop off).take (L.ti e).sz) with
   | true, some (cs', g) => some { sv := .pb cs', lent := [(b, off, (L.ti e).sz, cs)], gone := g }
   | _, _ => none
  | _, _ => none
 | .rn t xs => match nk with
  | true => some { sv := .rn t xs }
  | false => none
 | s => match argOf L st s with
  | some (x, sh) => some { sv := nkS nk x, shown := sh }
  | none => none
def argM (st : St L.D) (t : TypeId) (x : Operand) : Option (Arg L) := match movOf L st (rdt L st t x) with
 | some (.fr e xs, g) => some { sv := .fr e xs, gone := g }
 | _ => none
def argX (nk mv : Bool) (st : St L.D) (t : TypeId) (x : Operand) : Option (Arg L) := match mv with
 | true => argM L st t x
 | false => arg1 L nk st t x
def args_ (nk mv : List Bool) (st : St L.D) : List Operand → List TypeId → Option (List (Arg L))
 | [], _ => some []
 | x :: l, [] => none
 | x :: l, t :: ts => match argX L (nk.headD false) (mv.headD false) st t x, args_ nk.tail mv.tail st l ts with
  | some a, some r => some (a :: r)
  | _, _ => none
def take_ (n : Nat) : Nat → List (SV L.D) → List (SV L.D) × List (Nat × Option (Row L.D))
 | _, [] => ([], [])
 | c, .fr t xs :: l => (.own (n + c) :: (take_ n (c + 1) l).1, (n + c, some ⟨t, false, xs⟩) :: (take_ n (c + 1) l).2)
 | c, s :: l => (s :: (take_ n (c + 1) l).1, (take_ n (c + 1) l).2)
def results_ : List (List Sh) → List Bool → List (SV L.D) → List (SV L.D)
 | [], _, _ => []
 | s :: l, a, cs => (match a with
   | true :: _ => .agg (cs.take s.length)
   | _ => match cs with
    | x :: _ => x
    | [] => .dead) :: results_ l a.tail (cs.drop s.length)
def value_ : List (SV L.D) → SV L.D
 | [s] => s
 | l => .tup l
def back_ : List (Nat × Nat × Nat × List (SV L.D)) → List (SV L.D) → List (Nat × Option (List (SV L.D)))
 | [], _ => []
 | (b, off, n, old) :: l, cs => (b, some (old.take off ++ cs.take n ++ old.drop (off + n))) :: back_ l (cs.drop n)
def finOk : List (Nat × Nat × Nat × List (SV L.D)) → List (List Sh) → Bool
 | [], [] => true
 | (_, _, n, _) :: l, s :: ss => Nat.beq n s.length && finOk l ss
 | _, _ => false
def gcall {α : Type} (g : Bool) (x : Option α) (d : α) : Option α := match g with
 | true => x
 | false => some d
inductive Vd (L : Lay) (sig : FuncId → Sig) where
 | val (c : Bool) (d : Dl L.D)
 | call (f : FuncId) (az : List (SV L.D)) (k : RT L.D (sig f).all → Dl L.D)
def capArgs (st : St L.D) : List (SV L.D) → Option (List (Arg L))
 | [] => some []
 | s :: l => match capOf L st s, capArgs st l with
  | some (x, sh, bs), some r => some ({ sv := x, shown := sh, capt := bs } :: r)
  | _, _ => none
def lentOf (az : List (Arg L)) : List (Nat × Nat × Nat × List (SV L.D)) := az.flatMap fun a => a.lent
def goneOf (az : List (Arg L)) : List Nat := az.flatMap fun a => a.gone
def shownOf (az : List (Arg L)) : List (Nat × Row L.D) := az.flatMap fun a => a.shown
def captOf (az : List (Arg L)) : List Nat := az.flatMap fun a => a.capt
def ctOf {D : TypeId → Type} : List (SV D) → Option Nat
 | [] => none
 | .ct n :: _ => some n
 | _ :: l => ctOf l
def ctArg {D : TypeId → Type} : Bool → Option Nat → Option (List (SV D))
 | false, _ => some []
 | true, some n => some [.ct n]
 | true, none => none
def noCt {D : TypeId → Type} (l : List (SV D)) : Bool := match ctOf l with
 | none => true
 | some _ => false
def after_ (i : Nat) (s : Sig) (az : List (Arg L)) (r : RT L.D s.all) : Dl L.D :=
 let cs := enc s.all r
 let t := take_ L (ident i 1) 0 cs
 {val := value_ L (results_ L s.res s.aggs t.1)
  boxes := back_ L (lentOf L az) (t.1.drop s.res.flatten.length)
  rows := t.2 ++ (goneOf L az).map (fun j => (j, none)) ++ (match roS L s.all with | true => (shownOf L az).map (fun p => (p.1, some { p.2 with fz := true })) | false => [])
  ctr := ctOf (cs.drop (s.res.flatten.length + s.fin.flatten.length)) }
def afterM (i : Nat) (s : Sig) (r : RT L.D s.all) : Dl L.D := { val := .ptr (ident i 0) 0, boxes := [(ident i 0, some (enc s.all r))] }
def callD (c : Option Nat) (i : Nat) (f : FuncId) (az : List (Arg L)) : Option (Vd L sig) :=
 match (sig f).new with
 | true => match (lentOf L az).isEmpty && (goneOf L az).isEmpty && (shownOf L az).isEmpty && (captOf L az).isEmpty && !(sig f).ctr && noCt (az.map fun a : Arg L => a.sv) with
  | true => some (.call f (az.map fun a : Arg L => a.sv) (afterM L i (sig f)))
  | false => none
 | false => match nodupB ((lentOf L az).map (·.1)) && nodupB (goneOf L az) && disjB ((shownOf L az).map (·.1)) (goneOf L az) && disjB (captOf L az) ((lentOf L az).map (·.1)) && ((captOf L az).isEmpty || !roS L (sig f).all) && finOk L (lentOf L az) (sig f).fin && noCt (az.map fun a : Arg L => a.sv), ctArg (sig f).ctr c with
 | true, some ct => some (.call f ((az.map fun a : Arg L => a.sv) ++ ct) (after_ L i (sig f) az))
 | _, _ => none
def lenOf (st : St L.D) (t : TypeId) (x : SV L.D) : Option Int := match (L.ti t).kind, x with
 | .str, .v (.string s) => some (s.size : Int)
 | .slice _, x => match rowOf L st x with
  | some r => some (r.xs.length : Int)
  | none => none
 | _, _ => none
def tailP {D : TypeId → Type} : SV D → Bool
 | .v (.int _ n) => decide (0 ≤ n)
 | _ => true
def tail_ (st : St L.D) (e t t' : TypeId) : SV L.D → Option (List (L.D e))
 | .v (.string s) => match (L.ti e).kind, (L.ti t').kind with
  | .int .u8, .str => some (s.data.toList.map (ofByte L e))
  | _, _ => none
 | .v (.int .i64 n) => match (L.ti t').kind with
  | .int .i64 => some (List.replicate n.toNat (L.zd e))
  | _ => none
 | s => match Nat.beq t t', rowOf L st s with
  | true, some r => castL r.xs
  | _, _ => none
def builtinD (i : Nat) (st : St L.D) (b : Builtin) (az : List Operand) (ts : List TypeId) : Option (Bool × Dl L.D) :=
 match b, az, ts with
 | .len, [x], [t] => match lenOf L st t (rdt L st t x) with
  | some n => some (Prod.mk true { val := .v (.int .i64 n) })
  | none => none
 | .append, [s, x], [t, t'] => match elemOf L t with
  | some e => match rdt L st t s with
   | .nl _ => match tail_ L st e t t' (rdt L st t' x) with
    | some ys => some (Prod.mk (tailP (rdt L st t' x) && okLe ((ys.length : Int) * (L.ti e).bytes) 70368744177664) { val := .own (ident i 0), rows := [(ident i 0, some ⟨e, false, ys⟩)] })
    | none => none
   | .own j => match st.row j with
    | some r => match r.fz, castL (t' := e) r.xs, tail_ L st e t t' (rdt L st t' x) with
     | false, some xs, some ys => some (Prod.mk (tailP (rdt L st t' x) && okLe (((xs.length : Int) + ys.length) * (L.ti e).bytes) 70368744177664) { val := .own (ident i 0), rows := [(ident i 0, some ⟨e, false, xs ++ ys⟩), (j, none)] })
     | _, _, _ => none
    | none => none
   | _ => none
  | none => none
 | .min, [x, y], [t, _] => match rdo st x, rdo st y with
  | .v (.int k a), .v (.int k' b) => some (Prod.mk true { val := .v (.int k (cond (decide (b < a)) b a)) })
  | _, _ => none
 | .max, [x, y], [t, _] => match rdo st x, rdo st y with
  | .v (.int k a), .v (.int k' b) => some (Prod.mk true { val := .v (.int k (cond (decide (b > a)) b a)) })
  | _, _ => none
 | .copy, [s, x], [t, t'] => match Nat.beq t t', elemOf L t with
  | true, some e => match rdt L st t s with
   | .own j => match st.row j with
    | some r => match r.fz, castL (t' := e) r.xs, rowOf L st (rdt L st t' x) with
     | false, some xs, some r' => match castL (t' := e) r'.xs with
      | some ys => some (Prod.mk true { val := .v (.int .i64 (Nat.min ys.length xs.length : Nat)), rows := [(j, some ⟨e, false, ys.take xs.length ++ xs.drop ys.length⟩), (j, none)] })
      | none => none
     | _, _, _ => none
    | none => none
   | _ => none
  | _, _ => none
 | _, _, _ => none
def bnd (st : St L.D) (d : Int) : Option Operand → Option Int
 | none => some d
 | some x => match rdo st x with
  | .v (.int _ n) => some n
  | _ => none
def pk (n : Nat) (w : Bool) : SV L.D → Option Bool
 | .v (.bool x) => some x
 | .gd j w' (.v (.bool x)) => match Nat.beq j n, w', w with
  | true, true, true => some x
  | true, false, false => some x
  | _, _, _ => none
 | _ => none
def valD (i : Nat) (st : St L.D) (o : Oper) : Option (Vd L sig) :=
 match o.op with
 | .move x => some (.val true { val := rdt L st o.type x })
 | .assign x => some (.val true { val := rdt L st o.type x })
 | .pick (.tmp n) a b => match st.tmp n with
  | .v (.bool c) => match pk L n true (rdo st a), pk L n false (rdo st b) with
   | some x, some y => some (.val true { val := .v (.bool (cond c x y)) })
   | _, _ => none
  | _ => none
 | .alloc t => match okT L t with
  | false => none
  | true => some (.val true { val := .ptr (ident i 0) 0, boxes := [(ident i 0, some (L.zero t))] })
 | .box t x => match okT L t && good st (rdt L st t x) && Nat.beq (cellsOf (rdt L st t x)).length (L.ti t).sz with
  | true => some (.val true { val := .ptr (ident i 0) 0, boxes := [(ident i 0, some (cellsOf (rdt L st t x)))] })
  | false => none
 | .build t ps => match (L.ti t).kind with
  | .struct fs => match fillS L st fs (L.zero t) ps.toList with
   | some cs => some (.val true { val := .agg cs })
   | none => none
  | _ => none
 | .buildSlice t n ps => match elemOf L t with
  | some e => match dense 0 ps.toList && Nat.beq ps.toList.length n && Nat.ble (n * (L.ti e).sz) 16777216, elems L st e st.ctr ps.toList with
   | true, some (xs, u, c) => match nodupB (labs L u) with
    | true => some (.val true { val := .own (ident i 0), rows := (ident i 0, some ⟨e, false, xs⟩) :: u, ctr := ctrD (labs L u) c })
    | false => none
   | _, _ => none
  | none => none
 | .load t a => match memo (rdo st a) st with
  | some (cs, off) => match okT L t && Nat.ble (off + (L.ti t).sz) cs.length with
   | true => some (.val true { val := pack L t ((cs.drop off).take (L.ti t).sz) })
   | false => none
  | none => none
 | .store t a x => match okT L t && good st (rdt L st t x) && Nat.beq (cellsOf (rdt L st t x)).length (L.ti t).sz, rdo st a with
  | true, .ptr b off => match st.box b with
   | some cs => match Nat.ble (off + (L.ti t).sz) cs.length with
    | true => some (.val true { val := .dead, boxes := [(b, some (cs.take off ++ cellsOf (rdt L st t x) ++ cs.drop (off + (L.ti t).sz)))] })
    | false => none
   | none => none
  | true, .ep j ix off => match st.row j with
   | some r => match r.fz, stills L (L.labd r.t) st.ctr st (cellsOf (rdt L st t x)), Nat.ble (off + (L.ti t).sz) (L.ti r.t).sz with
    | false, some (xs, u, c), true => match nodupB (labs L u) with
     | false => none
     | true => match u.any (fun p => Nat.beq p.1 j), L.make r.t ((L.cell r.t (r.xs.getD ix (L.zd r.t))).take off ++ xs ++ (L.cell r.t (r.xs.getD ix (L.zd r.t))).drop (off + (L.ti t).sz)) with
     | false, some y => some (.val true { val := .dead, rows := (j, some { r with xs := r.xs.set ix y }) :: (j, none) :: u, ctr := ctrD (labs L u) c })
     | _, _ => none
    | _, _, _ => none
   | none => none
  | _, _ => none
 | .nilCheck x => match rdo st x with
  | .cl f cs => some (.val true { val := .cl f cs })
  | s => match memo s st with
   | some _ => some (.val true { val := s })
   | none => none
 | .binOp op t x y _ => match rdo st x, rdo st y with
  | .v (.bool a), .v (.bool b) => match (L.ti t).kind, op with
   | .bool, .eql => some (.val true { val := .v (.bool (a == b)) })
   | .bool, .neq => some (.val true { val := .v (.bool !(a == b)) })
   | _, _ => none
  | .v a, .v b => match scal op a b with
   | some (c, r) => some (.val c { val := .v r })
   | none => none
  | .agg cs, .agg ds => match eqs (L.eqt t) cs ds, op with
   | some r, .eql => some (.val true { val := .v (.bool r) })
   | some r, .neq => some (.val true { val := .v (.bool !r) })
   | _, _ => none
  | _, _ => none
 | .unOp op _ x => match rdo st x with
  | .v a => match unop op a with
   | some r => some (.val true { val := .v r })
   | none => none
  | _ => none
 | .convert src dst x => match rdo st x, (L.ti dst).kind with
  | .v (.int _ n), .int k => match okT L src with
   | false => none
   | true => some (.val true { val := .v (.int k (k.wrap n)) })
  | .v (.string s), .str => match okT L src with
   | false => none
   | true => some (.val true { val := .v (.string s) })
  | .v (.string s), .slice e => match okT L src, (L.ti e).kind with
   | true, .int .u8 => some (.val (okLe (s.size : Int) 9223372036854775807) { val := .own (ident i 0), rows := [(ident i 0, some ⟨e, false, s.data.toList.map (ofByte L e)⟩)] })
   | _, _ => none
  | s, .str => match elemOf L src, rowOf L st s with
   | some e, some r => match Nat.beq e r.t, (L.ti e).kind with
    | true, .int .u8 => some (.val true { val := .v (.string ⟨(r.xs.map (byteOf L r.t)).toArray⟩) })
    | _, _ => none
   | _, _ => none
  | _, _ => none
 | .makeSlice t n c => match elemOf L t, rdo st n, rdo st c with
  | some e, .v (.int .i64 a), .v (.int .i64 b) => some (.val (decide (0 ≤ a) && decide (a ≤ b) && okLe (b * (L.ti e).bytes) 281474976710656) { val := .own (ident i 0), rows := [(ident i 0, some ⟨e, false, List.replicate a.toNat (L.zd e)⟩)] })
  | _, _, _ => none
 | .slice t x lo hi none => match (L.ti t).kind, rdo st x with
  | .str, .v (.string s) => match bnd L st 0 lo, bnd L st (s.size : Int) hi with
   | some l, some h => some (.val (decide (0 ≤ l) && decide (l ≤ h) && decide (h ≤ (s.size : Int))) { val := .v (.string (s.extract l.toNat h.toNat)) })
   | _, _ => none
  | .slice e0, .ro e xs => match Nat.beq e0 e, bnd L st 0 lo, bnd L st (xs.length : Int) hi with
   | true, some l, some h => some (.val (decide (0 ≤ l) && decide (l ≤ h) && decide (h ≤ (xs.length : Int))) { val := .ro e ((xs.take h.toNat).drop l.toNat) })
   | _, _, _ => none
  | .slice e0, .lr _ e xs => match Nat.beq e0 e, bnd L st 0 lo, bnd L st (xs.length : Int) hi with
   | true, some l, some h => some (.val (decide (0 ≤ l) && decide (l ≤ h) && decide (h ≤ (xs.length : Int))) { val := .rn e ((xs.take h.toNat).drop l.toNat) })
   | _, _, _ => none
  | .slice e0, .rn e xs => match Nat.beq e0 e, bnd L st 0 lo, bnd L st (xs.length : Int) hi with
   | true, some l, some h => some (.val (decide (0 ≤ l) && decide (l ≤ h) && decide (h ≤ (xs.length : Int))) { val := .rn e ((xs.take h.toNat).drop l.toNat) })
   | _, _, _ => none
  | .slice e0, .own j => match st.row j with
   | some r => match Nat.beq e0 r.t, bnd L st 0 lo, bnd L st (r.xs.length : Int) hi with
    | true, some l, some h => some (.val (decide (0 ≤ l) && decide (l ≤ h) && decide (h ≤ (r.xs.length : Int))) { val := .ro r.t ((r.xs.take h.toNat).drop l.toNat), rows := [(j, some { r with fz := true })] })
    | _, _, _ => none
   | none => none
  | _, _ => none
 | .fieldAddr s x f => match fieldOf L s f, memo (rdo st x) st with
  | some (q, _ + 1), some _ => match rdo st x with
   | .ptr b off => some (.val true { val := .ptr b (off + q) })
   | .rp t y off => some (.val true { val := .rp t y (off + q) })
   | .ep j ix off => some (.val true { val := .ep j ix (off + q) })
   | .rb cs off => some (.val true { val := .rb cs (off + q) })
   | _ => none
  | _, _ => none
 | .indexAddr t x ix => match elemOf L t, rdo st x, rdo st ix with
  | some e0, .ro e xs, .v (.int _ n) => match Nat.beq e0 e with
   | true => some (.val (decide (0 ≤ n) && decide (n < (xs.length : Int))) { val := .rp e (at_ xs n (L.zd e)) 0 })
   | false => none
  | some e0, .lr _ e xs, .v (.int _ n) => match Nat.beq e0 e with
   | true => some (.val (decide (0 ≤ n) && decide (n < (xs.length : Int))) { val := .rp e (at_ xs n (L.zd e)) 0 })
   | false => none
  | some e0, .rn e xs, .v (.int _ n) => match Nat.beq e0 e with
   | true => some (.val (decide (0 ≤ n) && decide (n < (xs.length : Int))) { val := .rp e (at_ xs n (L.zd e)) 0 })
   | false => none
  | some e0, .own j, .v (.int _ n) => match st.row j with
   | some r => match Nat.beq e0 r.t, r.fz with
    | true, false => some (.val (decide (0 ≤ n) && decide (n < (r.xs.length : Int))) { val := .ep j n.toNat 0 })
    | true, true => some (.val (decide (0 ≤ n) && decide (n < (r.xs.length : Int))) { val := .rp r.t (at_ r.xs n (L.zd r.t)) 0 })
    | _, _ => none
   | none => none
  | _, _, _ => none
 | .index t x ix => match (L.ti t).kind, rdo st x, rdo st ix with
  | .str, .v (.string s), .v (.int _ n) => some (.val (decide (0 ≤ n) && decide (n < (s.size : Int))) { val := .v (.int .u8 (s.data.toList.getD n.toNat 0).toNat) })
  | _, _, _ => none
 | .extract x n => match rdo st x with
  | .tup l => match l[n]? with
   | some s => some (.val true { val := s })
   | none => none
  | _ => none
 | .makeFunc (.func f) first captured => match first.toList with
  | [] => some (.val true { val := .cl f (captured.toList.map (rdo st)) })
  | _ => none
 | .call c => match c.callee with
  | .builtin b => match builtinD L i st b c.args.toList c.argTypes.toList with
   | some (c, d) => some (.val c d)
   | none => none
  | .value f => match rdo st f with
   | .cl f caps => match args_ L (sig f).nk (sig f).mv st c.args.toList c.argTypes.toList, capArgs L st caps with
    | some az, some cs => callD L sig st.ctr i f (az ++ cs)
    | _, _ => none
   | _ => none
  | _ => none
 | _ => none
def valK (g : Bool) (i : Nat) (st : St L.D) (o : Oper) (K : Dl L.D → Option ρ) : Option ρ := match valD L sig i st o with
 | some (.val c d) => chk g c (K d)
 | some (.call f az k) => (gcall g (call f az) (dflt (sig f).all)).bind fun r => K (k r)
 | none => none
end
end
end Go.Proofs.YtfeikakkfnnaoaaGreatDoor.V
namespace Go.Proofs.YtfeikakkfnnaoaaGreatDoor.V
open Go
set_option linter.unusedVariables false
noncomputable section
section
variable (L : Lay) (sig : FuncId → Sig) (call : (f : FuncId) → List (SV L.D) → Option (RT L.D (sig f).all)) {ρ : Type}
def ung1 (n : Nat) (w : Bool) : SV L.D → SV L.D
 | .gd j w' s => match Nat.beq j n, w', w with
  | true, true, true => s
  | true, false, false => s
  | _, _, _ => .gd j w' s
 | s => s
def ungs (n : Nat) (w : Bool) : List (Nat × SV L.D) → List (Nat × SV L.D)
 | [] => []
 | (k, s) :: l => (k, ung1 L n w s) :: ungs n w l
def ungAll : List (Nat × Bool) → List (Nat × SV L.D) → List (Nat × SV L.D)
 | [], l => l
 | (n, w) :: g, l => ungAll g (ungs L n w l)
def flip_ (w b : Bool) : Bool := match w with
 | true => b
 | false => !b
def guardOf (st : St L.D) : Nat → Nat → Bool → Option (Bool × List (Nat × Bool))
 | 0, _, _ => none
 | q + 1, n, w => match st.tmp n with
  | .v (.bool b) => some (flip_ w b, [(n, w)])
  | .gd m u (.v (.bool b)) => match guardOf st q m u with
   | some (c, l) => some (c && flip_ w b, l ++ [(n, w)])
   | none => none
  | _ => none
def chainN (st : St L.D) : Nat → Nat → List Nat
 | 0, n => [n]
 | q + 1, n => n :: (match st.tmp n with
  | .gd m _ _ => chainN st q m
  | _ => [])
def keysSV : SV L.D → List Key
 | .own j => [(2, j)]
 | .ep j _ _ => [(2, j)]
 | .ptr b _ => [(1, b)]
 | _ => []
def keysL : List (SV L.D) → List Key
 | [] => []
 | s :: l => keysSV L s ++ keysL l
def keys1 : SV L.D → List Key
 | .agg cs => keysL L cs
 | .tup cs => cs.flatMap fun
   | .agg ds => keysL L ds
   | s => keysSV L s
 | .cl _ cs => keysL L cs
 | .gd _ _ s => keysSV L s
 | s => keysSV L s
def keys2 (st : St L.D) : List Key → List Key
 | [] => []
 | (1, b) :: l => (1, b) :: ((match st.box b with | some cs => keysL L cs | none => []) ++ keys2 st l)
 | k :: l => k :: keys2 st l
def tmpsOf (o : Oper) : List Nat := o.op.operands.toList.filterMap fun
 | .tmp n => some n
 | _ => none
def shallow : Op → Bool
 | .move _ => true
 | .assign _ => true
 | .pick _ _ _ => true
 | .extract _ _ => true
 | .binOp _ _ _ _ _ => true
 | .unOp _ _ _ => true
 | _ => false
def ctrOp (st : St L.D) (o : Oper) : Bool := match o.op with
 | .buildSlice t _ _ => match elemOf L t with
  | some e => L.labd e
  | none => false
 | .store _ a _ => match rdo st a with
  | .ep j _ _ => match st.row j with
   | some r => L.labd r.t
   | none => false
  | _ => false
 | .call c => match c.callee with
  | .value f => match rdo st f with
   | .cl f _ => (sig f).ctr
   | _ => false
  | _ => false
 | _ => false
def ctrK : Bool → List Key
 | true => [(3, 0)]
 | false => []
def readsOf (ops : List Oper) (st : St L.D) (o : Oper) : List Key :=
 let ns := tmpsOf o ++ (match o.guard with
  | some (j, _) => (match ops[j]? with
   | some p => (match p.dst with | some n => chainN L st 8 n | none => [])
   | none => [])
  | none => [])
 ns.map (fun n => (0, n)) ++ (match shallow o.op with
  | true => []
  | false => ns.flatMap fun n => keys2 L st (keys1 L (st.tmp n))) ++ ctrK (ctrOp L sig st o)
def mine (i k : Nat) : Bool := Nat.ble (ident i 0) k && Nat.blt k (ident (i + 1) 0)
def newOf (i : Nat) (o : Oper) (d : Dl L.D) : List Key := (o.dst.toList.map fun n => (0, n)) ++ (d.boxes.map fun b => (1, b.1)).filter (fun k => mine i k.2) ++ (d.rows.map fun r => (2, r.1)).filter fun k => mine i k.2
def writesOf (o : Oper) (d : Dl L.D) : List Key := (o.dst.toList.map fun n => (0, n)) ++ d.boxes.map (fun b => (1, b.1)) ++ d.rows.map (fun r => (2, r.1)) ++ ctrK d.ctr.isSome
def keyIn (k : Key) : List Key → Bool
 | [] => false
 | (a, b) :: l => (Nat.beq a k.1 && Nat.beq b k.2) || keyIn k l
def apartK : List Key → List Key → Bool
 | [], _ => true
 | k :: l, m => !keyIn k m && apartK l m
def waitsB (ops : List Oper) : Nat → Nat → Nat → Bool
 | 0, _, _ => false
 | n + 1, i, j => match ops[j]? with
  | some o => o.after.toList.any fun e => Region.binds .any e && (Nat.beq e.on i || waitsB ops n i e.on)
  | none => false
def silent (o : Oper) (d : Dl L.D) : List Key → Bool
 | [] => true
 | k :: l => (match o.dst with | some _ => !ment k d.val | none => true) && !mentC k d.boxes && silent o d l
def apartAll (ops : List Oper) (j : Nat) (o : Oper) (d : Dl L.D) (r w : List Key) : Nat → List (List Key × List Key × List Key) → Bool
 | _, [] => true
 | i, (r', w', n') :: l => (waitsB ops (ops.length) i j || (apartK w' r && apartK w' w && apartK w r' && silent L o d n')) && apartAll ops j o d r w (i + 1) l
def keepT (st : St L.D) : List Key → List (Nat × SV L.D)
 | [] => []
 | (0, n) :: l => (n, st.tmp n) :: keepT st l
 | _ :: l => keepT st l
def keepB (st : St L.D) : List Key → List (Nat × Option (List (SV L.D)))
 | [] => []
 | (1, b) :: l => (b, st.box b) :: keepB st l
 | _ :: l => keepB st l
def keepR (st : St L.D) : List Key → List (Nat × Option (Row L.D))
 | [] => []
 | (2, j) :: l => (j, st.row j) :: keepR st l
 | _ :: l => keepR st l
def restr (st : St L.D) (r : List Key) : St L.D := { tmps := keepT L st r, boxes := keepB L st r, rows := keepR L st r, imps := st.imps, ctr := (match keyIn (3, 0) r with | true => st.ctr | false => none), c0 := st.c0 }
def backB (i : Nat) (o : Oper) : Bool := o.after.toList.all fun e => Nat.blt e.on i
def dstOk (nt : Nat) : Option Nat → Bool
 | none => true
 | some d => Nat.blt d nt
def newRows (i : Nat) : List (Nat × Option (Row L.D)) → Bool
 | [] => true
 | (j, some r) :: l => mine i j && !r.fz && newRows i l
 | (_, none) :: _ => false
def froz (rows : List (Nat × Option (Row L.D))) : SV L.D → SV L.D
 | .own j => match look rows j with
  | some (some r) => .ro r.t r.xs
  | _ => .own j
 | s => s
def frozL (rows : List (Nat × Option (Row L.D))) : List (SV L.D) → List (SV L.D)
 | [] => []
 | s :: l => froz L rows s :: frozL rows l
def frozT (rows : List (Nat × Option (Row L.D))) : List (SV L.D) → List (SV L.D)
 | [] => []
 | .agg cs :: l => .agg (frozL L rows cs) :: frozT rows l
 | s :: l => froz L rows s :: frozT rows l
def froze (rows : List (Nat × Option (Row L.D))) : SV L.D → SV L.D
 | .agg cs => .agg (frozL L rows cs)
 | .tup cs => .tup (frozT L rows cs)
 | s => froz L rows s
def sel1 (g : Bool) : SV L.D → SV L.D → Option (SV L.D)
 | .v (.int k a), .v (.int k' b) => if k = k' then some (.v (.int k (cond g a b))) else none
 | .v (.bool a), .v (.bool b) => some (.v (.bool (cond g a b)))
 | .v (.string a), .v (.string b) => some (.v (.string (cond g a b)))
 | .ro t xs, .ro t' ys => match castL (t' := t) ys with
  | some zs => some (.ro t (cond g xs zs))
  | none => none
 | _, _ => none
def selL (g : Bool) : List (SV L.D) → List (SV L.D) → Option (List (SV L.D))
 | [], [] => some []
 | a :: l, b :: m => match sel1 L g a b, selL g l m with
  | some x, some r => some (x :: r)
  | _, _ => none
 | _, _ => none
def selB (st : St L.D) (g : Bool) : List (Nat × Option (List (SV L.D))) → Option (List (Nat × Option (List (SV L.D))))
 | [] => some []
 | (b, some cs) :: l => match st.box b with
  | some old => match selL L g cs old, selB st g l with
   | some x, some r => some ((b, some x) :: r)
   | _, _ => none
  | none => none
 | (_, none) :: _ => none
def ctrG (g : Bool) : Option Nat → Option Nat → Option Nat
 | none, _ => none
 | some n, some m => some (cond g n m)
 | some _, none => none
def okG : Option Nat → Option Nat → Bool
 | some _, none => false
 | _, _ => true
def notDst (n : Nat) : Option Nat → Bool
 | none => true
 | some d => !Nat.beq d n
def oneK (ops : List Oper) (i : Nat) (st : St L.D) (o : Oper) (next : Dl L.D → Option ρ) : Option ρ := match o.guard with
 | none => valK L sig call true i st o next
 | some (j, w) => match ops[j]? with
  | some p => match p.dst with
   | some n => match guardOf L st 8 n w with
    | some (g, gl) => valK L sig call g i { st with tmps := ungAll L gl st.tmps } o fun d => match selB L st g d.boxes, newRows L i d.rows && notDst n o.dst && okG d.ctr st.ctr with
     | some bs, true => next { val := .gd n w (froze L d.rows d.val), boxes := bs, rows := d.rows.map fun p => (p.1, none), ctr := ctrG g d.ctr st.ctr }
     | _, _ => none
    | none => none
   | none => none
  | none => none
def opsK (nt : Nat) (ops : List Oper) (draw : Bool) : Nat → List (List Key × List Key × List Key) → List Oper → St L.D → (St L.D → Option ρ) → Option ρ
 | _, _, [], st, K => K st
 | i, acc, o :: l, st, K => match draw with
  | false => oneK L sig call ops i st o fun d => match clean st (newOf L i o d) && dstOk nt o.dst with
   | true => opsK nt ops draw (i + 1) acc l (st.put o.dst d) K
   | false => none
  | true => oneK L sig call ops i (restr L st (readsOf L sig ops st o)) o fun d => match clean st (newOf L i o d) && dstOk nt o.dst && backB i o && apartAll L ops i o d (readsOf L sig ops st o) (writesOf L o d) 0 acc with
   | true => opsK nt ops draw (i + 1) (acc ++ [(readsOf L sig ops st o, writesOf L o d, newOf L i o d)]) l (st.put o.dst d) K
   | false => none
def apartD (ops : List Oper) (j : Nat) (o : Oper) (d : Dl L.D) (r w : List Key) : List (Nat × List Key × List Key × List Key) → Bool
 | [] => true
 | (i, r', w', n') :: l => (waitsB ops (ops.length) i j || (apartK w' r && apartK w' w && apartK w r' && silent L o d n')) && apartD ops j o d r w l
def doneB (acc : List (Nat × List Key × List Key × List Key)) (o : Oper) : Bool := o.after.toList.all fun e => !Region.binds .any e || acc.any fun a => Nat.beq a.1 e.on
def opsD (nt : Nat) (ops : List Oper) : List (Nat × List Key × List Key × List Key) → List Nat → St L.D → (St L.D → Option ρ) → Option ρ
 | _, [], st, K => K st
 | acc, i :: l, st, K => match ops[i]? with
  | some o => oneK L sig call ops i (restr L st (readsOf L sig ops st o)) o fun d => match clean st (newOf L i o d) && dstOk nt o.dst && doneB acc o && apartD L ops i o d (readsOf L sig ops st o) (writesOf L o d) acc with
   | true => opsD nt ops (acc ++ [(i, readsOf L sig ops st o, writesOf L o d, newOf L i o d)]) l (st.put o.dst d) K
   | false => none
  | none => none
def nextI (done : List Nat) : Nat → List Oper → Option Nat
 | _, [] => none
 | i, o :: l => match !(done.any (Nat.beq i)) && o.after.toList.all (fun e => !Region.binds .any e || done.any (Nat.beq e.on)) with
  | true => some i
  | false => nextI done (i + 1) l
def ordL (ops : List Oper) : Nat → List Nat → List Nat
 | 0, _ => []
 | n + 1, done => match nextI done 0 ops with
  | some i => i :: ordL ops n (done ++ [i])
  | none => []
def opsR (nt : Nat) (ops : List Oper) (draw : Bool) (st : St L.D) (K : St L.D → Option ρ) : Option ρ := match draw with
 | false => opsK L sig call nt ops false 0 [] ops st K
 | true => match Nat.beq (ordL ops ops.length []).length ops.length && nodupB (ordL ops ops.length []) with
  | true => opsD L sig call nt ops [] (ordL ops ops.length []) st K
  | false => none
def nil1 (id : Nat) : SV L.D → SV L.D × List (Nat × Option (Row L.D))
 | .nl t => (.own id, [(id, some ⟨t, false, []⟩)])
 | s => (s, [])
def nilL : Nat → List (SV L.D) → List (SV L.D) × List (Nat × Option (Row L.D))
 | _, [] => ([], [])
 | id, s :: l => ((nil1 L id s).1 :: (nilL (id + 1) l).1, (nil1 L id s).2 ++ (nilL (id + 1) l).2)
def nilT (st : St L.D) : Nat → List Nat → List (Nat × SV L.D) × List (Nat × Option (Row L.D))
 | _, [] => ([], [])
 | id, n :: l => ((n, (nil1 L id (st.tmp n)).1) :: (nilT st (id + 1) l).1, (nil1 L id (st.tmp n)).2 ++ (nilT st (id + 1) l).2)
def nilB (st : St L.D) : Nat → List Nat → List (Nat × Option (List (SV L.D))) × List (Nat × Option (Row L.D))
 | _, [] => ([], [])
 | id, b :: l => match st.box b with
  | some cs => ((b, some (nilL L id cs).1) :: (nilB st (id + cs.length) l).1, (nilL L id cs).2 ++ (nilB st (id + cs.length) l).2)
  | none => nilB st id l
def addN (n : Nat) (l : List Nat) : List Nat := match l.any (Nat.beq n) with
 | true => l
 | false => l ++ [n]
def boxIds : List Key → List Nat → List Nat
 | [], l => l
 | (1, b) :: ks, l => boxIds ks (addN b l)
 | _ :: ks, l => boxIds ks l
def rowIds : List Key → List Nat → List Nat
 | [], l => l
 | (2, b) :: ks, l => rowIds ks (addN b l)
 | _ :: ks, l => rowIds ks l
def idx (n : Nat) : Nat → List Nat → Option Nat
 | _, [] => none
 | q, m :: l => match Nat.beq n m with
  | true => some q
  | false => idx n (q + 1) l
def liveRows (st : St L.D) : List Nat → List Nat
 | [] => []
 | j :: l => match st.row j with
  | some r => match r.fz with
   | false => j :: liveRows st l
   | true => liveRows st l
  | none => liveRows st l
def liveBoxes (st : St L.D) : List Nat → List Nat
 | [] => []
 | b :: l => match st.box b with
  | some _ => b :: liveBoxes st l
  | none => liveBoxes st l
def ren1 (st : St L.D) (bs rs : List Nat) : SV L.D → SV L.D
 | .own j => match idx j 0 rs with
  | some q => .own q
  | none => match st.row j with
   | some r => match r.fz with
    | true => .ro r.t r.xs
    | false => .dead
   | none => .dead
 | .ep j ix off => match idx j 0 rs with
  | some q => .ep q ix off
  | none => .dead
 | .ptr b off => match idx b 0 bs with
  | some q => .ptr q off
  | none => .dead
 | .v x => .v x
 | .ro t xs => .ro t xs
 | .rp t x off => .rp t x off
 | .nl t => .nl t
 | .lr l t xs => .lr l t xs
 | .rn t xs => .rn t xs
 | .rb cs off => .rb cs off
 | _ => .dead
def renL (st : St L.D) (bs rs : List Nat) : List (SV L.D) → List (SV L.D)
 | [] => []
 | s :: l => ren1 L st bs rs s :: renL st bs rs l
def ren (st : St L.D) (bs rs : List Nat) : SV L.D → SV L.D
 | .agg cs => .agg (renL L st bs rs cs)
 | .tup cs => .tup (cs.map fun
   | .agg ds => .agg (renL L st bs rs ds)
   | s => ren1 L st bs rs s)
 | .cl f cs => .cl f (renL L st bs rs cs)
 | .rb cs off => .rb cs off
 | s => ren1 L st bs rs s
def renT (st : St L.D) (bs rs : List Nat) : List Nat → List (Nat × SV L.D)
 | [] => []
 | n :: l => (n, ren L st bs rs (st.tmp n)) :: renT st bs rs l
def renB (st : St L.D) (bs rs : List Nat) : Nat → List Nat → List (Nat × Option (List (SV L.D)))
 | _, [] => []
 | q, b :: l => (q, match st.box b with
   | some cs => some (renL L st bs rs cs)
   | none => none) :: renB st bs rs (q + 1) l
def renR (st : St L.D) : Nat → List Nat → List (Nat × Option (Row L.D))
 | _, [] => []
 | q, j :: l => (q, st.row j) :: renR st (q + 1) l
def boxesOf (live : List Nat) (st : St L.D) : List Nat :=
 let b0 := boxIds (live.flatMap fun n => keys1 L (st.tmp n)) st.imps
 boxIds (b0.flatMap fun b => match st.box b with | some cs => keysL L cs | none => []) b0
def unnil (live : List Nat) (st : St L.D) : Option (St L.D) := match clean st (((nilT L st 500000 live).2 ++ (nilB L st 600000 (boxesOf L live st)).2).map fun x => (2, x.1)) with
 | true => some { tmps := (nilT L st 500000 live).1, boxes := (nilB L st 600000 (boxesOf L live st)).1 ++ st.boxes, rows := (nilT L st 500000 live).2 ++ (nilB L st 600000 (boxesOf L live st)).2 ++ st.rows, imps := st.imps, ctr := st.ctr, c0 := st.c0 }
 | false => none
def view (live : List Nat) (st : St L.D) : Option (St L.D) :=
 let bs := liveBoxes L st (boxesOf L live st)
 let rs := liveRows L st (rowIds (live.flatMap (fun n => keys1 L (st.tmp n)) ++ bs.flatMap fun b => match st.box b with | some cs => keysL L cs | none => []) [])
 match nodupB bs && nodupB rs with
 | true => some { tmps := renT L st bs rs live, boxes := renB L st bs rs 0 bs, rows := renR L st 0 rs, imps := (List.range st.imps.length), ctr := st.ctr, c0 := st.c0 }
 | false => none
def eraseK {α : Type} (n : Nat) : List (Nat × α) → List (Nat × α)
 | [] => []
 | (k, x) :: l => match Nat.beq k n with
  | true => eraseK n l
  | false => (k, x) :: eraseK n l
def dropC (live : Nat → List Nat) (st : St L.D) : Operand → St L.D
 | .tmp n => match live (900000 + n) with
  | [] => st
  | _ :: _ => { st with tmps := eraseK n st.tmps }
 | _ => st
inductive Ex where
 | normal | exit (id : Nat) | ret
def loopN (B : St L.D → (Ex → St L.D → Option ρ) → Option ρ) (K : Ex → St L.D → Option ρ) : Nat → St L.D → Option ρ
 | 0, _ => none
 | n + 1, st => B st fun e st' => match e with
  | .normal => loopN B K n st'
  | e => K e st'
def run (nt : Nat) (live : Nat → List Nat) (n : Nat) : Code → St L.D → (Ex → St L.D → Option ρ) → Option ρ
 | .skip, st, K => K .normal st
 | .region id ops draw, st, K => opsR L sig call nt ops.toList draw st fun st' => match unnil L (live id) st' with
  | some st1 => match view L (live id) st1 with
   | some st2 => K .normal st2
   | none => none
  | none => none
 | .seq a b, st, K => run nt live n a st fun e st' => match e with
  | .normal => run nt live n b st' K
  | e => K e st'
 | .cond c a b, st, K => match rdo st c with
  | .v (.bool x) => cond x (run nt live n a (dropC L live st c) K) (run nt live n b (dropC L live st c) K)
  | _ => none
 | .block id b, st, K => run nt live n b st fun e st' => match e with
  | .exit j => match Nat.beq j id with
   | true => K .normal st'
   | false => K (.exit j) st'
  | e => K e st'
 | .loop b, st, K => loopN L (run nt live n b) K n st
 | .exit id, st, K => K (.exit id) st
 | .ret, st, K => K .ret st
 | _, _, _ => none
def startB : Nat → List (SV L.D) → List (Nat × Option (List (SV L.D))) × List (Nat × Option (Row L.D))
 | _, [] => ([], [])
 | p, .pb cs :: l => ((p, some (take_ L (700000 + 1000 * p) 0 cs).1) :: (startB (p + 1) l).1, (take_ L (700000 + 1000 * p) 0 cs).2 ++ (startB (p + 1) l).2)
 | p, .fr t xs :: l => ((startB (p + 1) l).1, (700000 + 1000 * p, some ⟨t, false, xs⟩) :: (startB (p + 1) l).2)
 | p, _ :: l => startB (p + 1) l
def startT : Nat → List (SV L.D) → List (Nat × SV L.D)
 | _, [] => []
 | p, .pb _ :: l => (p, .ptr p 0) :: startT (p + 1) l
 | p, .fr _ _ :: l => (p, .own (700000 + 1000 * p)) :: startT (p + 1) l
 | p, s :: l => (p, s) :: startT (p + 1) l
def start (az : List (SV L.D)) : St L.D := { tmps := startT L 0 az, boxes := (startB L 0 az).1, rows := (startB L 0 az).2, imps := (startB L 0 az).1.map (·.1), ctr := ctOf az, c0 := (match ctOf az with | some n => n | none => 0) }
def out1 (st : St L.D) : SV L.D → SV L.D
 | .own j => match st.row j with
  | some r => match r.fz with
   | false => .fr r.t r.xs
   | true => .ro r.t r.xs
  | none => .dead
 | .nl t => .fr t []
 | .v x => .v x
 | .ro t xs => .ro t xs
 | .lr l t xs => .lr l t xs
 | .ct n => .ct n
 | _ => .dead
def isAggV : SV L.D → Bool
 | .agg _ => true
 | _ => false
def sameB : Bool → Bool → Bool
 | true, b => b
 | false, b => !b
def resv (st : St L.D) : ResultVar → SV L.D
 | .tmp t => st.tmp t
 | .cell a t => match memo (st.tmp a) st with
  | some (cs, off) => match okT L t && Nat.ble (off + (L.ti t).sz) cs.length with
   | true => pack L t ((cs.drop off).take (L.ti t).sz)
   | false => .dead
  | none => .dead
def resOf (st : St L.D) : List ResultVar → List (List Sh) → List Bool → Option (List (SV L.D))
 | [], [], _ => some []
 | rv :: l, s :: ss, az => match good st (resv L st rv) && Nat.beq (cellsOf (resv L st rv)).length s.length && sameB (isAggV L (resv L st rv)) (az.headD false), resOf st l ss az.tail with
  | true, some r => some (cellsOf (resv L st rv) ++ r)
  | _, _ => none
 | _, _, _ => none
def finOf (st : St L.D) : List Nat → List (List Sh) → Option (List (SV L.D))
 | [], [] => some []
 | b :: l, s :: ss => match st.box b, finOf st l ss with
  | some cs, some r => match Nat.beq cs.length s.length with
   | true => some (cs ++ r)
   | false => none
  | _, _ => none
 | _, _ => none
def given (st : St L.D) : List (SV L.D) → List Nat
 | [] => []
 | .own j :: l => match st.row j with
  | some r => match r.fz with
   | false => j :: given st l
   | true => given st l
  | none => given st l
 | _ :: l => given st l
def noFr : List Sh → Bool
 | [] => true
 | .fr _ :: _ => false
 | _ :: l => noFr l
def ctFin {D : TypeId → Type} : Bool → Option Nat → Option (List (SV D))
 | false, none => some []
 | true, some n => some [.ct n]
 | _, _ => none
def finishM (f : FuncId) (rs : List ResultVar) (st : St L.D) : Option (RT L.D (sig f).all) := match rs, st.imps, noFr (sig f).all && st.ctr.isNone with
 | [.tmp t], [], true => match st.tmp t with
  | .ptr b 0 => match st.box b with
   | some cs => match (given L st cs).isEmpty with
    | true => dec (sig f).all (cs.map (out1 L st))
    | false => none
   | none => none
  | _ => none
 | _, _, _ => none
def finish (f : FuncId) (rs : List ResultVar) (st : St L.D) : Option (RT L.D (sig f).all) := match (sig f).new with
 | true => finishM L sig f rs st
 | false => match resOf L st rs (sig f).res (sig f).aggs, finOf L st st.imps (sig f).fin with
 | some cs, some ds => match nodupB (given L st (cs ++ ds)) with
  | true => match ctFin (sig f).ctr st.ctr with
   | some ct => dec (sig f).all ((cs ++ ds ++ ct).map (out1 L st))
   | none => none
  | false => none
 | _, _ => none
end
structure Ctx where
 P : Program
 L : Lay
 sig : FuncId → Sig
 live : FuncId → Nat → List Nat
 ext : (f : FuncId) → Option (Nat → List (SV L.D) → Option (RT L.D (sig f).all))
def Fn (C : Ctx) : Nat → (f : FuncId) → List (SV C.L.D) → Option (RT C.L.D (C.sig f).all)
 | 0, _, _ => none
 | k + 1, f, az => match C.ext f with
  | some h => h k az
  | none => match C.P.funcs[f]? with
   | some fn => match fn.body, Nat.ble az.length fn.ntmps with
    | some c, true => run C.L C.sig (Fn C k) fn.ntmps (C.live f) k c (start C.L az) fun e st => match e with
     | .exit _ => none
     | _ => finish C.L C.sig f fn.results.toList st
    | _, _ => none
   | none => none
end
end Go.Proofs.YtfeikakkfnnaoaaGreatDoor.V
namespace Go.Proofs.YtfeikakkfnnaoaaGreatDoor.V
open Go
set_option linter.unusedVariables false
def ScalT (P : Program) : Nat → TypeId → Prop
 | 1, t => ∃ k, P.underlying t = some (.int k)
 | 2, t => P.underlying t = some .bool
 | 3, t => P.underlying t = some .string
 | _, _ => False
def FldT (P : Program) (j n : Nat) (f : Field) : Prop := (f.name == "_") = false ∧ f.offset = j ∧ ScalT P n f.type
structure LayOk (P : Program) (L : Lay) : Prop where
 slice : ∀ t e, (L.ti t).kind = .slice e → P.underlying t = some (.slice e) ∧ (L.ti e).kind ≠ .other ∧ 0 < (L.ti e).sz ∧ (∃ i z, P.info? e = some i ∧ i.size = (L.ti e).sz ∧ i.bytes = (L.ti e).bytes ∧ i.zero = some z ∧ 0 < i.bytes)
 int : ∀ t k, (L.ti t).kind = .int k → P.underlying t = some (.int k)
 bool : ∀ t, (L.ti t).kind = .bool → P.underlying t = some .bool
 str : ∀ t, (L.ti t).kind = .str → P.underlying t = some .string
 struct : ∀ t fs, (L.ti t).kind = .struct fs → ∃ fields : Array Field, P.underlying t = some (.struct fields) ∧ fields.size = fs.length ∧
  ∀ (j q n : Nat), fs[j]? = some (q, n) → ∃ (f : Field) (i : TypeInfo), fields[j]? = some f ∧ f.offset = q ∧ P.info? f.type = some i ∧ i.size = n
 plain : ∀ t, isAgg L t = false → (L.ti t).kind ≠ .other → ∃ d, P.underlying t = some d ∧ (∀ fs, d ≠ .struct fs) ∧ (∀ n e, d ≠ .array n e)
 one : ∀ t, isAgg L t = false → (L.ti t).kind ≠ .other → (L.ti t).sz = 1
 info : ∀ t, (L.ti t).kind ≠ .other → ∃ i z, P.info? t = some i ∧ i.size = (L.ti t).sz ∧ i.bytes = (L.ti t).bytes ∧ i.zero = some z ∧ z.cells.size = (L.ti t).sz ∧
  (isAgg L t = true → ∃ cs, z = .agg cs) ∧ (isAgg L t = false → z.oneCell' = true) ∧ (L.zero t).length = (L.ti t).sz ∧
  ∀ j (h : j < (L.zero t).length), ∃ u, z.cells[j]? = some u ∧ u.oneCell' = true ∧ ((L.zero t)[j] = .v u ∨ ∃ e, (L.zero t)[j] = .nl e ∧ u = .slice none 0 0)
 byte : ∀ e, (L.ti e).kind = .int .u8 → (L.ti e).sz = 1 ∧ (L.ti e).bytes = 1 ∧ (L.zero e) = [.v (.int .u8 0)] ∧ (∀ n, ∃ x, L.make e [.v (.int .u8 n)] = some x) ∧ ∀ x, ∃ n, L.cell e x = [.v (.int .u8 n)]
 cell : ∀ t x, (L.cell t x).length = (L.ti t).sz
 form : ∀ t x s, s ∈ L.cell t x → (∃ u, s = .v u ∧ u.oneCell' = true) ∨ (∃ e ys, s = .ro e ys ∧ L.labd t = false) ∨ ∃ l e ys, s = .lr l e ys ∧ L.labd t = true ∧ ((L.zero e).any isNl = false ∨ L.labd e = true)
 make : ∀ t cs x, L.make t cs = some x → L.cell t x = cs.map (canonT (L.labd t))
 flat : ∀ t x, (L.zero t).any isNl = false → ∀ s, s ∈ L.cell t x → ∃ u, s = .v u
 zd : ∀ t e, (L.ti t).kind = .slice e → L.cell e (L.zd e) = (L.zero e).map (canonT (L.labd e))
 eqt : ∀ t, L.eqt t ≠ [] → ∃ fs : Array Field, P.underlying t = some (.struct fs) ∧ P.stoodInHeld t = false ∧ P.eqGuardType P.depth t = false ∧ fs.toList.length = (L.eqt t).length ∧ ∀ j n f, (L.eqt t)[j]? = some n → fs.toList[j]? = some f → FldT P j n f
abbrev LV := TypeId × Value
structure FS where
 fz : Nat → Prop
 lb : Nat → LV → Prop
instance : CoeFun FS fun _ => Nat → Prop := ⟨FS.fz⟩
def FS.keeps (F : FS) (k : Nat) : Prop := F k ∨ ∃ l v, F.lb l v ∧ v.2.ownBlock = some k
structure Le (w w' : World) (F F' : FS) : Prop where
 fz : ∀ k, F k → F' k ∧ w'.heap[k]? = w.heap[k]?
 lb : ∀ l v, F.lb l v → F'.lb l v ∧ ∀ k, v.2.ownBlock = some k → w'.heap[k]? = w.heap[k]?
theorem Le.refl (w : World) (F : FS) : Le w w F F := ⟨fun _ h => ⟨h, rfl⟩, fun _ _ h => ⟨h, fun _ _ => rfl⟩⟩
theorem Le.keeps {w w' : World} {F F' : FS} (h : Le w w' F F') {k : Nat} (hk : F.keeps k) : F'.keeps k ∧ w'.heap[k]? = w.heap[k]? := by
 rcases hk with hk | ⟨l, v, hl, hv⟩
 ·exact ⟨.inl (h.fz k hk).1, (h.fz k hk).2⟩
 ·exact ⟨.inr ⟨l, v, (h.lb l v hl).1, hv⟩, (h.lb l v hl).2 k hv⟩
theorem Le.sub {w : World} {F F' : FS} (h : ∀ k, F k → F' k) (h' : ∀ l v, F.lb l v → F'.lb l v) : Le w w F F' := ⟨fun k hk => ⟨h k hk, rfl⟩, fun l v hl => ⟨h' l v hl, fun _ _ => rfl⟩⟩
inductive CR (L : Lay) (w : World) (F : FS) : SV L.D → Value → Prop
 | v (x : Value) (h : x.oneCell' = true) : CR L w F (.v x) x
 | ro0 (t : TypeId) (a : Option Addr) (c : Nat) : CR L w F (.ro t []) (.slice a 0 c)
 | ro (t : TypeId) (xs : List (L.D t)) (b off c : Nat) (u : Nat → Nat → Value) (hne : xs ≠ []) (hc : xs.length ≤ c) (hb : F b)
   (hu : ∀ i j, i < xs.length → j < (L.ti t).sz → w.cell? ⟨b, off + i * (L.ti t).sz + j, none⟩ = some (u i j))
   (hr : ∀ i j, (h : i < xs.length) → j < (L.ti t).sz → CR L w F ((L.cell t xs[i]).getD j .dead) (u i j)) : CR L w F (.ro t xs) (.slice (some ⟨b, off, none⟩) xs.length c)
 | lr0 (l : Nat) (t : TypeId) (a : Option Addr) (c : Nat) : CR L w F (.lr l t []) (.slice a 0 c)
 | lr (l : Nat) (t : TypeId) (xs : List (L.D t)) (b off c : Nat) (u : Nat → Nat → Value) (hne : xs ≠ []) (hc : xs.length ≤ c) (hl : F.lb l (t, .slice (some ⟨b, off, none⟩) xs.length c))
   (hu : ∀ i j, i < xs.length → j < (L.ti t).sz → w.cell? ⟨b, off + i * (L.ti t).sz + j, none⟩ = some (u i j))
   (hr : ∀ i j, (h : i < xs.length) → j < (L.ti t).sz → CR L w F ((L.cell t xs[i]).getD j .dead) (u i j)) : CR L w F (.lr l t xs) (.slice (some ⟨b, off, none⟩) xs.length c)
 | rn0 (t : TypeId) (a : Option Addr) (c : Nat) : CR L w F (.rn t []) (.slice a 0 c)
 | rn (t : TypeId) (xs : List (L.D t)) (b off c : Nat) (u : Nat → Nat → Value) (hne : xs ≠ []) (hc : xs.length ≤ c) (hb : F.keeps b)
   (hu : ∀ i j, i < xs.length → j < (L.ti t).sz → w.cell? ⟨b, off + i * (L.ti t).sz + j, none⟩ = some (u i j))
   (hr : ∀ i j, (h : i < xs.length) → j < (L.ti t).sz → CR L w F ((L.cell t xs[i]).getD j .dead) (u i j)) : CR L w F (.rn t xs) (.slice (some ⟨b, off, none⟩) xs.length c)
 | ct (n : Nat) (v : Value) (h : v.oneCell' = true) : CR L w F (.ct n) v
theorem cell_same {w w' : World} {b : Nat} (h : w'.heap[b]? = w.heap[b]?) (o : Nat) : w'.cell? ⟨b, o, none⟩ = w.cell? ⟨b, o, none⟩ := by simp [World.cell?, h]
theorem CR.mono {L : Lay} {w w' : World} {F F' : FS} (hF : Le w w' F F') {s : SV L.D} {v : Value} (h : CR L w F s v) : CR L w' F' s v := by
 induction h with
 | v x h => exact .v x h
 | ro0 t a c => exact .ro0 t a c
 | ro t xs b off c u hne hc hb hu hr ih => exact .ro t xs b off c u hne hc (hF.fz b hb).1 (fun i j hi hj => (cell_same (hF.fz b hb).2 _).trans (hu i j hi hj)) ih
 | lr0 l t a c => exact .lr0 l t a c
 | lr l t xs b off c u hne hc hl hu hr ih => exact .lr l t xs b off c u hne hc (hF.lb _ _ hl).1 (fun i j hi hj => (cell_same ((hF.lb _ _ hl).2 b rfl) _).trans (hu i j hi hj)) ih
 | rn0 t a c => exact .rn0 t a c
 | rn t xs b off c u hne hc hb hu hr ih => exact .rn t xs b off c u hne hc (hF.keeps hb).1 (fun i j hi hj => (cell_same (hF.keeps hb).2 _).trans (hu i j hi hj)) ih
 | ct n v h => exact .ct n v h
theorem CR.one {L : Lay} {w : World} {F : FS} {s : SV L.D} {v : Value} (h : CR L w F s v) : v.oneCell' = true := by
 cases h with
 | v _ h => exact h
 | ro0 => rfl
 | ro => rfl
 | lr0 => rfl
 | lr => rfl
 | rn0 => rfl
 | rn => rfl
 | ct _ _ h => exact h
structure Vl where
 ba : Nat → Nat
 bo : Nat → Nat
 rv : Nat → Value
 lv : Nat → LV
inductive SR (L : Lay) (w : World) (F : FS) (st : St L.D) (V : Vl) (tm : Array Value) : SV L.D → Value → Prop
 | c {s : SV L.D} {v : Value} (h : CR L w F s v) : SR L w F st V tm s v
 | nl (t : TypeId) : SR L w F st V tm (.nl t) (.slice none 0 0)
 | own (i : Nat) (v : Value) (h : ∀ r, st.row i = some r → v = V.rv i) : SR L w F st V tm (.own i) v
 | ptr (b off : Nat) (v : Value) (h : ∀ cs, st.box b = some cs → v = .pointer (some ⟨V.ba b, V.bo b + off, none⟩)) : SR L w F st V tm (.ptr b off) v
 | ep (i ix off : Nat) (v : Value) (h : ∀ r, st.row i = some r → ∃ g c, V.rv i = .slice (some ⟨g, 0, none⟩) r.xs.length c ∧ ix < r.xs.length ∧ v = .pointer (some ⟨g, ix * (L.ti r.t).sz + off, none⟩)) : SR L w F st V tm (.ep i ix off) v
 | rp (t : TypeId) (x : L.D t) (off b o : Nat) (u : Nat → Value) (hb : F.keeps b) (hu : ∀ j, j < (L.ti t).sz → w.cell? ⟨b, o + j, none⟩ = some (u j))
   (hr : ∀ j, j < (L.ti t).sz → CR L w F ((L.cell t x).getD j .dead) (u j)) : SR L w F st V tm (.rp t x off) (.pointer (some ⟨b, o + off, none⟩))
 | agg (cs : List (SV L.D)) (vs : List Value) (hl : cs.length = vs.length) (h1 : ∀ v ∈ vs, v.oneCell' = true) (h : ∀ j, j < cs.length → SR L w F st V tm (cs.getD j .dead) (vs.getD j undef)) : SR L w F st V tm (.agg cs) (.agg vs.toArray)
 | tup (cs : List (SV L.D)) (vs : List Value) (hl : cs.length = vs.length) (h : ∀ j, j < cs.length → SR L w F st V tm (cs.getD j .dead) (vs.getD j undef)) : SR L w F st V tm (.tup cs) (.tuple vs.toArray)
 | cl (f : FuncId) (cs : List (SV L.D)) (vs : List Value) (hl : cs.length = vs.length) (h : ∀ j, j < cs.length → SR L w F st V tm (cs.getD j .dead) (vs.getD j undef)) : SR L w F st V tm (.cl f cs) (.func (.func f) #[] vs.toArray)
 | rb (cs : List (SV L.D)) (off b o : Nat) (u : Nat → Value) (hb : F.keeps b) (hu : ∀ j, j < cs.length → w.cell? ⟨b, o + j, none⟩ = some (u j))
   (hr : ∀ j, j < cs.length → CR L w F (cs.getD j .dead) (u j)) : SR L w F st V tm (.rb cs off) (.pointer (some ⟨b, o + off, none⟩))
 | gd (j : Nat) (wt : Bool) (s : SV L.D) (v : Value) (h : tm.getD j undef = .bool wt → SR L w F st V tm s v) (hu : tm.getD j undef ≠ .bool wt → v = undef) : SR L w F st V tm (.gd j wt s) v
 | ct (n : Nat) (v : Value) : SR L w F st V tm (.ct n) v
 | dead (v : Value) : SR L w F st V tm .dead v
def ownsT (w : World) (e : TypeId) (size : Nat) (v : Value) (n : Nat) (xs : List Value) : Prop :=
  xs.length = n * size ∧ ((v = .slice none 0 0 ∧ n = 0) ∨
   ∃ g cap cur fz, v = .slice (some ⟨g, 0, none⟩) n cap ∧ (fz = (0, 0) ∨ (cur.size ≤ fz.1 ∧ size = 1)) ∧ w.heap[g]? = some (.cells cur e fz) ∧ n ≤ cap ∧ cap ≤ maxLen ∧ cur.size = cap * size ∧ cur.toList.take (n * size) = xs)
theorem fzW {a b c : Prop} (h : a ∨ (b ∧ c)) : a ∨ b := h.imp id And.left
theorem ownsT_of {w : World} {base : Nat} {e : TypeId} {size : Nat} {v : Value} {n : Nat} {xs : List Value} (h : w.ownsRow base e size v n xs) : ownsT w e size v n xs := by
 refine ⟨h.1, ?_⟩
 rcases h.2 with hn | ⟨g, cap, cur, hv, _, hg, rest⟩
 ·exact .inl hn
 ·exact .inr ⟨g, cap, cur, (0, 0), hv, .inl rfl, hg, rest⟩
theorem ownsT.lt {w : World} {e : TypeId} {size : Nat} {v : Value} {n : Nat} {xs : List Value} (h : ownsT w e size v n xs) : ∀ k, v.ownBlock = some k → k < w.heap.size := by
 intro k hk
 rcases h.2 with ⟨rfl, _⟩ | ⟨g, cap, cur, fz, rfl, _, hg, _⟩
 ·cases hk
 ·obtain rfl : g = k := by simpa [Value.ownBlock] using hk
  exact (Array.getElem?_eq_some_iff.1 hg).1
theorem ownsT.cells {w : World} {e : TypeId} {size : Nat} {v : Value} {n : Nat} {xs : List Value} (h : ownsT w e size v n xs) {g : Nat} (hg : v.ownBlock = some g) : ∀ j u, xs[j]? = some u → w.cell? ((⟨g, 0, none⟩ : Addr).add j) = some u := by
 intro j u hu
 rcases h.2 with ⟨rfl, _⟩ | ⟨g', cap, cur, fz, rfl, _, hgg, _, _, _, htake⟩
 ·cases hg
 ·obtain rfl : g' = g := by simpa [Value.ownBlock] using hg
  (have hadd : (⟨g', 0, none⟩ : Addr).add j = ⟨g', j, none⟩ := by unfold Addr.add; split <;> simp_all); (rw [hadd, cell_of_row w g' j cur e fz hgg]); (rw [← htake, List.getElem?_take] at hu)
  split at hu
  ·simpa using hu
  ·cases hu
def RowOk (L : Lay) (w : World) (F : FS) (v : Value) (t : TypeId) (xs : List (L.D t)) : Prop :=
 ∃ cells : List Value, ownsT w t (L.ti t).sz v xs.length cells ∧ (∀ u ∈ cells, u.oneCell' = true) ∧
  ∀ i j, (h : i < xs.length) → j < (L.ti t).sz → CR L w F ((L.cell t xs[i]).getD j .dead) (cells.getD (i * (L.ti t).sz + j) undef)
def Lab {D : TypeId → Type} (st : St D) (l : Nat) : Prop := ∃ n, st.ctr = some n ∧ st.c0 ≤ l ∧ l < n
def Ob {L : Lay} (st : St L.D) (V : Vl) (k : Nat) : Prop := (∃ b cs, st.box b = some cs ∧ V.ba b = k) ∨ ∃ i r, st.row i = some r ∧ r.fz = false ∧ (V.rv i).ownBlock = some k
def Ow {L : Lay} (st : St L.D) (V : Vl) (k : Nat) : Prop := Ob st V k ∨ ∃ l, Lab st l ∧ (V.lv l).2.ownBlock = some k
def LabOk (w : World) (v : LV) : Prop := ∃ (size n : Nat) (cells : List Value), ownsT w v.1 size v.2 n cells
structure Ent where
 nt : Nat
 w0 : World
 F0 : FS
 Imp : Nat → Prop
 adr : List (Nat × Nat)
 q : Option Nat
def Fz {L : Lay} (E : Ent) (st : St L.D) (V : Vl) (w : World) : FS where
 fz := fun k => E.F0 k ∨ ((E.w0.heap.size ≤ k ∨ E.Imp k) ∧ k < w.heap.size ∧ ¬ Ow st V k)
 lb := fun l v => E.F0.lb l v ∨ (Lab st l ∧ v = V.lv l)
structure Rel (L : Lay) (E : Ent) (st : St L.D) (V : Vl) (a : Act) (w : World) : Prop where
 tmp : ∀ n, SR L w (Fz E st V w) st V a.tmps (st.tmp n) (a.tmps.getD n undef)
 box : ∀ b cs, st.box b = some cs → ∃ vs T, w.heap[V.ba b]? = some (.cells vs T (0, 0)) ∧ V.bo b + cs.length ≤ vs.size ∧ ∀ j, j < cs.length → ∃ u, vs[V.bo b + j]? = some u ∧ u.oneCell' = true ∧ SR L w (Fz E st V w) st V a.tmps (cs.getD j .dead) u
 row : ∀ i r, st.row i = some r → (r.fz = true → CR L w (Fz E st V w) (.ro r.t r.xs) (V.rv i)) ∧ (r.fz = false → RowOk L w (Fz E st V w) (V.rv i) r.t r.xs)
 bb : ∀ b b' cs cs', st.box b = some cs → st.box b' = some cs' → V.ba b = V.ba b' → b = b'
 br : ∀ b cs i r, st.box b = some cs → st.row i = some r → r.fz = false → (V.rv i).ownBlock ≠ some (V.ba b)
 rr : ∀ i i' r r' k, st.row i = some r → st.row i' = some r' → r.fz = false → r'.fz = false → (V.rv i).ownBlock = some k → (V.rv i').ownBlock = some k → i = i'
 own : ∀ k, Ow st V k → ¬ E.F0 k ∧ (E.w0.heap.size ≤ k ∨ E.Imp k)
 old : ∀ k, E.F0 k → k < E.w0.heap.size
 fimp : ∀ k, E.F0 k → ¬ E.Imp k
 size : E.w0.heap.size ≤ w.heap.size
 kept : ∀ k, k < E.w0.heap.size → ¬ E.Imp k → w.heap[k]? = E.w0.heap[k]?
 os : w.os = E.w0.os
 tape : w.tape = E.w0.tape
 output : w.output = E.w0.output
 defers : a.defers = []
 slots : a.tmps.size = E.nt
 imps : ∀ q (h : q < st.imps.length), ∃ cs p, st.box st.imps[q] = some cs ∧ E.adr[q]? = some p ∧ V.ba st.imps[q] = p.1 ∧ V.bo st.imps[q] = p.2 ∧ ∀ o, (o < p.2 ∨ p.2 + cs.length ≤ o) → w.cell? ⟨p.1, o, none⟩ = E.w0.cell? ⟨p.1, o, none⟩
 impN : st.imps.length = E.adr.length
 lab : ∀ l, Lab st l → LabOk w (V.lv l)
 lbx : ∀ l b cs, Lab st l → st.box b = some cs → (V.lv l).2.ownBlock ≠ some (V.ba b)
 lrw : ∀ l i r k, Lab st l → st.row i = some r → r.fz = false → (V.lv l).2.ownBlock = some k → (V.rv i).ownBlock ≠ some k
 ll : ∀ l l' k, Lab st l → Lab st l' → (V.lv l).2.ownBlock = some k → (V.lv l').2.ownBlock = some k → l = l'
 labF : ∀ n, st.ctr = some n → st.c0 ≤ n ∧ ∀ l v, E.F0.lb l v → l < st.c0
 oldL : ∀ l v k, E.F0.lb l v → v.2.ownBlock = some k → k < E.w0.heap.size ∧ ¬ E.Imp k
 qc : ∀ n, st.ctr = some n → E.q = some st.c0
section
variable {L : Lay} {w w' : World} {F F' : FS} {st st' : St L.D} {V V' : Vl} {tm tm' : Array Value}
theorem mentL_getD {D : TypeId → Type} {k : Key} : ∀ {cs : List (SV D)} {j : Nat}, mentL k cs = false → ment k (cs.getD j .dead) = false
 | [], _, _ => rfl
 | s :: l, 0, h => by
  simp only [mentL, Bool.or_eq_false_iff] at h
  simpa using h.1
 | s :: l, j + 1, h => by
  simp only [mentL, Bool.or_eq_false_iff] at h
  simpa using mentL_getD (j := j) h.2
structure Same (L : Lay) (w w' : World) (F F' : FS) (st st' : St L.D) (V V' : Vl) (tm tm' : Array Value) (ks : Key → Prop) : Prop where
 mem : Le w w' F F'
 row : ∀ i r', ¬ ks (2, i) → st'.row i = some r' → ∃ r, st.row i = some r ∧ V'.rv i = V.rv i ∧ r'.t = r.t ∧ r'.xs.length = r.xs.length
 box : ∀ b cs', ¬ ks (1, b) → st'.box b = some cs' → ∃ cs, st.box b = some cs ∧ V'.ba b = V.ba b ∧ V'.bo b = V.bo b
 tmp : ∀ j, ¬ ks (0, j) → tm'.getD j undef = tm.getD j undef
theorem SR.same {ks : Key → Prop} (hs : Same L w w' F F' st st' V V' tm tm' ks) {s : SV L.D} {v : Value} (h : SR L w F st V tm s v) (hk : ∀ k, ks k → ment k s = false) : SR L w' F' st' V' tm' s v := by
 induction h with
 | c h => exact .c (h.mono hs.mem)
 | nl t => exact .nl t
 | own i v h =>
  refine .own i v fun r' hr' => ?_
  (have hn : ¬ ks (2, i) := fun hh => by have := hk _ hh; simp [ment, keyEq] at this); (obtain ⟨r, hr, hv, _⟩ := hs.row i r' hn hr'); (rw [hv]; exact h r hr)
 | ptr b off v h =>
  refine .ptr b off v fun cs' hc => ?_
  (have hn : ¬ ks (1, b) := fun hh => by have := hk _ hh; simp [ment, keyEq] at this); (obtain ⟨cs, hcs, h1, h2⟩ := hs.box b cs' hn hc); (rw [h1, h2]; exact h cs hcs)
 | ep i ix off v h =>
  refine .ep i ix off v fun r' hr' => ?_
  (have hn : ¬ ks (2, i) := fun hh => by have := hk _ hh; simp [ment, keyEq] at this); (obtain ⟨r, hr, hv, ht, hl⟩ := hs.row i r' hn hr'); (rw [hv, hl, ht]; exact h r hr)
 | rp t x off b o u hb hu hr => exact .rp t x off b o u (hs.mem.keeps hb).1 (fun j hj => (cell_same (hs.mem.keeps hb).2 _).trans (hu j hj)) fun j hj => (hr j hj).mono hs.mem
 | agg cs vs hl h1 h ih => exact .agg cs vs hl h1 fun j hj => ih j hj fun k hk' => mentL_getD (by have := hk k hk'; simpa [ment] using this)
 | tup cs vs hl h ih => exact .tup cs vs hl fun j hj => ih j hj fun k hk' => mentL_getD (by have := hk k hk'; simpa [ment] using this)
 | cl f cs vs hl h ih => exact .cl f cs vs hl fun j hj => ih j hj fun k hk' => mentL_getD (by have := hk k hk'; simpa [ment] using this)
 | rb cs off b o u hb hu hr => exact .rb cs off b o u (hs.mem.keeps hb).1 (fun j hj => (cell_same (hs.mem.keeps hb).2 _).trans (hu j hj)) fun j hj => (hr j hj).mono hs.mem
 | gd j wt s v h hu ih =>
  have hn : ¬ ks (0, j) := fun hh => by have := hk _ hh; simp [ment, keyEq] at this
  refine .gd j wt s v (fun ht => ih (by rw [← hs.tmp j hn]; exact ht) fun k hk' => by have := hk k hk'; simp only [ment, Bool.or_eq_false_iff] at this; exact this.2) fun hne => hu (by rw [← hs.tmp j hn]; exact hne)
 | ct n v => exact .ct n v
 | dead v => exact .dead v
theorem RowOk.mono {v : Value} {t : TypeId} {xs : List (L.D t)} (h : RowOk L w F v t xs) (hF : Le w w' F F') (hv : ∀ k, v.ownBlock = some k → w'.heap[k]? = w.heap[k]?) : RowOk L w' F' v t xs := by
 obtain ⟨cells, ho, h1, hr⟩ := h
 refine ⟨cells, ⟨ho.1, ?_⟩, h1, fun i j hi hj => (hr i j hi hj).mono hF⟩
 rcases ho.2 with hn | ⟨g, cap, cur, fz, rfl, hb, hg, rest⟩
 ·exact .inl hn
 ·exact .inr ⟨g, cap, cur, fz, rfl, hb, (hv g rfl).trans hg, rest⟩
theorem RowOk.reads {v : Value} {t : TypeId} {xs : List (L.D t)} (h : RowOk L w F v t xs) (hF : Le w w F F') (hv : ∀ k, v.ownBlock = some k → F' k) : CR L w F' (.ro t xs) v := by
 obtain ⟨cells, ho, h1, hr⟩ := h
 rcases ho.2 with ⟨rfl, hn⟩ | ⟨g, cap, cur, fz, rfl, _, hg, hnc, _, hcs, htake⟩
 ·have : xs = [] := List.eq_nil_of_length_eq_zero hn
  subst this
  exact .ro0 t none 0
 ·by_cases hx : xs = []
  ·subst hx; exact .ro0 t _ _
  ·refine .ro t xs g 0 cap (fun i j => cells.getD (i * (L.ti t).sz + j) undef) hx hnc (hv g rfl) (fun i j hi hj => ?_) fun i j hi hj => (hr i j hi hj).mono hF
   have hlt : i * (L.ti t).sz + j < xs.length * (L.ti t).sz := by
    (have : (i + 1) * (L.ti t).sz ≤ xs.length * (L.ti t).sz := Nat.mul_le_mul_right _ hi); (rw [Nat.add_mul] at this; omega)
   (rw [Nat.zero_add, cell_of_row w g _ cur t fz hg]); (have hl : cells.length = xs.length * (L.ti t).sz := ho.1); (rw [List.getD_eq_getElem?_getD, List.getElem?_eq_getElem (by omega), Option.getD_some]); (have e : cells[i * (L.ti t).sz + j]? = cur.toList[i * (L.ti t).sz + j]? := by rw [← htake, List.getElem?_take, if_pos hlt]); (rw [← Array.getElem?_toList, ← e, List.getElem?_eq_getElem (by omega)])
theorem rowOk_newT {g cap : Nat} {cur : Array Value} {t : TypeId} {xs : List (L.D t)} {fz : Nat × Nat} (hfz : fz = (0, 0) ∨ (cur.size ≤ fz.1 ∧ (L.ti t).sz = 1)) (hg : w.heap[g]? = some (.cells cur t fz)) (hc : xs.length ≤ cap) (hm : cap ≤ maxLen) (hs : cur.size = cap * (L.ti t).sz)
  (hcell : ∀ i j, (h : i < xs.length) → j < (L.ti t).sz → ∃ u, cur[i * (L.ti t).sz + j]? = some u ∧ CR L w F ((L.cell t xs[i]).getD j .dead) u) : RowOk L w F (.slice (some ⟨g, 0, none⟩) xs.length cap) t xs := by
 (have hle : xs.length * (L.ti t).sz ≤ cur.size := by rw [hs]; exact Nat.mul_le_mul_right _ hc); (have hl : (cur.toList.take (xs.length * (L.ti t).sz)).length = xs.length * (L.ti t).sz := by simp; omega)
 have hget : ∀ q, q < xs.length * (L.ti t).sz → (cur.toList.take (xs.length * (L.ti t).sz))[q]? = cur[q]? := fun q hq => by
  rw [List.getElem?_take, if_pos hq, Array.getElem?_toList]
 have hlt : ∀ i j, i < xs.length → j < (L.ti t).sz → i * (L.ti t).sz + j < xs.length * (L.ti t).sz := fun i j hi hj => by
  (have : (i + 1) * (L.ti t).sz ≤ xs.length * (L.ti t).sz := Nat.mul_le_mul_right _ hi); (rw [Nat.add_mul] at this; omega)
 refine ⟨cur.toList.take (xs.length * (L.ti t).sz), ⟨hl, .inr ⟨g, cap, cur, fz, rfl, hfz, hg, hc, hm, hs, rfl⟩⟩, fun u hu => ?_, fun i j hi hj => ?_⟩
 ·obtain ⟨q, hq, rfl⟩ := List.getElem_of_mem hu
  rw [hl] at hq
  have hsz : 0 < (L.ti t).sz := by
   rcases Nat.eq_zero_or_pos (L.ti t).sz with h0 | h0
   ·rw [h0, Nat.mul_zero] at hq; omega
   ·exact h0
  (have hi : q / (L.ti t).sz < xs.length := Nat.div_lt_of_lt_mul (by rw [Nat.mul_comm]; exact hq)); (obtain ⟨u, hu, hr⟩ := hcell (q / (L.ti t).sz) (q % (L.ti t).sz) hi (Nat.mod_lt _ hsz)); (rw [Nat.mul_comm, Nat.div_add_mod, ← hget q hq, List.getElem?_eq_getElem (by rw [hl]; exact hq)] at hu); (rw [Option.some.inj hu]; exact hr.one)
 ·obtain ⟨u, hu, hr⟩ := hcell i j hi hj
  have e : (cur.toList.take (xs.length * (L.ti t).sz)).getD (i * (L.ti t).sz + j) undef = u := by
   rw [List.getD_eq_getElem?_getD, hget _ (hlt i j hi hj), hu]; rfl
  rw [e]
  exact hr
theorem rowOk_new {g cap : Nat} {cur : Array Value} {t : TypeId} {xs : List (L.D t)} (hg : w.heap[g]? = some (.cells cur t (0, 0))) (hc : xs.length ≤ cap) (hm : cap ≤ maxLen) (hs : cur.size = cap * (L.ti t).sz)
  (hcell : ∀ i j, (h : i < xs.length) → j < (L.ti t).sz → ∃ u, cur[i * (L.ti t).sz + j]? = some u ∧ CR L w F ((L.cell t xs[i]).getD j .dead) u) : RowOk L w F (.slice (some ⟨g, 0, none⟩) xs.length cap) t xs := rowOk_newT (.inl rfl) hg hc hm hs hcell
end
end Go.Proofs.YtfeikakkfnnaoaaGreatDoor.V
namespace Go.Proofs.YtfeikakkfnnaoaaGreatDoor.V
open Go
set_option linter.unusedVariables false
theorem look_append {α : Type} : ∀ (l m : List (Nat × α)) (n : Nat), look (l ++ m) n = (look l n).or (look m n)
 | [], m, n => rfl
 | (k, x) :: l, m, n => by
  simp only [List.cons_append, look]
  split
  ·rfl
  ·exact look_append l m n
theorem look_mem {α : Type} : ∀ {l : List (Nat × α)} {n : Nat} {x : α}, look l n = some x → (n, x) ∈ l
 | (k, y) :: l, n, x, h => by
  simp only [look] at h
  split at h
  ·rename_i e
   (obtain rfl := Option.some.inj h); (obtain rfl : n = k := Nat.eq_of_beq_eq_true e)
   exact List.mem_cons_self
  ·exact List.mem_cons_of_mem _ (look_mem h)
section
variable {D : TypeId → Type}
theorem tmp_put_same (st : St D) (n : Nat) (d : Dl D) : (st.put (some n) d).tmp n = d.val := by
 simp [St.put, St.tmp, look, orDead]
theorem tmp_put_other (st : St D) {n m : Nat} (h : m ≠ n) (d : Dl D) : (st.put (some n) d).tmp m = st.tmp m := by
 have : Nat.beq m n = false := by
  cases hb : Nat.beq m n with
  | false => rfl
  | true => exact absurd (Nat.eq_of_beq_eq_true hb) h
 simp [St.put, St.tmp, look, this]
theorem tmp_put_none (st : St D) (m : Nat) (d : Dl D) : (st.put none d).tmp m = st.tmp m := rfl
theorem box_put (st : St D) (dst : Option Nat) (d : Dl D) (b : Nat) : (st.put dst d).box b = match look d.boxes b with | some o => o | none => st.box b := by
 simp only [St.put, St.box, look_append]
 cases look d.boxes b <;> rfl
theorem row_put (st : St D) (dst : Option Nat) (d : Dl D) (i : Nat) : (st.put dst d).row i = match look d.rows i with | some o => o | none => st.row i := by
 simp only [St.put, St.row, look_append]
 cases look d.rows i <;> rfl
theorem mentT_look {k : Key} : ∀ {l : List (Nat × SV D)}, mentT k l = false → ∀ n, ment k (orDead (look l n)) = false
 | [], _, _ => rfl
 | (m, s) :: l, h, n => by
  (simp only [mentT, Bool.or_eq_false_iff] at h); (simp only [look])
  split
  ·exact h.1
  ·exact mentT_look h.2 n
theorem mentC_look {k : Key} : ∀ {l : List (Nat × Option (List (SV D)))}, mentC k l = false → ∀ b cs, look l b = some (some cs) → mentL k cs = false
 | (m, some cs') :: l, h, b, cs, hl => by
  (simp only [mentC, Bool.or_eq_false_iff] at h); (simp only [look] at hl)
  split at hl
  ·obtain rfl := Option.some.inj (Option.some.inj hl); exact h.1
  ·exact mentC_look h.2 b cs hl
 | (m, none) :: l, h, b, cs, hl => by
  (simp only [mentC] at h); (simp only [look] at hl)
  split at hl
  ·cases hl
  ·exact mentC_look h b cs hl
theorem clean_mem {st : St D} : ∀ {ks : List Key}, clean st ks = true → ∀ k, k ∈ ks → mentT k st.tmps = false ∧ mentC k st.boxes = false
 | k' :: l, h, k, hk => by
  simp only [clean, Bool.and_eq_true, Bool.not_eq_true'] at h
  rcases List.mem_cons.1 hk with rfl | hk
  ·exact h.1.1
  ·exact clean_mem h.2 k hk
theorem clean_imps {st : St D} : ∀ {ks : List Key}, clean st ks = true → ∀ b, (1, b) ∈ ks → b ∉ st.imps
 | k' :: l, h, b, hk => by
  simp only [clean, Bool.and_eq_true, Bool.not_eq_true'] at h
  rcases List.mem_cons.1 hk with rfl | hk
  ·intro hb
   (have := h.1.2); (simp only [Bool.not_eq_true', List.any_eq_false] at this); (have := this b hb)
   simp at this
  ·exact clean_imps h.2 b hk
theorem clean_tmp {st : St D} {ks : List Key} (h : clean st ks = true) {k : Key} (hk : k ∈ ks) (n : Nat) : ment k (st.tmp n) = false := mentT_look (clean_mem h k hk).1 n
theorem clean_box {st : St D} {ks : List Key} (h : clean st ks = true) {k : Key} (hk : k ∈ ks) {b : Nat} {cs : List (SV D)} (hb : st.box b = some cs) (j : Nat) : ment k (cs.getD j .dead) = false := by
 refine mentL_getD ?_
 refine mentC_look (clean_mem h k hk).2 b cs ?_
 unfold St.box at hb
 cases hl : look st.boxes b with
 | none => rw [hl] at hb; cases hb
 | some o => rw [hl] at hb; simp only at hb; rw [hb]
end
theorem put_getD_same {a : Act} {n : Nat} (h : n < a.tmps.size) (v : Value) : (a.put (some n) v).tmps.getD n undef = v := by
 simp [Act.put, Array.getD, h]
theorem put_getD_other {a : Act} {n m : Nat} (h : m ≠ n) (v : Value) : (a.put (some n) v).tmps.getD m undef = a.tmps.getD m undef := by
 (simp only [Act.put, Array.getD_eq_getD_getElem?]); (rw [Array.getElem?_setIfInBounds_ne (by omega)])
theorem put_defers (a : Act) (d : Option Nat) (v : Value) : (a.put d v).defers = a.defers := by cases d <;> rfl
theorem put_size (a : Act) (d : Option Nat) (v : Value) : (a.put d v).tmps.size = a.tmps.size := by cases d <;> simp [Act.put]
section
variable {L : Lay} {E : Ent}
def BoxOk (L : Lay) (E : Ent) (st : St L.D) (V : Vl) (tm : Array Value) (w : World) (b : Nat) (cs : List (SV L.D)) : Prop :=
 ∃ vs T, w.heap[V.ba b]? = some (.cells vs T (0, 0)) ∧ V.bo b + cs.length ≤ vs.size ∧ ∀ j, j < cs.length → ∃ u, vs[V.bo b + j]? = some u ∧ u.oneCell' = true ∧ SR L w (Fz E st V w) st V tm (cs.getD j .dead) u
def RowIs (L : Lay) (E : Ent) (st : St L.D) (V : Vl) (w : World) (i : Nat) (r : Row L.D) : Prop :=
 (r.fz = true → CR L w (Fz E st V w) (.ro r.t r.xs) (V.rv i)) ∧ (r.fz = false → RowOk L w (Fz E st V w) (V.rv i) r.t r.xs)
structure Turn (L : Lay) (E : Ent) (st : St L.D) (V : Vl) (w : World) (ks : Key → Prop) (st' : St L.D) (V' : Vl) (tm' : Array Value) (w' : World) : Prop where
 mem : Le w w' (Fz E st V w) (Fz E st' V' w')
 rowS : ∀ i r', ¬ ks (2, i) → st'.row i = some r' → ∃ r, st.row i = some r ∧ V'.rv i = V.rv i ∧ r'.t = r.t ∧ r'.xs.length = r.xs.length
 boxS : ∀ b cs', ¬ ks (1, b) → st'.box b = some cs' → ∃ cs, st.box b = some cs ∧ V'.ba b = V.ba b ∧ V'.bo b = V.bo b
 box : ∀ b cs, st'.box b = some cs → (st.box b = some cs ∧ V'.ba b = V.ba b ∧ V'.bo b = V.bo b ∧ w'.heap[V.ba b]? = w.heap[V.ba b]?) ∨ BoxOk L E st' V' tm' w' b cs
 row : ∀ i r, st'.row i = some r → (st.row i = some r ∧ V'.rv i = V.rv i ∧ (r.fz = false → ∀ k, (V.rv i).ownBlock = some k → w'.heap[k]? = w.heap[k]?)) ∨ RowIs L E st' V' w' i r
 bb : ∀ b b' cs cs', st'.box b = some cs → st'.box b' = some cs' → V'.ba b = V'.ba b' → b = b'
 br : ∀ b cs i r, st'.box b = some cs → st'.row i = some r → r.fz = false → (V'.rv i).ownBlock ≠ some (V'.ba b)
 rr : ∀ i i' r r' k, st'.row i = some r → st'.row i' = some r' → r.fz = false → r'.fz = false → (V'.rv i).ownBlock = some k → (V'.rv i').ownBlock = some k → i = i'
 own : ∀ k, Ow st' V' k → ¬ E.F0 k ∧ (E.w0.heap.size ≤ k ∨ E.Imp k)
 size : w.heap.size ≤ w'.heap.size
 kept : ∀ k, k < E.w0.heap.size → ¬ E.Imp k → w'.heap[k]? = w.heap[k]?
 os : w'.os = w.os
 tape : w'.tape = w.tape
 output : w'.output = w.output
 imps : st'.imps = st.imps
 impB : ∀ b, b ∈ st.imps → ∀ cs, st.box b = some cs → ∃ cs', st'.box b = some cs' ∧ cs'.length = cs.length ∧ V'.ba b = V.ba b ∧ V'.bo b = V.bo b ∧ ∀ o, (o < V.bo b ∨ V.bo b + cs.length ≤ o) → w'.cell? ⟨V.ba b, o, none⟩ = w.cell? ⟨V.ba b, o, none⟩
 lab : ∀ l, Lab st' l → LabOk w' (V'.lv l)
 lbx : ∀ l b cs, Lab st' l → st'.box b = some cs → (V'.lv l).2.ownBlock ≠ some (V'.ba b)
 lrw : ∀ l i r k, Lab st' l → st'.row i = some r → r.fz = false → (V'.lv l).2.ownBlock = some k → (V'.rv i).ownBlock ≠ some k
 ll : ∀ l l' k, Lab st' l → Lab st' l' → (V'.lv l).2.ownBlock = some k → (V'.lv l').2.ownBlock = some k → l = l'
 labF : ∀ n, st'.ctr = some n → st'.c0 ≤ n ∧ ∀ l v, E.F0.lb l v → l < st'.c0
 qc : ∀ n, st'.ctr = some n → E.q = some st'.c0
theorem Rel.turn {st : St L.D} {V : Vl} {a : Act} {w : World} (h : Rel L E st V a w) {dst : Option Nat} {d : Dl L.D} {ks : List Key} (hc : clean st ks = true) (hd : ∀ n, dst = some n → (0, n) ∈ ks ∧ n < E.nt)
  {V' : Vl} {w' : World} {v : Value} (T : Turn L E st V w (· ∈ ks) (st.put dst d) V' (a.put dst v).tmps w')
  (hv : ∀ n, dst = some n → SR L w' (Fz E (st.put dst d) V' w') (st.put dst d) V' (a.put dst v).tmps d.val v) : Rel L E (st.put dst d) V' (a.put dst v) w' := by
 have htm : ∀ j, ¬ (0, j) ∈ ks → (a.put dst v).tmps.getD j undef = a.tmps.getD j undef := by
  intro j hj
  cases hdst : dst with
  | none => rfl
  | some n =>
   refine put_getD_other (fun e => hj ?_) v
   rw [e]; exact (hd n hdst).1
 have S : Same L w w' (Fz E st V w) (Fz E (st.put dst d) V' w') st (st.put dst d) V V' a.tmps (a.put dst v).tmps (· ∈ ks) := ⟨T.mem, T.rowS, T.boxS, htm⟩
 refine ⟨fun n => ?_, fun b cs hb => ?_, fun i r hr => ?_, T.bb, T.br, T.rr, T.own, h.old, h.fimp, Nat.le_trans h.size T.size, fun k hk hi => (T.kept k hk hi).trans (h.kept k hk hi), T.os.trans h.os, T.tape.trans h.tape, T.output.trans h.output, (put_defers a dst v).trans h.defers, (put_size a dst v).trans h.slots, fun q hq => ?_, h.impN, T.lab, T.lbx, T.lrw, T.ll, T.labF, h.oldL, T.qc⟩
 ·by_cases e : dst = some n
  ·have hn := (hd n e).2
   (have := hv n e); (subst e); (rw [tmp_put_same, put_getD_same (by rw [h.slots]; exact hn)])
   exact this
  ·have e1 : (st.put dst d).tmp n = st.tmp n := by
    cases hdst : dst with
    | none => rfl
    | some m => exact tmp_put_other st (fun hh => e (by rw [hdst, hh])) d
   have e2 : (a.put dst v).tmps.getD n undef = a.tmps.getD n undef := by
    cases hdst : dst with
    | none => rfl
    | some m => exact put_getD_other (fun hh => e (by rw [hdst, hh])) v
   rw [e1, e2]
   exact (h.tmp n).same S fun k hk => clean_tmp hc hk n
 ·rcases T.box b cs hb with ⟨hb0, h1, h2, hm⟩ | hn
  ·obtain ⟨vs, Ty, hh, hl, hj⟩ := h.box b cs hb0
   refine ⟨vs, Ty, ?_, by rw [h2]; exact hl, fun j hjl => ?_⟩
   ·rw [h1, hm]; exact hh
   ·obtain ⟨u, hu, hu1, hs⟩ := hj j hjl
    exact ⟨u, by rw [h2]; exact hu, hu1, hs.same S fun k hk => clean_box hc hk hb0 j⟩
  ·exact hn
 ·rcases T.row i r hr with ⟨hr0, h1, hm⟩ | hn
  ·obtain ⟨p, q⟩ := h.row i r hr0
   refine ⟨fun hf => ?_, fun hf => ?_⟩
   ·rw [h1]; exact (p hf).mono T.mem
   ·rw [h1]; exact (q hf).mono T.mem (hm hf)
  ·exact hn
 ·have hq' : q < st.imps.length := by simpa [T.imps] using hq
  (obtain ⟨cs, p, hb, hp, h1, h2, h3⟩ := h.imps q hq'); (obtain ⟨cs', hb', hl, g1, g2, g3⟩ := T.impB st.imps[q] (List.getElem_mem _) cs hb); (rw [h1, h2] at g3)
  exact ⟨cs', p, hb', hp, g1.trans h1, g2.trans h2, fun o ho => (g3 o (by rw [← hl]; exact ho)).trans (h3 o (by rw [← hl]; exact ho))⟩
theorem Rel.box_lt {st : St L.D} {V : Vl} {a : Act} {w : World} (h : Rel L E st V a w) {b : Nat} {cs : List (SV L.D)} (hb : st.box b = some cs) : V.ba b < w.heap.size := by
 obtain ⟨vs, T, hh, _⟩ := h.box b cs hb
 exact (Array.getElem?_eq_some_iff.1 hh).1
theorem RowOk.lt {w : World} {F : FS} {v : Value} {t : TypeId} {xs : List (L.D t)} (h : RowOk L w F v t xs) {k : Nat} (hk : v.ownBlock = some k) : k < w.heap.size := by
 obtain ⟨cells, ho, _⟩ := h
 exact ho.lt k hk
theorem Rel.row_lt {st : St L.D} {V : Vl} {a : Act} {w : World} (h : Rel L E st V a w) {i : Nat} {r : Row L.D} (hr : st.row i = some r) (hf : r.fz = false) {k : Nat} (hk : (V.rv i).ownBlock = some k) : k < w.heap.size := ((h.row i r hr).2 hf).lt hk
theorem Rel.ob_lt {st : St L.D} {V : Vl} {a : Act} {w : World} (h : Rel L E st V a w) {k : Nat} (ho : Ob st V k) : k < w.heap.size := by
 rcases ho with ⟨b, cs, hb, rfl⟩ | ⟨i, r, hr, hf, hk⟩
 ·exact h.box_lt hb
 ·exact h.row_lt hr hf hk
theorem Rel.lab_lt {st : St L.D} {V : Vl} {a : Act} {w : World} (h : Rel L E st V a w) {l k : Nat} (hl : Lab st l) (hk : (V.lv l).2.ownBlock = some k) : k < w.heap.size := by
 obtain ⟨sz, n, cells, ho⟩ := h.lab l hl
 exact ho.lt k hk
theorem Rel.ow_lt {st : St L.D} {V : Vl} {a : Act} {w : World} (h : Rel L E st V a w) {k : Nat} (ho : Ow st V k) : k < w.heap.size := by
 rcases ho with ho | ⟨l, hl, hk⟩
 ·exact h.ob_lt ho
 ·exact h.lab_lt hl hk
theorem Rel.lab_ob {st : St L.D} {V : Vl} {a : Act} {w : World} (h : Rel L E st V a w) {l k : Nat} (hl : Lab st l) (hk : (V.lv l).2.ownBlock = some k) : ¬ Ob st V k := by
 rintro (⟨b, cs, hb, rfl⟩ | ⟨i, r, hr, hf, e⟩)
 ·exact h.lbx l b cs hl hb hk
 ·exact h.lrw l i r k hl hr hf hk e
theorem Rel.fz_not {st : St L.D} {V : Vl} {a : Act} {w : World} (h : Rel L E st V a w) {k : Nat} (hk : Fz E st V w k) : ¬ Ow st V k := by
 rcases hk with hk | hk
 ·exact fun ho => (h.own k ho).1 hk
 ·exact hk.2.2
theorem Rel.fz_lt {st : St L.D} {V : Vl} {a : Act} {w : World} (h : Rel L E st V a w) {k : Nat} (hk : Fz E st V w k) : k < w.heap.size := by
 rcases hk with hk | hk
 ·exact Nat.lt_of_lt_of_le (h.old k hk) h.size
 ·exact hk.2.1
structure Ch (L : Lay) (E : Ent) (st : St L.D) (V : Vl) (w : World) (ks : Key → Prop) (st' : St L.D) (V' : Vl) (tm' : Array Value) (w' : World) : Prop where
 same : ∀ k, k < w.heap.size → (w'.heap[k]? = w.heap[k]?) ∨ Ob st V k
 owned : ∀ k, Ob st' V' k → w.heap.size ≤ k ∨ Ob st V k
 c0 : st'.c0 = st.c0
 labM : ∀ l, Lab st l → Lab st' l ∧ V'.lv l = V.lv l
 labN : ∀ l, Lab st' l → Lab st l ∨ (LabOk w' (V'.lv l) ∧ ∀ k, (V'.lv l).2.ownBlock = some k → (w.heap.size ≤ k ∨ Ob st V k) ∧ ¬ Ob st' V' k)
 labD : ∀ l l' k, Lab st' l → ¬ Lab st l → Lab st' l' → ¬ Lab st l' → (V'.lv l).2.ownBlock = some k → (V'.lv l').2.ownBlock = some k → l = l'
 ctrF : ∀ n, st'.ctr = some n → ∃ m, st.ctr = some m ∧ m ≤ n
 rowS : ∀ i r', ¬ ks (2, i) → st'.row i = some r' → ∃ r, st.row i = some r ∧ V'.rv i = V.rv i ∧ r'.t = r.t ∧ r'.xs.length = r.xs.length
 boxS : ∀ b cs', ¬ ks (1, b) → st'.box b = some cs' → ∃ cs, st.box b = some cs ∧ V'.ba b = V.ba b ∧ V'.bo b = V.bo b
 box : ∀ b cs, st'.box b = some cs → (st.box b = some cs ∧ V'.ba b = V.ba b ∧ V'.bo b = V.bo b ∧ w'.heap[V.ba b]? = w.heap[V.ba b]?) ∨ BoxOk L E st' V' tm' w' b cs
 row : ∀ i r, st'.row i = some r → (st.row i = some r ∧ V'.rv i = V.rv i ∧ (r.fz = false → ∀ k, (V.rv i).ownBlock = some k → w'.heap[k]? = w.heap[k]?)) ∨ RowIs L E st' V' w' i r
 bb : ∀ b b' cs cs', st'.box b = some cs → st'.box b' = some cs' → V'.ba b = V'.ba b' → b = b'
 br : ∀ b cs i r, st'.box b = some cs → st'.row i = some r → r.fz = false → (V'.rv i).ownBlock ≠ some (V'.ba b)
 rr : ∀ i i' r r' k, st'.row i = some r → st'.row i' = some r' → r.fz = false → r'.fz = false → (V'.rv i).ownBlock = some k → (V'.rv i').ownBlock = some k → i = i'
 size : w.heap.size ≤ w'.heap.size
 os : w'.os = w.os
 tape : w'.tape = w.tape
 output : w'.output = w.output
 imps : st'.imps = st.imps
 impB : ∀ b, b ∈ st.imps → ∀ cs, st.box b = some cs → ∃ cs', st'.box b = some cs' ∧ cs'.length = cs.length ∧ V'.ba b = V.ba b ∧ V'.bo b = V.bo b ∧ ∀ o, (o < V.bo b ∨ V.bo b + cs.length ≤ o) → w'.cell? ⟨V.ba b, o, none⟩ = w.cell? ⟨V.ba b, o, none⟩
theorem same_kept {st : St L.D} {V : Vl} {a : Act} {w w' : World} (h : Rel L E st V a w) (hs : ∀ k, k < w.heap.size → (w'.heap[k]? = w.heap[k]?) ∨ Ob st V k) : ∀ k, k < E.w0.heap.size → ¬ E.Imp k → w'.heap[k]? = w.heap[k]? := fun k hk hi =>
 (hs k (by have := h.size; omega)).resolve_right fun ho => by
  rcases (h.own k (.inl ho)).2 with h1 | h1
  ·omega
  ·exact hi h1
theorem lb_turn {st st' : St L.D} {V V' : Vl} {a : Act} {w w' : World} (h : Rel L E st V a w) (hs : ∀ k, k < w.heap.size → (w'.heap[k]? = w.heap[k]?) ∨ Ob st V k) (hm : ∀ l, Lab st l → Lab st' l ∧ V'.lv l = V.lv l) :
  ∀ l v, (Fz E st V w).lb l v → (Fz E st' V' w').lb l v ∧ ∀ k, v.2.ownBlock = some k → w'.heap[k]? = w.heap[k]? := by
 rintro l v (hl | ⟨hl, rfl⟩)
 ·exact ⟨.inl hl, fun k hk => same_kept h hs k (h.oldL l v k hl hk).1 (h.oldL l v k hl hk).2⟩
 ·refine ⟨.inr ⟨(hm l hl).1, (hm l hl).2.symm⟩, fun k hk => (hs k (h.lab_lt hl hk)).resolve_right (h.lab_ob hl hk)⟩
theorem fz_turn {st st' : St L.D} {V V' : Vl} {a : Act} {w w' : World} (h : Rel L E st V a w) (hs : ∀ k, k < w.heap.size → (w'.heap[k]? = w.heap[k]?) ∨ Ob st V k) (ho : ∀ k, Ow st' V' k → w.heap.size ≤ k ∨ Ow st V k) (hz : w.heap.size ≤ w'.heap.size) (hm : ∀ l, Lab st l → Lab st' l ∧ V'.lv l = V.lv l) :
  Le w w' (Fz E st V w) (Fz E st' V' w') := by
 refine ⟨fun k hk => ?_, lb_turn h hs hm⟩
 refine ⟨?_, (hs k (h.fz_lt hk)).resolve_right fun ho => h.fz_not hk (.inl ho)⟩
 rcases hk with hk | ⟨h1, h2, h3⟩
 ·exact .inl hk
 ·refine .inr ⟨h1, by omega, fun ho' => ?_⟩
  rcases ho k ho' with h4 | h4
  ·omega
  ·exact h3 h4
theorem ownsT.move {w w' : World} {e : TypeId} {size : Nat} {v : Value} {n : Nat} {xs : List Value} (h : ownsT w e size v n xs) (hv : ∀ k, v.ownBlock = some k → w'.heap[k]? = w.heap[k]?) : ownsT w' e size v n xs := by
 refine ⟨h.1, ?_⟩
 rcases h.2 with hn | ⟨g, cap, cur, fz, rfl, hb, hg, rest⟩
 ·exact .inl hn
 ·exact .inr ⟨g, cap, cur, fz, rfl, hb, (hv g rfl).trans hg, rest⟩
theorem Ch.ow {st st' : St L.D} {V V' : Vl} {w w' : World} {ks : Key → Prop} {tm' : Array Value} (C : Ch L E st V w ks st' V' tm' w') : ∀ k, Ow st' V' k → w.heap.size ≤ k ∨ Ow st V k := by
 rintro k (ho | ⟨l, hl, e⟩)
 ·exact (C.owned k ho).imp id .inl
 ·by_cases h0 : Lab st l
  ·rw [(C.labM l h0).2] at e
   exact .inr (.inr ⟨l, h0, e⟩)
  ·exact (((C.labN l hl).resolve_left h0).2 k e).1.imp id .inl
theorem Ch.lab_not {st st' : St L.D} {V V' : Vl} {a : Act} {w w' : World} {ks : Key → Prop} {tm' : Array Value} (C : Ch L E st V w ks st' V' tm' w') (h : Rel L E st V a w) {l k : Nat} (hl : Lab st' l) (e : (V'.lv l).2.ownBlock = some k) : ¬ Ob st' V' k := fun ho => by
 by_cases h0 : Lab st l
 ·rw [(C.labM l h0).2] at e
  rcases C.owned k ho with h1 | h1
  ·have := h.lab_lt h0 e; omega
  ·exact h.lab_ob h0 e h1
 ·exact (((C.labN l hl).resolve_left h0).2 k e).2 ho
theorem Ch.turn {st st' : St L.D} {V V' : Vl} {a : Act} {w w' : World} {ks : Key → Prop} {tm' : Array Value} (h : Rel L E st V a w) (C : Ch L E st V w ks st' V' tm' w') : Turn L E st V w ks st' V' tm' w' where
 mem := fz_turn h C.same C.ow C.size C.labM
 lab := fun l hl => by
  by_cases hl0 : Lab st l
  ·obtain ⟨sz, n, cells, ho⟩ := h.lab l hl0
   rw [(C.labM l hl0).2]
   exact ⟨sz, n, cells, ho.move fun k hk => (C.same k (h.lab_lt hl0 hk)).resolve_right (h.lab_ob hl0 hk)⟩
  ·exact ((C.labN l hl).resolve_left hl0).1
 lbx := fun l b cs hl hb e => (C.lab_not h hl e) (.inl ⟨b, cs, hb, rfl⟩)
 lrw := fun l i r k hl hr hf e e' => (C.lab_not h hl e) (.inr ⟨i, r, hr, hf, e'⟩)
 ll := fun l l' k hl hl' e e' => by
  by_cases h0 : Lab st l
  ·by_cases h0' : Lab st l'
   ·rw [(C.labM l h0).2] at e
    rw [(C.labM l' h0').2] at e'
    exact h.ll l l' k h0 h0' e e'
   ·rw [(C.labM l h0).2] at e
    have := (((C.labN l' hl').resolve_left h0').2 k e').1
    rcases this with h1 | h1
    ·have := h.lab_lt h0 e; omega
    ·exact absurd h1 (h.lab_ob h0 e)
  ·by_cases h0' : Lab st l'
   ·rw [(C.labM l' h0').2] at e'
    have := (((C.labN l hl).resolve_left h0).2 k e).1
    rcases this with h1 | h1
    ·have := h.lab_lt h0' e'; omega
    ·exact absurd h1 (h.lab_ob h0' e')
   ·exact C.labD l l' k hl h0 hl' h0' e e'
 labF := fun n hn => by
  (obtain ⟨m, hm, hle⟩ := C.ctrF n hn); (obtain ⟨h1, h2⟩ := h.labF m hm); (rw [C.c0])
  exact ⟨Nat.le_trans h1 hle, h2⟩
 qc := fun n hn => by
  (obtain ⟨m, hm, _⟩ := C.ctrF n hn); (rw [C.c0])
  exact h.qc m hm
 rowS := C.rowS
 boxS := C.boxS
 box := C.box
 row := C.row
 bb := C.bb
 br := C.br
 rr := C.rr
 own := fun k hk => by
  rcases C.ow k hk with h1 | h1
  ·exact ⟨fun hf => by have := h.old k hf; have := h.size; omega, .inl (by have := h.size; omega)⟩
  ·exact h.own k h1
 size := C.size
 kept := same_kept h C.same
 os := C.os
 tape := C.tape
 output := C.output
 imps := C.imps
 impB := C.impB
theorem Ch.keep {st : St L.D} {V : Vl} {a : Act} {w w' : World} (h : Rel L E st V a w) (ks : Key → Prop) (dst : Option Nat) (s : SV L.D) (tm' : Array Value) (hw : ∀ k, k < w.heap.size → w'.heap[k]? = w.heap[k]?) (hz : w.heap.size ≤ w'.heap.size)
  (os : w'.os = w.os) (tape : w'.tape = w.tape) (output : w'.output = w.output) : Ch L E st V w ks (st.put dst { val := s }) V tm' w' where
 same := fun k hk => .inl (hw k hk)
 owned := fun k hk => .inr hk
 c0 := rfl
 labM := fun l hl => ⟨hl, rfl⟩
 labN := fun l hl => .inl hl
 labD := fun l l' k hl hn _ _ _ _ => absurd hl hn
 ctrF := fun n hn => ⟨n, hn, Nat.le_refl _⟩
 rowS := fun i r' _ hr => ⟨r', hr, rfl, rfl, rfl⟩
 boxS := fun b cs' _ hb => ⟨cs', hb, rfl, rfl⟩
 box := fun b cs hb => .inl ⟨hb, rfl, rfl, hw _ (h.box_lt hb)⟩
 row := fun i r hr => .inl ⟨hr, rfl, fun hf k hk => hw k (h.row_lt hr hf hk)⟩
 bb := h.bb
 br := h.br
 rr := h.rr
 size := hz
 os := os
 tape := tape
 output := output
 imps := rfl
 impB := fun b _ cs hb => ⟨cs, hb, rfl, rfl, rfl, fun o _ => cell_same (hw _ (h.box_lt hb)) o⟩
theorem Rel.put {st : St L.D} {V : Vl} {a : Act} {w w' : World} (h : Rel L E st V a w) {dst : Option Nat} {s : SV L.D} {ks : List Key} (hc : clean st ks = true) (hd : ∀ n, dst = some n → (0, n) ∈ ks ∧ n < E.nt) {v : Value}
  (hw : ∀ k, k < w.heap.size → w'.heap[k]? = w.heap[k]?) (hz : w.heap.size ≤ w'.heap.size) (os : w'.os = w.os) (tape : w'.tape = w.tape) (output : w'.output = w.output)
  (hv : SR L w' (Fz E st V w') st V (a.put dst v).tmps s v) : Rel L E (st.put dst { val := s }) V (a.put dst v) w' := by
 refine h.turn hc hd ((Ch.keep h _ dst s _ hw hz os tape output).turn h) fun n hn => ?_
 refine SR.same (ks := fun _ => False) (w := w') (F := Fz E st V w') (st := st) (V := V) (tm := (a.put dst v).tmps) (s := s) (w' := w') (F' := Fz E (st.put dst { val := s }) V w') (st' := st.put dst { val := s }) (V' := V) (tm' := (a.put dst v).tmps) ⟨Le.refl _ _, fun i r' _ hr => ⟨r', hr, rfl, rfl, rfl⟩, fun b cs _ hb => ⟨cs, hb, rfl, rfl⟩, fun _ _ => rfl⟩ hv fun k hk => hk.elim
theorem Rel.put' {st : St L.D} {V : Vl} {a : Act} {w : World} (h : Rel L E st V a w) {dst : Option Nat} {s : SV L.D} {ks : List Key} (hc : clean st ks = true) (hd : ∀ n, dst = some n → (0, n) ∈ ks ∧ n < E.nt) {v : Value}
  (hv : SR L w (Fz E st V w) st V (a.put dst v).tmps s v) : Rel L E (st.put dst { val := s }) V (a.put dst v) w :=
 h.put hc hd (fun _ _ => rfl) (Nat.le_refl _) rfl rfl rfl hv
end
end Go.Proofs.YtfeikakkfnnaoaaGreatDoor.V
namespace Go.Proofs.YtfeikakkfnnaoaaGreatDoor.V
open Go
set_option linter.unusedVariables false
set_option linter.unusedSimpArgs false
section
variable {L : Lay} {w : World} {F : FS} {st : St L.D} {V : Vl} {tm : Array Value} {u : Value}
theorem SR.v_inv {x : Value} (h : SR L w F st V tm (.v x) u) : u = x ∧ x.oneCell' = true := by
 cases h with
 | c h => cases h with | v _ h => exact ⟨rfl, h⟩
theorem SR.ro_inv {t : TypeId} {xs : List (L.D t)} (h : SR L w F st V tm (.ro t xs) u) : CR L w F (.ro t xs) u := by
 cases h with
 | c h => exact h
theorem SR.own_inv {i : Nat} {r : Row L.D} (h : SR L w F st V tm (.own i) u) (hr : st.row i = some r) : u = V.rv i := by
 cases h with
 | c h => cases h
 | own _ _ h => exact h r hr
theorem SR.ptr_inv {b off : Nat} {cs : List (SV L.D)} (h : SR L w F st V tm (.ptr b off) u) (hb : st.box b = some cs) : u = .pointer (some ⟨V.ba b, V.bo b + off, none⟩) := by
 cases h with
 | c h => cases h
 | ptr _ _ _ h => exact h cs hb
theorem SR.nl_inv {t : TypeId} (h : SR L w F st V tm (.nl t) u) : u = .slice none 0 0 := by
 cases h with
 | c h => cases h
 | nl => rfl
theorem SR.agg_inv {cs : List (SV L.D)} (h : SR L w F st V tm (.agg cs) u) : ∃ vs : List Value, u = .agg vs.toArray ∧ cs.length = vs.length ∧ (∀ v ∈ vs, v.oneCell' = true) ∧ ∀ j, j < cs.length → SR L w F st V tm (cs.getD j .dead) (vs.getD j undef) := by
 cases h with
 | c h => cases h
 | agg _ vs hl h1 h => exact ⟨vs, rfl, hl, h1, h⟩
theorem SR.tup_inv {cs : List (SV L.D)} (h : SR L w F st V tm (.tup cs) u) : ∃ vs : List Value, u = .tuple vs.toArray ∧ cs.length = vs.length ∧ ∀ j, j < cs.length → SR L w F st V tm (cs.getD j .dead) (vs.getD j undef) := by
 cases h with
 | c h => cases h
 | tup _ vs hl h => exact ⟨vs, rfl, hl, h⟩
theorem SR.cl_inv {f : FuncId} {cs : List (SV L.D)} (h : SR L w F st V tm (.cl f cs) u) : ∃ vs : List Value, u = .func (.func f) #[] vs.toArray ∧ cs.length = vs.length ∧ ∀ j, j < cs.length → SR L w F st V tm (cs.getD j .dead) (vs.getD j undef) := by
 cases h with
 | c h => cases h
 | cl _ _ vs hl h => exact ⟨vs, rfl, hl, h⟩
theorem SR.gd_inv {j : Nat} {b : Bool} {s : SV L.D} (h : SR L w F st V tm (.gd j b s) u) : tm.getD j undef = .bool b → SR L w F st V tm s u := by
 cases h with
 | c h => cases h
 | gd _ _ _ _ h _ => exact h
theorem SR.gd_und {j : Nat} {b : Bool} {s : SV L.D} (h : SR L w F st V tm (.gd j b s) u) : tm.getD j undef ≠ .bool b → u = undef := by
 cases h with
 | c h => cases h
 | gd _ _ _ _ _ h => exact h
theorem SR.rp_inv {t : TypeId} {x : L.D t} {off : Nat} (h : SR L w F st V tm (.rp t x off) u) : ∃ (b o : Nat) (f : Nat → Value), F.keeps b ∧ u = .pointer (some ⟨b, o + off, none⟩) ∧ (∀ j, j < (L.ti t).sz → w.cell? ⟨b, o + j, none⟩ = some (f j)) ∧ ∀ j, j < (L.ti t).sz → CR L w F ((L.cell t x).getD j .dead) (f j) := by
 cases h with
 | c h => cases h
 | rp _ _ _ b o f hb hu hr => exact ⟨b, o, f, hb, rfl, hu, hr⟩
theorem SR.rb_inv {cs : List (SV L.D)} {off : Nat} (h : SR L w F st V tm (.rb cs off) u) : ∃ (b o : Nat) (f : Nat → Value), F.keeps b ∧ u = .pointer (some ⟨b, o + off, none⟩) ∧ (∀ j, j < cs.length → w.cell? ⟨b, o + j, none⟩ = some (f j)) ∧ ∀ j, j < cs.length → CR L w F (cs.getD j .dead) (f j) := by
 cases h with
 | c h => cases h
 | rb _ _ b o f hb hu hr => exact ⟨b, o, f, hb, rfl, hu, hr⟩
theorem SR.ep_inv {i ix off : Nat} {r : Row L.D} (h : SR L w F st V tm (.ep i ix off) u) (hr : st.row i = some r) : ∃ g c, V.rv i = .slice (some ⟨g, 0, none⟩) r.xs.length c ∧ ix < r.xs.length ∧ u = .pointer (some ⟨g, ix * (L.ti r.t).sz + off, none⟩) := by
 cases h with
 | c h => cases h
 | ep _ _ _ _ h => exact h r hr
theorem SR.slots {tm' : Array Value} {s : SV L.D} (h : SR L w F st V tm s u) (hg : ∀ j, ment (0, j) s = true → tm'.getD j undef = tm.getD j undef) : SR L w F st V tm' s u := by
 refine h.same (ks := fun k => k.1 = 0 ∧ ment k s = false) ⟨Le.refl _ _, fun i r' _ hr => ⟨r', hr, rfl, rfl, rfl⟩, fun b cs _ hb => ⟨cs, hb, rfl, rfl⟩, fun j hj => hg j ?_⟩ fun k hk => hk.2
 cases hm : ment (0, j) s with
 | true => rfl
 | false => exact absurd ⟨rfl, hm⟩ hj
end
section
variable {P : Program} {L : Lay} {E : Ent} {st : St L.D} {V : Vl} {a : Act} {w : World}
theorem Rel.opd (h : Rel L E st V a w) : ∀ x : Operand, SR L w (Fz E st V w) st V a.tmps (rdo st x) (a.eval x)
 | .tmp n => h.tmp n
 | .global _ => .dead _
 | .func f => SR.cl f [] [] rfl (fun j hj => absurd hj (Nat.not_lt_zero j))
 | .const x => by
  show SR L w (Fz E st V w) st V a.tmps (svc x) x
  unfold svc
  split
  ·exact .dead _
  ·exact .dead _
  ·exact .dead _
  ·rename_i h1 h2 h3
   refine .c (.v _ ?_)
   cases x <;> first | rfl | exact absurd rfl (h2 _) | exact absurd rfl (h3 _)
theorem Rel.opdT (h : Rel L E st V a w) (t : TypeId) (x : Operand) : SR L w (Fz E st V w) st V a.tmps (rdt L st t x) (a.eval x) := by
 unfold rdt
 split
 ·split
  ·exact .nl _
  ·exact .dead _
 ·exact h.opd x
theorem Rel.fresh {ks : List Key} (hc : clean st ks = true) {dst : Option Nat} (hd : ∀ n, dst = some n → (0, n) ∈ ks ∧ n < E.nt) {s : SV L.D} (hs : ∀ k ∈ ks, ment k s = false) {u v : Value} (h : SR L w (Fz E st V w) st V a.tmps s u) :
  SR L w (Fz E st V w) st V (a.put dst v).tmps s u := by
 refine h.slots fun j hj => ?_
 cases hdst : dst with
 | none => rfl
 | some n =>
  refine put_getD_other (fun e => ?_) v
  rw [e, hs _ (hd n hdst).1] at hj
  cases hj
theorem clean_rdo {ks : List Key} (hc : clean st ks = true) (x : Operand) : ∀ k ∈ ks, ment k (rdo st x) = false := by
 intro k hk
 cases x with
 | tmp n => exact clean_tmp hc hk n
 | const x =>
  show ment k (svc x) = false
  unfold svc
  split <;> rfl
 | global => rfl
 | func f => rfl
theorem clean_rdt {ks : List Key} (hc : clean st ks = true) (t : TypeId) (x : Operand) : ∀ k ∈ ks, ment k (rdt L st t x) = false := by
 intro k hk
 unfold rdt
 split
 ·split <;> rfl
 ·exact clean_rdo hc x k hk
def Out (P : Program) (L : Lay) (E : Ent) (st : St L.D) (o : Oper) (a : Act) (w : World) (d : Dl L.D) : Prop :=
 ∃ nx w', (execOp a.eval o).run P w = .ok nx w' ∧ ∃ V', (∃ v, nx = .value v ∧ Rel L E (st.put o.dst d) V' (a.put o.dst v) w') ∨ (nx = .skip ∧ Rel L E (st.put o.dst d) V' (a.put o.dst undef) w')
structure At (L : Lay) (E : Ent) (st : St L.D) (V : Vl) (a : Act) (w : World) (o : Oper) (ks : List Key) : Prop where
 rel : Rel L E st V a w
 clean : clean st ks = true
 dst : ∀ n, o.dst = some n → (0, n) ∈ ks ∧ n < E.nt
theorem Out.val {o : Oper} {ks : List Key} {s : SV L.D} (A : At L E st V a w o ks) {v : Value} (hr : (execOp a.eval o).run P w = .ok (.value v) w) (hs : ∀ k ∈ ks, ment k s = false) (hv : SR L w (Fz E st V w) st V a.tmps s v) : Out P L E st o a w { val := s } :=
 ⟨_, _, hr, V, .inl ⟨v, rfl, A.rel.put' A.clean A.dst (Rel.fresh A.clean A.dst hs hv)⟩⟩
theorem out_move {o : Oper} {ks : List Key} (A : At L E st V a w o ks) {x : Operand} (ho : o.op = .move x ∨ o.op = .assign x) : Out P L E st o a w { val := rdt L st o.type x } := by
 refine Out.val A (v := a.eval x) ?_ (clean_rdt A.clean _ _) (A.rel.opdT _ _)
 unfold execOp
 rcases ho with ho | ho <;> simp [ho]
theorem out_binOp {o : Oper} {ks : List Key} (A : At L E st V a w o ks) {op : BinOp} {t t' : TypeId} {x y : Operand} (ho : o.op = .binOp op t x y t') {p q r : Value} (hx : rdo st x = .v p) (hy : rdo st y = .v q) (hs : scal op p q = some (true, r)) : Out P L E st o a w { val := .v r } := by
 (have e1 := (hx ▸ A.rel.opd x).v_inv); (have e2 := (hy ▸ A.rel.opd y).v_inv)
 have key : ((do eqGuard op t x y (a.eval x) (a.eval y); binOp op t (a.eval x) (a.eval y) : Sem Value)).run P w = .ok r w ∧ r.oneCell' = true := by
  rw [e1.1, e2.1]
  unfold scal at hs
  split at hs
  ·rename_i k n k' n'
   split at hs
   ·obtain ⟨h1, rfl⟩ := Prod.mk.inj (Option.some.inj hs)
    have h0 : ¬ n' < 0 := by have := of_decide_eq_true h1; omega
    simp [eqGuard, binOp, Op.shift, h0]; rfl
   ·obtain ⟨h1, rfl⟩ := Prod.mk.inj (Option.some.inj hs)
    have h0 : ¬ n' < 0 := by have := of_decide_eq_true h1; omega
    simp [eqGuard, binOp, Op.shift, h0]; rfl
   ·split at hs
    ·rename_i hk
     subst hk
     cases op <;> simp only [intOp] at hs <;> first | cases hs; done | (obtain ⟨h1, rfl⟩ := Prod.mk.inj (Option.some.inj hs); simp [eqGuard, binOp, Op.intArith, Op.intBits, Op.intCmp, Op.intDiv] <;> first | rfl | (have h0 := h1; simp at h0; simp [h0]; rfl))
    ·cases hs
  ·rename_i s s'
   unfold strOp at hs
   split at hs <;> first | cases hs; done | (obtain ⟨h1, rfl⟩ := Prod.mk.inj (Option.some.inj hs); first | exact ⟨rfl, rfl⟩ | (refine ⟨?_, rfl⟩; have h0 := okLe_iff.1 h1; show (Op.stringOp .add s s').run P w = _; unfold Op.stringOp; simp only []; rw [if_neg (by omega)]; rfl))
  ·cases hs
 refine Out.val A (v := r) ?_ (fun _ _ => rfl) (.c (.v _ key.2))
 unfold execOp
 simp only [ho, Sem.run_bind, key.1]
 rfl
theorem equalIn_bool {t : TypeId} (ht : P.underlying t = some .bool) (d : Nat) (p q : Bool) (w : World) : (Op.equalIn (d + 1) t (.bool p) (.bool q)).run P w = .ok (p == q) w := by
 simp only [Op.equalIn, Sem.run_bind, run_underlying ht, Result.andThen_ok]
 rfl
theorem equal_bool {t : TypeId} (ht : P.underlying t = some .bool) (p q : Bool) (w : World) : (Op.equal t (.bool p) (.bool q)).run P w = .ok (p == q) w := equalIn_bool ht 9999 p q w
theorem out_bools {o : Oper} {ks : List Key} (A : At L E st V a w o ks) {op : BinOp} {t t' : TypeId} {x y : Operand} (ho : o.op = .binOp op t x y t') (ht : P.underlying t = some .bool) {p q : Bool} (hx : rdo st x = .v (.bool p)) (hy : rdo st y = .v (.bool q)) {r : Bool} (hop : (op = .eql ∧ r = (p == q)) ∨ (op = .neq ∧ r = !(p == q))) :
  Out P L E st o a w { val := .v (.bool r) } := by
 (have e1 := (hx ▸ A.rel.opd x).v_inv); (have e2 := (hy ▸ A.rel.opd y).v_inv)
 refine Out.val A (v := .bool r) ?_ (fun _ _ => rfl) (.c (.v _ rfl))
 unfold execOp
 rcases hop with ⟨rfl, rfl⟩ | ⟨rfl, rfl⟩ <;> simp [ho, e1.1, e2.1, eqGuard, binOp, equal_bool ht]
theorem eq1_run {t : TypeId} {n : Nat} {x y : Value} {r : Bool} (ht : ScalT P n t) (h : eq1 n x y = some r) (d : Nat) (w : World) : (Op.equalIn (d + 1) t x y).run P w = .ok r w := by
 unfold eq1 at h
 split at h
 ·obtain ⟨k, hk⟩ := ht
  split at h
  ·rename_i e
   (obtain rfl := Option.some.inj h); (simp only [Op.equalIn, Sem.run_bind, run_underlying hk, Result.andThen_ok, e, if_true])
   rfl
  ·cases h
 ·obtain rfl := Option.some.inj h
  simp only [Op.equalIn, Sem.run_bind, run_underlying ht, Result.andThen_ok]
  rfl
 ·obtain rfl := Option.some.inj h
  simp only [Op.equalIn, Sem.run_bind, run_underlying ht, Result.andThen_ok]
  rfl
 ·cases h
theorem part_run {t : TypeId} {n : Nat} (ht : ScalT P n t) {xs : Array Value} {o : Nat} {v : Value} (hx : xs[o]? = some v) (w : World) : (part t xs o).run P w = .ok v w := by
 have hag : (Go.isAgg t).run P w = .ok false w := by
  unfold Go.isAgg
  unfold ScalT at ht
  split at ht
  ·obtain ⟨k, hk⟩ := ht; rw [Sem.run_bind, run_underlying hk w]; rfl
  ·rw [Sem.run_bind, run_underlying ht w]; rfl
  ·rw [Sem.run_bind, run_underlying ht w]; rfl
  ·exact ht.elim
 unfold part
 simp only [Sem.run_bind, hag, Result.andThen_ok, Bool.false_eq_true, if_false, hx, Sem.run_pure]
theorem eqf_run {xs ys : Array Value} (d : Nat) (w : World) : ∀ (ns : List Nat) (fl : List Field) (j : Nat) (cs ds : List (SV L.D)) (r : Bool), fl.length = ns.length → (∀ i n f, ns[i]? = some n → fl[i]? = some f → FldT P (j + i) n f) → (∀ i u, cs[i]? = some (.v u) → xs[j + i]? = some u) → (∀ i u, ds[i]? = some (.v u) → ys[j + i]? = some u) → eqs ns cs ds = some r →
  (Op.eqFields (d + 1) xs ys fl).run P w = .ok r w := by
 intro ns
 induction ns with
 | nil => intro fl j cs ds r hl hf hx hy h; cases h
 | cons n ns ih =>
  intro fl j cs ds r hl hf hx hy h
  cases fl with
  | nil => cases hl
  | cons f fl =>
   (obtain ⟨h1, h2, h3⟩ := hf 0 n f rfl rfl); (have hn : f.name ≠ "_" := by simpa using h1); (rw [Nat.add_zero] at h2)
   have two : ∀ {a b : Value} {p q : Bool}, cs[0]? = some (.v a) → ds[0]? = some (.v b) → eq1 n a b = some p → (Op.eqFields (d + 1) xs ys fl).run P w = .ok q w → (Op.eqFields (d + 1) xs ys (f :: fl)).run P w = .ok (p && q) w := fun {a b p q} ha hb he hr => by
    (have hxa := hx 0 a ha); (have hyb := hy 0 b hb); (rw [Nat.add_zero] at hxa hyb); (simp only [Op.eqFields, if_pos hn, Sem.run_bind, h2, part_run h3 hxa w, part_run h3 hyb w, eq1_run h3 he d w, Result.andThen_ok])
    cases p <;> simp [hr]
   unfold eqs at h
   split at h
   ·rename_i n' a b e1
    injection e1 with e1 e1'
    (subst e1 e1'); (obtain rfl : fl = [] := List.eq_nil_of_length_eq_zero (by simpa using hl)); (have := two rfl rfl h (q := true) (by simp [Op.eqFields]))
    rwa [Bool.and_true] at this
   ·rename_i n' ns' a l b m _ e1
    injection e1 with e1 e1'
    subst e1 e1'
    split at h
    ·rename_i p q hp hq
     obtain rfl := Option.some.inj h
     refine two rfl rfl hp (ih fl (j + 1) l m q (by simpa using hl) (fun i n f hi hfi => ?_) (fun i u hu => ?_) (fun i u hu => ?_) hq)
     ·have := hf (i + 1) n f (by simpa using hi) (by simpa using hfi)
      rwa [show j + (i + 1) = j + 1 + i by omega] at this
     ·have := hx (i + 1) u (by simpa using hu)
      rwa [show j + (i + 1) = j + 1 + i by omega] at this
     ·have := hy (i + 1) u (by simpa using hu)
      rwa [show j + (i + 1) = j + 1 + i by omega] at this
    ·cases h
   ·cases h
theorem out_aggs (hL : LayOk P L) {o : Oper} {ks : List Key} (A : At L E st V a w o ks) {op : BinOp} {t t' : TypeId} {x y : Operand} (ho : o.op = .binOp op t x y t') {cs ds : List (SV L.D)} (hx : rdo st x = .agg cs) (hy : rdo st y = .agg ds) {q r : Bool} (hq : eqs (L.eqt t) cs ds = some q) (hop : (op = .eql ∧ r = q) ∨ (op = .neq ∧ r = !q)) :
  Out P L E st o a w { val := .v (.bool r) } := by
 (obtain ⟨vs, e1, hl1, _, h1⟩ := (hx ▸ A.rel.opd x).agg_inv); (obtain ⟨us, e2, hl2, _, h2⟩ := (hy ▸ A.rel.opd y).agg_inv); (have hne : L.eqt t ≠ [] := fun e => by rw [e] at hq; cases hq); (obtain ⟨fs, hu, hst, hgt, hln, hfs⟩ := hL.eqt t hne)
 have get : ∀ {cs : List (SV L.D)} {vs : List Value}, cs.length = vs.length → (∀ j, j < cs.length → SR L w (Fz E st V w) st V a.tmps (cs.getD j .dead) (vs.getD j undef)) → ∀ i u, cs[i]? = some (.v u) → vs.toArray[0 + i]? = some u := fun {cs vs} hl hj i u hi => by
  (have hlt : i < cs.length := (List.getElem?_eq_some_iff.1 hi).1); (have := hj i hlt); (rw [List.getD_eq_getElem?_getD, hi] at this); (have := this.v_inv.1); (rw [Nat.zero_add, List.getElem?_toArray, List.getElem?_eq_getElem (by omega)]); (rw [List.getD_eq_getElem?_getD, List.getElem?_eq_getElem (by omega)] at this)
  exact congrArg some this
 have hrun : (Op.equal t (.agg vs.toArray) (.agg us.toArray)).run P w = .ok q w := by
  show (Op.equalIn (9999 + 1) t _ _).run P w = _
  (have hf : P.fieldsOf t = fs := by simp [Program.fieldsOf, hu]); (rw [run_equalIn_struct (P := P) w 9999 t vs.toArray us.toArray (by rw [hf]; exact hu) hst, hf])
  exact eqf_run 9998 w (L.eqt t) fs.toList 0 cs ds q hln (fun i n f hi hfi => by rw [Nat.zero_add]; exact hfs i n f hi hfi) (get hl1 h1) (get hl2 h2) hq
 refine Out.val A (v := .bool r) ?_ (fun _ _ => rfl) (.c (.v _ rfl))
 unfold execOp
 rcases hop with ⟨rfl, rfl⟩ | ⟨rfl, rfl⟩ <;> simp [ho, e1, e2, run_eqGuard_agg w _ t x y _ _ hgt, binOp, hrun]
theorem out_unOp {o : Oper} {ks : List Key} (A : At L E st V a w o ks) {op : UnOp} {t : TypeId} {x : Operand} (ho : o.op = .unOp op t x) {p r : Value} (hx : rdo st x = .v p) (hs : unop op p = some r) : Out P L E st o a w { val := .v r } := by
 have e1 := (hx ▸ A.rel.opd x).v_inv
 unfold unop at hs
 split at hs
 ·obtain rfl := Option.some.inj hs
  refine Out.val A (v := _) ?_ (fun _ _ => rfl) (.c (.v _ rfl))
  unfold execOp
  simp [ho, e1.1, Op.unary, Op.intArith]
 ·obtain rfl := Option.some.inj hs
  refine Out.val A (v := _) ?_ (fun _ _ => rfl) (.c (.v _ rfl))
  unfold execOp
  simp [ho, e1.1, Op.unary]
 ·cases hs
theorem pk_ok {n : Nat} {wt : Bool} {s : SV L.D} {u : Value} {x : Bool} (hp : pk L n wt s = some x) (h : SR L w (Fz E st V w) st V a.tmps s u) (hn : a.tmps.getD n undef = .bool wt) : u = .bool x := by
 unfold pk at hp
 split at hp
 ·obtain rfl := Option.some.inj hp; exact h.v_inv.1
 ·split at hp
  ·rename_i hb
   (obtain rfl := Option.some.inj hp); (obtain rfl := Nat.eq_of_beq_eq_true hb)
   exact (h.gd_inv hn).v_inv.1
  ·rename_i hb
   (obtain rfl := Option.some.inj hp); (obtain rfl := Nat.eq_of_beq_eq_true hb)
   exact (h.gd_inv hn).v_inv.1
  ·cases hp
 ·cases hp
theorem out_pick {o : Oper} {ks : List Key} (A : At L E st V a w o ks) {n : Nat} {x y : Operand} (ho : o.op = .pick (.tmp n) x y) {c p q : Bool} (hc : st.tmp n = .v (.bool c)) (hx : pk L n true (rdo st x) = some p) (hy : pk L n false (rdo st y) = some q) :
  Out P L E st o a w { val := .v (.bool (cond c p q)) } := by
 have e0 := (hc ▸ A.rel.tmp n).v_inv.1
 refine Out.val A (v := .bool (cond c p q)) ?_ (fun _ _ => rfl) (.c (.v _ rfl))
 unfold execOp
 have e0' : a.eval (.tmp n) = .bool c := e0
 cases c with
 | true =>
  have := pk_ok hx (A.rel.opd x) e0
  simp [ho, e0', asBool, this]
 | false =>
  have := pk_ok hy (A.rel.opd y) e0
  simp [ho, e0', asBool, this]
theorem getD_lt {α : Type} {l : List α} {j : Nat} (h : j < l.length) (d : α) : l.getD j d = l[j] := by simp [h]
theorem memo_ok (hL : LayOk P L) (h : Rel L E st V a w) {p : SV L.D} {u : Value} {cs : List (SV L.D)} {off : Nat} (hm : memo p st = some (cs, off)) (hp : SR L w (Fz E st V w) st V a.tmps p u) :
  ∃ (b o : Nat) (f : Nat → Value), u = .pointer (some ⟨b, o + off, none⟩) ∧ ∀ j, j < cs.length → w.cell? ⟨b, o + j, none⟩ = some (f j) ∧ (f j).oneCell' = true ∧ SR L w (Fz E st V w) st V a.tmps (cs.getD j .dead) (f j) := by
 unfold memo at hm
 split at hm
 ·rename_i b off'
  split at hm
  ·rename_i cs' hb
   (obtain ⟨rfl, rfl⟩ := Prod.mk.inj (Option.some.inj hm)); (obtain ⟨vs, T, hh, hl, hj⟩ := h.box b _ hb)
   refine ⟨V.ba b, V.bo b, fun j => vs.getD (V.bo b + j) undef, hp.ptr_inv hb, fun j hjl => ?_⟩
   (obtain ⟨x, hx, h1, hs⟩ := hj j hjl); (have e : vs.getD (V.bo b + j) undef = x := by simp [Array.getD_eq_getD_getElem?, hx]); (simp only [e])
   exact ⟨by rw [cell_of_row w _ _ vs T (0, 0) hh]; exact hx, h1, hs⟩
  ·cases hm
 ·rename_i t x off'
  (obtain ⟨rfl, rfl⟩ := Prod.mk.inj (Option.some.inj hm)); (obtain ⟨b, o, f, hb, rfl, hu, hr⟩ := hp.rp_inv)
  refine ⟨b, o, f, rfl, fun j hj => ?_⟩
  rw [hL.cell] at hj
  exact ⟨hu j hj, (hr j hj).one, .c (hr j hj)⟩
 ·obtain ⟨rfl, rfl⟩ := Prod.mk.inj (Option.some.inj hm)
  obtain ⟨b, o, f, hb, rfl, hu, hr⟩ := hp.rb_inv
  exact ⟨b, o, f, rfl, fun j hj => ⟨hu j hj, (hr j hj).one, .c (hr j hj)⟩⟩
 ·rename_i i ix off'
  split at hm
  ·rename_i r hr
   (obtain ⟨rfl, rfl⟩ := Prod.mk.inj (Option.some.inj hm)); (obtain ⟨g, c, hv, hix, rfl⟩ := hp.ep_inv hr); (obtain ⟨p, q⟩ := h.row i r hr); (rw [hv] at p q)
   cases hf : r.fz with
   | true =>
    have := p hf
    generalize hxs : (SV.ro r.t r.xs : SV L.D) = s at this
    generalize hvv : Value.slice (some ⟨g, 0, none⟩) r.xs.length c = v at this
    cases this with
    | v => cases hxs
    | lr0 => cases hxs
    | lr => cases hxs
    | rn0 => cases hxs
    | rn => cases hxs
    | ct => cases hxs
    | ro0 t a c => injection hxs with h1 h2; subst h1; rw [eq_of_heq h2] at hix; exact absurd hix (Nat.not_lt_zero _)
    | ro t xs b off c u hne hc hb hu hrr =>
     injection hxs with h1 h2
     (subst h1); (have h2 := eq_of_heq h2); (subst h2)
     injection hvv with h3 h4 h5
     injection h3 with h3
     injection h3 with h6 h7 h8
     (subst h6; subst h7); (have e : r.xs.getD ix (L.zd r.t) = r.xs[ix] := getD_lt hix _)
     refine ⟨g, ix * (L.ti r.t).sz, u ix, rfl, fun j hj => ?_⟩
     (rw [hL.cell] at hj); (have := hu ix j hix hj); (rw [Nat.zero_add] at this); (rw [e])
     exact ⟨this, (hrr ix j hix hj).one, .c (hrr ix j hix hj)⟩
   | false =>
    (obtain ⟨cells, ho, h1, hrr⟩ := q hf); (have e : r.xs.getD ix (L.zd r.t) = r.xs[ix] := getD_lt hix _)
    refine ⟨g, ix * (L.ti r.t).sz, fun j => cells.getD (ix * (L.ti r.t).sz + j) undef, rfl, fun j hj => ?_⟩
    rw [hL.cell] at hj
    have hlt : ix * (L.ti r.t).sz + j < cells.length := by
     (have : (ix + 1) * (L.ti r.t).sz ≤ r.xs.length * (L.ti r.t).sz := Nat.mul_le_mul_right _ hix); (rw [Nat.add_mul] at this); (have hl : cells.length = r.xs.length * (L.ti r.t).sz := ho.1)
     omega
    rw [e]
    refine ⟨?_, (hrr ix j hix hj).one, .c (hrr ix j hix hj)⟩
    (have := ho.cells (g := g) rfl (ix * (L.ti r.t).sz + j) cells[ix * (L.ti r.t).sz + j] (List.getElem?_eq_getElem hlt)); (rw [Addr.add_mid, Nat.zero_add] at this); (rw [this])
    exact congrArg some (getD_lt hlt undef).symm
  ·cases hm
 ·cases hm
theorem range_cells {α : Type} (f : Nat → α) (n : Nat) {j : Nat} (h : j < n) (d : α) : ((List.range n).map f).getD j d = f j := by simp [h]
theorem out_load (hL : LayOk P L) {o : Oper} {ks : List Key} (A : At L E st V a w o ks) {t : TypeId} {x : Operand} (ho : o.op = .load t x) {cs : List (SV L.D)} {off : Nat} (hm : memo (rdo st x) st = some (cs, off)) (hk : okT L t = true) (hl : off + (L.ti t).sz ≤ cs.length)
  (hn : ∀ k ∈ ks, ∀ s ∈ cs, ment k s = false) : Out P L E st o a w { val := pack L t ((cs.drop off).take (L.ti t).sz) } := by
 (have hko : (L.ti t).kind ≠ .other := by intro h; simp [okT, h] at hk); (obtain ⟨i, z, hi, hsz, _⟩ := hL.info t hko); (obtain ⟨b, q, f, hp, hf⟩ := memo_ok hL A.rel hm (A.rel.opd x))
 have hgd : ∀ j, j < (L.ti t).sz → ((cs.drop off).take (L.ti t).sz).getD j .dead = cs.getD (off + j) .dead := fun j hj => by
  simp only [List.getD_eq_getElem?_getD, List.getElem?_take, if_pos hj, List.getElem?_drop]
 cases hg : isAgg L t with
 | true =>
  (have e : pack L t ((cs.drop off).take (L.ti t).sz) = .agg ((cs.drop off).take (L.ti t).sz) := by simp [pack, hg]); (rw [e])
  obtain ⟨d, hd, hrow⟩ : ∃ d, P.underlying t = some d ∧ d.isRow = true := by
   unfold isAgg at hg
   split at hg
   ·rename_i fs hfs
    obtain ⟨fields, hu, _⟩ := hL.struct t fs hfs
    exact ⟨_, hu, rfl⟩
   ·cases hg
  have hlen : ((cs.drop off).take (L.ti t).sz).length = (L.ti t).sz := by simp; omega
  refine Out.val A (v := .agg ((List.range (L.ti t).sz).map fun j => f (off + j)).toArray) ?_ (fun k hk' => ?_) ?_
  ·unfold execOp
   (simp only [ho, hp, Sem.run_bind]); (rw [run_loadAt_mid w b (q + off) t ((List.range (L.ti t).sz).map fun j => f (off + j)) d ?_ hd hrow (by simp [hi, hsz])])
   ·rfl
   ·intro j v hv
    rw [List.getElem?_map] at hv
    by_cases hj : j < (L.ti t).sz
    ·rw [List.getElem?_range hj, Option.map_some] at hv
     rw [← hv, Nat.add_assoc]
     exact (hf (off + j) (by omega)).1
    ·rw [List.getElem?_eq_none (by simp; omega)] at hv; cases hv
  ·simp only [ment]
   cases hml : mentL k ((cs.drop off).take (L.ti t).sz) with
   | false => rfl
   | true =>
    exfalso
    have aux : ∀ l : List (SV L.D), mentL k l = true → ∃ s ∈ l, ment k s = true := by
     intro l
     induction l with
     | nil => intro h; cases h
     | cons s l ih =>
      intro h
      simp only [mentL, Bool.or_eq_true] at h
      rcases h with h | h
      ·exact ⟨s, List.mem_cons_self, h⟩
      ·obtain ⟨s', hs', h'⟩ := ih h; exact ⟨s', List.mem_cons_of_mem _ hs', h'⟩
    (obtain ⟨s, hs, h'⟩ := aux _ hml); (rw [hn k hk' s (List.mem_of_mem_drop (List.mem_of_mem_take hs))] at h')
    cases h'
  ·refine .agg _ _ (by simp; omega) (fun v hv => ?_) fun j hj => ?_
   ·obtain ⟨j, hj, rfl⟩ := List.mem_map.1 hv
    exact (hf (off + j) (by have := List.mem_range.1 hj; omega)).2.1
   ·rw [hlen] at hj
    rw [hgd j hj, range_cells _ _ hj]
    exact (hf (off + j) (by omega)).2.2
 | false =>
  (have h1 := hL.one t hg hko); (obtain ⟨d, hd, hns, hna⟩ := hL.plain t hg hko)
  have e : pack L t ((cs.drop off).take (L.ti t).sz) = cs.getD off .dead := by
   (have := hgd 0 (by omega)); (rw [Nat.add_zero] at this); (rw [← this]); (simp only [pack, hg])
   cases hc : (cs.drop off).take (L.ti t).sz <;> rfl
  (rw [e]); (have hf0 := hf off (by omega))
  refine Out.val A (v := f off) ?_ (fun k hk' => hn k hk' _ ?_) hf0.2.2
  ·unfold execOp
   have hag : (Go.isAgg t).run P w = .ok false w := by
    unfold Go.isAgg
    rw [Sem.run_bind, run_underlying hd w]
    cases d <;> first | rfl | exact absurd rfl (hns _) | exact absurd rfl (hna _ _)
   simp only [ho, hp, Instr.loadAt, Instr.sureAddr, loadVar, Sem.run_bind, Sem.run_pure, Result.andThen_ok, hag, Bool.false_eq_true, if_false, run_load, hf0.1]
  ·rw [getD_lt (by omega)]; exact List.getElem_mem _
theorem CR.ment {w : World} {F : FS} {s : SV L.D} {v : Value} (h : CR L w F s v) (k : Key) : ment k s = false := by cases h <;> rfl
theorem memo_ment (hL : LayOk P L) (h : Rel L E st V a w) {ks : List Key} (hc : clean st ks = true) {p : SV L.D} {u : Value} {cs : List (SV L.D)} {off : Nat} (hm : memo p st = some (cs, off)) (hp : SR L w (Fz E st V w) st V a.tmps p u) : ∀ k ∈ ks, ∀ s ∈ cs, ment k s = false := by
 intro k hk s hs
 have form : ∀ (t : TypeId) (x : L.D t), s ∈ L.cell t x → ment k s = false := fun t x hx => by
  rcases hL.form t x s hx with ⟨u, rfl, _⟩ | ⟨e, ys, rfl, _⟩ | ⟨l, e, ys, rfl, _⟩ <;> rfl
 unfold memo at hm
 split at hm
 ·split at hm
  ·rename_i cs' hb
   (obtain ⟨rfl, rfl⟩ := Prod.mk.inj (Option.some.inj hm)); (obtain ⟨j, hj, rfl⟩ := List.getElem_of_mem hs); (rw [← getD_lt hj .dead])
   exact clean_box hc hk hb j
  ·cases hm
 ·obtain ⟨rfl, rfl⟩ := Prod.mk.inj (Option.some.inj hm)
  exact form _ _ hs
 ·obtain ⟨rfl, rfl⟩ := Prod.mk.inj (Option.some.inj hm)
  (obtain ⟨b, o, f, hb, rfl, hu, hr⟩ := hp.rb_inv); (obtain ⟨j, hj, rfl⟩ := List.getElem_of_mem hs); (rw [← getD_lt hj .dead])
  exact (hr j hj).ment k
 ·split at hm
  ·obtain ⟨rfl, rfl⟩ := Prod.mk.inj (Option.some.inj hm)
   exact form _ _ hs
  ·cases hm
 ·cases hm
theorem out_nilCheck {o : Oper} {ks : List Key} (A : At L E st V a w o ks) {x : Operand} (ho : o.op = .nilCheck x) {s : SV L.D} (hs : rdo st x = s) {q : Addr} (hq : a.eval x = .pointer (some q)) : Out P L E st o a w { val := s } := by
 refine Out.val A (v := a.eval x) ?_ (hs ▸ clean_rdo A.clean x) (hs ▸ A.rel.opd x)
 unfold execOp
 simp [ho, hq]
theorem run_fieldAt {s : TypeId} {fields : Array Field} (hu : P.underlying s = some (.struct fields)) {f : Nat} {fd : Field} {i : TypeInfo} (hf : fields[f]? = some fd) (hi : P.info? fd.type = some i) (hn : i.size ≠ 0) (b q : Nat) (w : World) :
  (Instr.fieldAt s (.pointer (some ⟨b, q, none⟩)) f).run P w = .ok (.pointer (some ⟨b, q + fd.offset, none⟩)) w := by
 simp [Instr.fieldAt, run_underlying hu, hf, Instr.sureAddr, fieldPlace, sizeOf, typeInfo, hi, hn, Addr.add_mid]
theorem field_ok (hL : LayOk P L) {s : TypeId} {f q n : Nat} (h : fieldOf L s f = some (q, n + 1)) (b c : Nat) (w : World) : (Instr.fieldAt s (.pointer (some ⟨b, c, none⟩)) f).run P w = .ok (.pointer (some ⟨b, c + q, none⟩)) w := by
 unfold fieldOf at h
 split at h
 ·rename_i fs hfs
  (obtain ⟨fields, hu, hz, hall⟩ := hL.struct s fs hfs); (obtain ⟨fd, i, hf, rfl, hi, hn⟩ := hall f q (n + 1) h)
  exact run_fieldAt hu hf hi (by omega) b c w
 ·cases h
theorem out_fieldAddr (hL : LayOk P L) {o : Oper} {ks : List Key} (A : At L E st V a w o ks) {s : TypeId} {x : Operand} {f : Nat} (ho : o.op = .fieldAddr s x f) {q n : Nat} (hf : fieldOf L s f = some (q, n + 1)) {p p' : SV L.D} {b c : Nat} (hp : a.eval x = .pointer (some ⟨b, c, none⟩))
  (hs : ∀ k ∈ ks, ment k p' = false) (hv : SR L w (Fz E st V w) st V a.tmps p' (.pointer (some ⟨b, c + q, none⟩))) : Out P L E st o a w { val := p' } := by
 refine Out.val A (v := .pointer (some ⟨b, c + q, none⟩)) ?_ hs hv
 unfold execOp
 simp only [ho, hp, Sem.run_bind, field_ok hL hf]
 rfl
end
end Go.Proofs.YtfeikakkfnnaoaaGreatDoor.V
