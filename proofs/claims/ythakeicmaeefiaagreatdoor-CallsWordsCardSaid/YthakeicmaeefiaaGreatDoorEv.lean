/-
  An evaluator over a memory of its own, whose blocks lie anywhere: what it comes to, a call does in every world.
-/
import Derived.Test.YthakeicmaeefiaaGreatDoorSt
set_option linter.unusedVariables false
set_option linter.unusedSimpArgs false
namespace Go.Ev
open Go Go.Sh Go.RowKit

inductive RV where
  | any
  | skip
  | int (k : IntKind) (i : Int)
  | bool (b : Bool)
  | str (s : List Nat)
  | nilp
  | ptr (b o : Nat)
  | nils
  | slice (b o n c : Nat) (ex : Bool)
  | nilf
  | fn (f : Nat) (first caps : List RV)
  | agg (l : List RV)
  | tup (l : List RV)

def RV.cells : RV → List RV
  | .agg l => l
  | v => [v]

/-- A cell's value. -/
def plainR : RV → Bool
  | .any | .skip | .agg _ | .tup _ => false
  | _ => true
def okC : RV → Bool
  | .agg _ => true
  | v => plainR v
/-- Tells of the value everything. -/
def det : RV → Bool
  | .int _ _ | .bool _ | .str _ | .nilp | .ptr _ _ | .nils | .slice .. | .nilf => true
  | _ => false
def detV : RV → Bool
  | .agg l => l.all det
  | v => det v

/-! ### Forcing: what is handed on is reckoned to the bottom -/
def fInt (i : Int) (k : Int → Bool) : Bool := match i with
  | .ofNat n => forceN n fun n => k (.ofNat n)
  | .negSucc n => forceN n fun n => k (.negSucc n)
def fNats : List Nat → (List Nat → Bool) → Bool
  | [], k => k []
  | a :: l, k => forceN a fun a => fNats l fun l => k (a :: l)
def fKind (i : IntKind) (k : IntKind → Bool) : Bool := match i with
  | .i8 => k .i8 | .i16 => k .i16 | .i32 => k .i32 | .i64 => k .i64
  | .u8 => k .u8 | .u16 => k .u16 | .u32 => k .u32 | .u64 => k .u64
def fBool (b : Bool) (k : Bool → Bool) : Bool := match b with
  | true => k true
  | false => k false
/-- A cell's value (what functions capture is not gone into). -/
def f1 (v : RV) (k : RV → Bool) : Bool := match v with
  | .any => k .any
  | .skip => k .skip
  | .int d i => fKind d fun d => fInt i fun i => k (.int d i)
  | .bool b => fBool b fun b => k (.bool b)
  | .str s => fNats s fun s => k (.str s)
  | .nilp => k .nilp
  | .ptr b o => forceN b fun b => forceN o fun o => k (.ptr b o)
  | .nils => k .nils
  | .slice b o n c ex => forceN b fun b => forceN o fun o => forceN n fun n => forceN c fun c => fBool ex fun ex => k (.slice b o n c ex)
  | .nilf => k .nilf
  | .fn f a c => forceN f fun f => k (.fn f a c)
  | .agg l => k (.agg l)
  | .tup l => k (.tup l)
def fL : List RV → (List RV → Bool) → Bool
  | [], k => k []
  | v :: l, k => f1 v fun v => fL l fun l => k (v :: l)
def fV (v : RV) (k : RV → Bool) : Bool := match v with
  | .agg l => fL l fun l => k (.agg l)
  | .tup [] => k (.tup [])
  | .tup (a :: l) => (match a with
    | .agg m => fL m fun m => fL l fun l => k (.tup (.agg m :: l))
    | a => f1 a fun a => fL l fun l => k (.tup (a :: l)))
  | .fn f a c => forceN f fun f => fL a fun a => fL c fun c => k (.fn f a c)
  | v => f1 v k

def fVs : List RV → (List RV → Bool) → Bool
  | [], k => k []
  | v :: l, k => fV v fun v => fVs l fun l => k (v :: l)

/-! ### Memory -/
inductive Blk where
  | mk (cs : List RV) (t : TypeId)
  | iter (s : List Nat) (p : Nat)
inductive T where
  | e
  | n (l : T) (v : Option Blk) (r : T)
def T.get : T → Nat → Nat → Option Blk
  | .e, _, _ => none
  | .n l v r, 0, _ => none
  | .n l v r, f + 1, i => bif Nat.beq i 0 then v else bif Nat.beq (i % 2) 0 then l.get f (i / 2 - 1) else r.get f (i / 2)
def T.put : T → Nat → Nat → Blk → (T → Bool) → Bool
  | _, 0, _, _, _ => false
  | .e, f + 1, i, v, k => bif Nat.beq i 0 then k (.n .e (some v) .e) else bif Nat.beq (i % 2) 0 then forceN (i / 2 - 1) fun j => T.put .e f j v fun l => k (.n l none .e) else forceN (i / 2) fun j => T.put .e f j v fun r => k (.n .e none r)
  | .n l x r, f + 1, i, v, k => bif Nat.beq i 0 then k (.n l (some v) r) else bif Nat.beq (i % 2) 0 then forceN (i / 2 - 1) fun j => l.put f j v fun l => k (.n l x r) else forceN (i / 2) fun j => r.put f j v fun r => k (.n l x r)
structure HP where
  t : T
  pre : List Nat
  n : Nat
def dep : Nat := 40
def HP.get (h : HP) (b : Nat) : Option Blk := h.t.get dep b
def HP.set (h : HP) (b : Nat) (cs : List RV) (t : TypeId) (k : HP → Bool) : Bool := fL cs fun cs => h.t.put dep b (.mk cs t) fun t => k ⟨t, h.pre, h.n⟩
def HP.newB (h : HP) (x : Blk) (k : Nat → HP → Bool) : Bool := match h.pre with
  | [] => forceN (h.n + 1) fun n => match h.get h.n with
    | none => h.t.put dep h.n x fun t => k h.n ⟨t, [], n⟩
    | some _ => false
  | i :: r => match h.get i with
    | none => h.t.put dep i x fun t => k i ⟨t, r, h.n⟩
    | some _ => false
def HP.new (h : HP) (cs : List RV) (t : TypeId) (k : Nat → HP → Bool) : Bool := fL cs fun cs => h.newB (.mk cs t) k

/-! ### Frames -/
abbrev RE := List (Nat × RV)
def fRE : RE → (RE → Bool) → Bool
  | [], k => k []
  | (i, v) :: r, k => forceN i fun i => fV v fun v => fRE r fun r => k ((i, v) :: r)
def RE.get : RE → Nat → RV
  | [], _ => .any
  | (j, v) :: r, i => bif Nat.beq i j then v else RE.get r i
def RE.put (re : RE) (d : Nat) (v : RV) : RE := (d, v) :: re
def RE.putO (re : RE) : Option Tmp → RV → RE
  | some d, v => re.put d v
  | none, _ => re
def of1 : Value → RV
  | .int k i => .int k i
  | .bool b => .bool b
  | .string s => .str (s.data.toList.map (·.toNat))
  | .pointer none => .nilp
  | .slice none 0 0 => .nils
  | .nilFunc => .nilf
  | _ => .any
def ofV : Value → RV
  | .agg l => .agg (l.toList.map of1)
  | v => of1 v
def RE.ev (re : RE) : Operand → RV
  | .tmp t => re.get t
  | .const v => ofV v
  | .global _ => .any
  | .func f => .fn f [] []

/-! ### Operations that only compute -/
section
variable (P : Program)
def binI (op : BinOp) (k : IntKind) (a b : Int) : Option RV := match op with
  | .lss => some (.bool (decide (a < b)))
  | .leq => some (.bool (decide (a ≤ b)))
  | .gtr => some (.bool (decide (b < a)))
  | .geq => some (.bool (decide (b ≤ a)))
  | .eql => some (.bool (decide (a = b)))
  | .neq => some (.bool (!decide (a = b)))
  | .add => some (.int k (k.wrap (a + b)))
  | .sub => some (.int k (k.wrap (a - b)))
  | .and => some (.int k (bits .and k a b))
  | .or => some (.int k (bits .or k a b))
  | .andNot => some (.int k (bits .andNot k a b))
  | _ => none
def isSl (t : TypeId) : Bool := match P.underlying t with | some (.slice _) => true | _ => false
def bin (op : BinOp) (t : TypeId) (x y : RV) : Option RV := match x, y with
  | .int k a, .int l b => (match op with
    | .shr => bif (decide (k = .i64) || decide (k = .u64)) && decide (0 ≤ b) then some (.int k (ishr a b)) else none
    | op => bif decide (k = l) then binI op k a b else none)
  | .str a, .str b => (match op with
    | .eql => some (.bool (decide (a = b)))
    | .neq => some (.bool (!decide (a = b)))
    | _ => none)
  | .slice .., .nils => bif isSl P t then (match op with
    | .eql => some (.bool false)
    | .neq => some (.bool true)
    | _ => none) else none
  | .nils, .nils => bif isSl P t then (match op with
    | .eql => some (.bool true)
    | .neq => some (.bool false)
    | _ => none) else none
  | _, _ => none
def natOf : RV → Option Nat
  | .int _ (.ofNat n) => some n
  | _ => none
def offT (t : TypeId) (f : Nat) : Nat := match P.underlying t with
  | some (.struct fs) => (match fs[f]? with | some x => x.offset | none => 0)
  | _ => 0
def aggT (t : TypeId) : Bool := match P.underlying t with | some (.struct _) | some (.array _ _) => true | _ => false
def sizeT (t : TypeId) : Nat := match P.info? t with | some i => i.size | none => 0
def zeroT (t : TypeId) : RV := match P.info? t with | some i => (match i.zero with | some v => ofV v | none => .any) | none => .any
def elemT (t : TypeId) : Option TypeId := match P.underlying t with | some (.slice e) => bif sizeB P e (sizeT P e) then some e else none | _ => none
def part (t : TypeId) (cs : List RV) (o : Nat) : Option RV :=
  bif aggB P t (sizeT P t) then (bif Nat.ble (o + sizeT P t) cs.length then some (.agg ((cs.drop o).take (sizeT P t))) else none)
  else bif oneB P t then cs[o]? else none
/-- Parts laid over cells. -/
def lay (cs : List RV) (o : Nat) (vs : List RV) : List RV := cs.take o ++ vs ++ cs.drop (o + vs.length)
def layAll (place : Nat → Option (Nat × Nat)) : List RV → List (Nat × RV) → Option (List RV)
  | cs, [] => some cs
  | cs, (i, v) :: r => match place i with
    | some (o, sz) => bif okC v && (Nat.beq v.cells.length sz && Nat.ble (o + sz) cs.length) then layAll place (lay cs o v.cells) r else none
    | none => none
def minL (k : IntKind) : Int → List RV → Option RV
  | a, [] => some (.int k a)
  | a, .int l b :: r => bif decide (k = l) then minL k (if b < a then b else a) r else none
  | _, _ => none
def maxL (k : IntKind) : Int → List RV → Option RV
  | a, [] => some (.int k a)
  | a, .int l b :: r => bif decide (k = l) then maxL k (if a < b then b else a) r else none
  | _, _ => none
def evP (o : Oper) (re : RE) : Option RV := match o.op with
  | .nilCheck x => (match re.ev x with
    | .ptr b o => some (.ptr b o)
    | .fn f a c => some (.fn f a c)
    | _ => none)
  | .binOp op t x y _ => bin P op t (re.ev x) (re.ev y)
  | .unOp .not _ x => (match re.ev x with | .bool b => some (.bool (!b)) | _ => none)
  | .makeFunc (.func f) first caps => some (.fn f (first.toList.map re.ev) (caps.toList.map re.ev))
  | .fieldAddr s x f => (match re.ev x with
    | .ptr b o => bif offB P s f (offT P s f) then some (.ptr b (o + offT P s f)) else none
    | _ => none)
  | .field t x f => (match re.ev x, P.underlying t with
    | .agg cs, some (.struct fs) => (match fs[f]? with | some y => part P y.type cs y.offset | none => none)
    | _, _ => none)
  | .indexAddr t x i => (match re.ev x, natOf (re.ev i), P.underlying t with
    | .slice b o n _ _, some i, some (.slice e) => bif Nat.blt i n && sizeB P e (sizeT P e) then some (.ptr b (o + i * sizeT P e)) else none
    | .ptr b o, some i, some (.array n e) => bif Nat.blt i n && sizeB P e (sizeT P e) then some (.ptr b (o + i * sizeT P e)) else none
    | _, _, _ => none)
  | .index t x i => (match re.ev x, natOf (re.ev i), P.underlying t with
    | .agg cs, some i, some (.array n e) => bif Nat.blt i n && sizeB P e (sizeT P e) then part P e cs (i * sizeT P e) else none
    | .str s, some i, some .string => (match s[i]? with | some c => some (.int .u8 c) | none => none)
    | _, _, _ => none)
  | .extract x i => (match re.ev x with | .tup l => l[i]? | _ => none)
  | .slice t x lo hi mx => (match re.ev x, P.underlying t with
    | .str s, some .string => 
      let l := match lo with | some l => natOf (re.ev l) | none => some 0
      let h := match hi with | some l => natOf (re.ev l) | none => some s.length
      (match l, h, mx with
      | some l, some h, none => bif Nat.ble l h && Nat.ble h s.length then some (.str ((s.take h).drop l)) else none
      | _, _, _ => none)
    | .slice b o n c ex, some (.slice e) => bif sizeB P e (sizeT P e) then (
      let l := match lo with | some l => natOf (re.ev l) | none => some 0
      let h := match hi with | some l => natOf (re.ev l) | none => some n
      match mx with
      | some m => (match l, h, natOf (re.ev m), hi with
        | some l, some h, some m, some _ => bif Nat.ble l h && (Nat.ble h m && Nat.ble m c) then some (.slice b (bif Nat.beq m l then o else o + l * sizeT P e) (h - l) (m - l) true) else none
        | _, _, _, _ => none)
      | none => (match l, h with
        | some l, some h => bif Nat.ble l h && (Nat.ble h c && (Nat.blt l c || (ex || Nat.beq l 0))) then some (.slice b (bif Nat.beq c l then o else o + l * sizeT P e) (h - l) (c - l) ex) else none
        | _, _ => none)) else none
    | .nils, some (.slice e) => bif sizeB P e (sizeT P e) then (
      let l := match lo with | some l => natOf (re.ev l) | none => some 0
      let h := match hi with | some l => natOf (re.ev l) | none => some 0
      let m := match mx with | some l => natOf (re.ev l) | none => some 0
      match l, h, m with
      | some 0, some 0, some 0 => bif (match mx, hi with | some _, none => false | _, _ => true) then some .nils else none
      | _, _, _ => none) else none
    | _, _ => none)
  | .build t ps => (match zeroT P t, P.underlying t with
    | .agg z, some (.struct fs) => bif fs.toList.all (fun f => sizeB P f.type (sizeT P f.type)) then (layAll (fun i => (fs[i]?).map fun f => (f.offset, sizeT P f.type)) z (ps.toList.map fun p => (p.1, re.ev p.2))).map .agg else none
    | .agg z, some (.array _ e) => bif sizeB P e (sizeT P e) then (layAll (fun i => some (i * sizeT P e, sizeT P e)) z (ps.toList.map fun p => (p.1, re.ev p.2))).map .agg else none
    | _, _ => none)
  | .convert src dst x => (match re.ev x, P.underlying src, P.underlying dst with
    | .int _ i, some _, some (.int k) => some (.int k (k.wrap i))
    | .str s, some _, some .string => some (.str s)
    | _, _, _ => none)
  | .call c => (match c.callee with
    | .builtin .len => (match c.args.toList.map re.ev, (c.argTypes[0]?).bind P.underlying with
      | [.slice _ _ n _ _], some (.slice _) => some (.int .i64 n)
      | [.nils], some (.slice _) => some (.int .i64 0)
      | [.str s], some .string => some (.int .i64 s.length)
      | _, _ => none)
    | .builtin .min => (match c.args.toList.map re.ev with
      | .int k a :: l => minL k a l
      | _ => none)
    | .builtin .max => (match c.args.toList.map re.ev with
      | .int k a :: l => maxL k a l
      | _ => none)
    | _ => none)
  | _ => none

/-! ### Operations on memory -/
abbrev Rec := FuncId → List RV → HP → (RV → HP → Bool) → Bool
def ldK (t : TypeId) (x : RV) (h : HP) (k : RV → Bool) : Bool := match x with
  | .ptr b o => (match h.get b with
    | some (.mk cs _) => bif Nat.ble (o + sizeT P t) cs.length then
        (bif aggB P t (sizeT P t) then fV (.agg ((cs.drop o).take (sizeT P t))) k else bif oneB P t then (match cs[o]? with | some v => fV v k | none => false) else false)
      else false
    | _ => false)
  | _ => false
def cellsOf (h : HP) (sz n : Nat) : RV → Option (List RV)
  | .nils => bif Nat.beq (n * sz) 0 then some [] else none
  | .slice b o _ _ _ => (match h.get b with | some (.mk cs _) => bif Nat.ble (o + n * sz) cs.length && ((cs.drop o).take (n * sz)).all plainR then some ((cs.drop o).take (n * sz)) else none | _ => none)
  | _ => none
def lenOf : RV → Option Nat
  | .nils => some 0
  | .slice _ _ n _ _ => some n
  | _ => none
def bytesT (t : TypeId) : Nat := match P.info? t with | some i => i.bytes | none => 0
def u8T (t : TypeId) : Bool := match P.underlying t with
  | some (.slice e) => (match P.underlying e with | some (.int .u8) => true | _ => false)
  | _ => false
def strT (t : TypeId) : Bool := match P.underlying t with
  | some .string => true
  | _ => false
def rowT (t : Option TypeId) : Bool := match t.bind P.underlying with
  | some (.slice _) => true
  | _ => false
/-- n zero elements. -/
def zerosT (e : TypeId) (n : Nat) : Option (List RV) := bif okC (zeroT P e) && ((zeroT P e).cells.all plainR && Nat.beq (zeroT P e).cells.length (sizeT P e)) then some (List.replicate n (zeroT P e).cells).flatten else none
def appendK (h : HP) (e : TypeId) (s x : RV) (n m : Nat) (k : RV → HP → Bool) : Bool := match s with
  | .nils => bif Nat.beq m 0 then k .nils h else (match cellsOf h (sizeT P e) m x with
    | some cs => bif Nat.ble (m * bytesT P e) 140737488355328 && Nat.ble m 10000 then h.new cs e fun b h => k (.slice b 0 m m false) h else false
    | none => false)
  | .slice b o _ c ex => bif Nat.ble (n + m) c then (match cellsOf h (sizeT P e) m x, h.get b with
      | some cs, some (.mk bs u) => bif Nat.ble (o + (n + m) * sizeT P e) bs.length then h.set b (lay bs (o + n * sizeT P e) cs) u fun h => forceN (n + m) fun l => k (.slice b o l c ex) h else false
      | _, _ => false)
    else bif ex then (match cellsOf h (sizeT P e) n s, cellsOf h (sizeT P e) m x with
      | some cs, some ds => bif Nat.ble ((n + m) * bytesT P e) 140737488355328 && Nat.ble (n + m) 10000 then h.new (cs ++ ds) e fun b h => forceN (n + m) fun l => k (.slice b 0 l l false) h else false
      | _, _ => false) else false
  | _ => false
def copyK (h : HP) (e : TypeId) (d x : RV) (n m : Nat) (k : RV → HP → Bool) : Bool := forceN (Nat.min m n) fun l => (match d, cellsOf h (sizeT P e) l x with
  | .nils, some _ => bif Nat.beq l 0 then k (.int .i64 0) h else false
  | .slice b o _ _ _, some cs => (match h.get b with
    | some (.mk bs u) => bif Nat.ble (o + l * sizeT P e) bs.length then h.set b (lay bs o cs) u fun h => k (.int .i64 l) h else false
    | _ => false)
  | _, _ => false)
def natsOf : List RV → Option (List Nat)
  | [] => some []
  | .int .u8 (.ofNat c) :: r => (natsOf r).map (c :: ·)
  | _ => none
def evO (rec : Rec) (oo : Oper) (re : RE) (h : HP) (k : RV → HP → Bool) : Bool := match oo.op with
  | .alloc t => bif okC (zeroT P t) then h.new (zeroT P t).cells t fun b h => k (.ptr b 0) h else false
  | .box t x => bif okC (re.ev x) then h.new (re.ev x).cells t fun b h => k (.ptr b 0) h else false
  | .load t a => ldK P t (re.ev a) h fun v => k v h
  | .store t a x => (match re.ev a with
    | .ptr b o => (match h.get b with
      | some (.mk cs u) => bif (okC (re.ev x) && ((re.ev x).cells.all plainR && sizeB P t (sizeT P t))) && (Nat.beq (re.ev x).cells.length (sizeT P t) && Nat.ble (o + sizeT P t) cs.length) then h.set b (lay cs o (re.ev x).cells) u fun h => k .any h else false
      | _ => false)
    | _ => false)
  | .buildSlice t n ps => (match elemT P t with
    | some e => (match zerosT P e n with
      | some z => (match layAll (fun i => some (i * sizeT P e, sizeT P e)) z (ps.toList.map fun p => (p.1, re.ev p.2)) with
        | some cs => bif Nat.ble (n * sizeT P e) 16777216 then h.new cs e fun b h => k (.slice b 0 n n true) h else false
        | none => false)
      | none => false)
    | none => false)
  | .makeSlice t l c => (match elemT P t, natOf (re.ev l), natOf (re.ev c) with
    | some e, some l, some c => (match zerosT P e c with
      | some z => bif Nat.ble l c && (Nat.ble c 10000 && Nat.ble (bytesT P e * c) 281474976710656) then h.new z e fun b h => k (.slice b 0 l c true) h else false
      | none => false)
    | _, _, _ => false)
  | .convert src dst x => (match re.ev x with
    | .slice b q n c ex => bif u8T P dst && Nat.beq src dst then (match h.get b with | some (.mk _ _) => k (.slice b q n c ex) h | _ => false)
      else bif u8T P src && strT P dst then (match h.get b with
        | some (.mk cs _) => (match natsOf ((cs.drop q).take n) with
          | some l => bif Nat.ble (q + n) cs.length && l.all (Nat.blt · 256) then fNats l fun l => k (.str l) h else false
          | none => false)
        | _ => false)
      else false
    | .str s => bif u8T P dst && strT P src then (match elemT P dst with
        | some e => h.new (s.map fun (c : Nat) => .int .u8 c) e fun b h => k (.slice b 0 s.length s.length false) h
        | none => false)
      else (match evP P oo re with | some v => fV v fun v => k v h | none => false)
    | _ => (match evP P oo re with | some v => fV v fun v => k v h | none => false))
  | .call c => (match c.callee with
    | .value f => (match re.ev f with
      | .fn f first caps => fVs (first ++ c.args.toList.map re.ev ++ caps) fun as => rec f as h k
      | _ => false)
    | .builtin .append => (match (c.argTypes[0]?).bind (elemT P), c.args.toList.map re.ev with
      | some e, [s, x] => (match lenOf s, lenOf x with
        | some n, some m => bif rowT P c.argTypes[1]? && (zerosT P e 0).isSome then appendK P h e s x n m k else false
        | _, _ => false)
      | _, _ => false)
    | .builtin .copy => (match (c.argTypes[0]?).bind (elemT P), c.args.toList.map re.ev with
      | some e, [d, x] => (match lenOf d, lenOf x with
        | some n, some m => copyK P h e d x n m k
        | _, _ => false)
      | _, _ => false)
    | .builtin .clear => (match (c.argTypes[0]?).bind (elemT P), c.args.toList.map re.ev with
      | some _, [.nils] => k .any h
      | some e, [.slice b q n _ _] => (match h.get b, zerosT P e n with
        | some (.mk bs u), some zs => bif Nat.ble (q + n * sizeT P e) bs.length then h.set b (lay bs q zs) u fun h => k .any h else false
        | _, _ => false)
      | _, _ => false)
    | _ => match evP P oo re with | some v => fV v fun v => k v h | none => false)
  | .range t x => (match re.ev x, P.underlying t with
    | .str s, some .string => h.newB (.iter s 0) fun b h => k (.ptr b 0) h
    | _, _ => false)
  | .next x true => (match re.ev x with
    | .ptr b 0 => (match h.get b with
      | some (.iter s p) => (match s[p]? with
        | some c => bif Nat.blt c 128 then h.t.put dep b (.iter s (p + 1)) fun t => k (.tup [.bool true, .int .i64 p, .int .i32 c]) ⟨t, h.pre, h.n⟩ else false
        | none => k (.tup [.bool false]) h)
      | _ => false)
    | _ => false)
  | _ => match evP P oo re with | some v => fV v fun v => k v h | none => false

/-! ### Regions -/
mutual
def beqV : RV → RV → Bool
  | .any, .any => true
  | .skip, .skip => true
  | .int k i, .int l j => decide (k = l) && decide (i = j)
  | .bool a, .bool b => a == b
  | .str s, .str t => decide (s = t)
  | .nilp, .nilp => true
  | .ptr b o, .ptr c p => Nat.beq b c && Nat.beq o p
  | .nils, .nils => true
  | .slice b o n c e, .slice b' o' n' c' e' => Nat.beq b b' && (Nat.beq o o' && (Nat.beq n n' && (Nat.beq c c' && (e == e'))))
  | .nilf, .nilf => true
  | .fn f a c, .fn g b d => Nat.beq f g && (beqL a b && beqL c d)
  | .agg a, .agg b => beqL a b
  | .tup a, .tup b => beqL a b
  | _, _ => false
def beqL : List RV → List RV → Bool
  | [], [] => true
  | a :: l, b :: m => beqV a b && beqL l m
  | _, _ => false
end
def beqT : T → T → Bool
  | .e, .e => true
  | .n a x b, .n c y d => beqT a c && (beqT b d && (match x, y with
    | none, none => true
    | some (.mk c t), some (.mk d u) => Nat.beq t u && beqL c d
    | some (.iter c t), some (.iter d u) => Nat.beq t u && decide (c = d)
    | _, _ => false))
  | _, _ => false
def sameRE (r s : RE) : Bool := r.all fun p => beqV (RE.get r p.1) (RE.get s p.1)

def gd (ops : List Oper) (o : Oper) (re : RE) : Option Bool := match o.guard with
  | none => some true
  | some (j, want) => match dstOf ops j with
    | none => none
    | some t => match re.get t with
      | .bool b => some (bif want then b else !b)
      | .skip => some false
      | _ => none
def nsk (k : RV → HP → Bool) (v : RV) (h : HP) : Bool := match v with
  | .skip => false
  | v => k v h
def evStep (rec : Rec) (ops : List Oper) (o : Oper) (re : RE) (h : HP) (k : RE → HP → Bool) : Bool := match gd ops o re with
  | some true => (match o.op with
    | .move x | .assign x => fV (re.ev x) fun v => k (re.putO o.dst v) h
    | .pick c a b => (match re.ev c with
      | .bool true => fV (re.ev a) fun v => nsk (fun v h => k (re.putO o.dst v) h) v h
      | .bool false => fV (re.ev b) fun v => nsk (fun v h => k (re.putO o.dst v) h) v h
      | _ => false)
    | _ => evO P rec o re h (nsk fun v h => k (re.putO o.dst v) h))
  | some false => k (re.putO o.dst .skip) h
  | none => false
def evOps (rec : Rec) (ops : List Oper) : List Oper → RE → HP → (RE → HP → Bool) → Bool
  | [], re, h, k => k re h
  | o :: r, re, h, k => evStep P rec ops o re h fun re h => evOps rec ops r re h k
/-- What was read early. -/
structure Pe where
  op : Nat
  t : TypeId
  x : RV
  v : RV
def stillB (h : HP) : List Pe → Bool
  | [] => true
  | p :: r => ldK P p.t p.x h (fun v => beqV v p.v && detV v) && stillB h r
def keepE (ops : List Oper) (i : Nat) (pend : List Pe) : List Pe := pend.filter fun p => !dependsB ops i p.op
def evFloat (ops : List Oper) (i : Nat) (o : Oper) (re : RE) (h : HP) (k : List Pe → RE → Bool) : Bool := match gd ops o re with
  | some true => (match o.op with
    | .move x | .assign x => fV (re.ev x) fun v => k [] (re.putO o.dst v)
    | .pick c a b => (match re.ev c with
      | .bool true => fV (re.ev a) fun v => nsk (fun v _ => k [] (re.putO o.dst v)) v h
      | .bool false => fV (re.ev b) fun v => nsk (fun v _ => k [] (re.putO o.dst v)) v h
      | _ => false)
    | .load t x => ldK P t (re.ev x) h fun v => nsk (fun v _ => k [⟨i, t, re.ev x, v⟩] (re.putO o.dst v)) v h
    | _ => match evP P o re with | some v => fV v fun v => nsk (fun v _ => k [] (re.putO o.dst v)) v h | none => false)
  | some false => k [] (re.putO o.dst .skip)
  | none => false
def evD (rec : Rec) (ops : List Oper) : DP → List Pe → RE → HP → (RE → HP → Bool) → Bool
  | .fin, _, re, h, k => k re h
  | .take i d, pend, re, h, k => (match ops[i]? with
    | some o => evFloat P ops i o re h fun pe re => evD rec ops d (pe ++ pend) re h k
    | none => false)
  | .one i d, pend, re, h, k => (match ops[i]? with
    | some o => evStep P rec ops o re h fun re h => bif stillB P h (keepE ops i pend) then evD rec ops d (keepE ops i pend) re h k else false
    | none => false)
  | .two i d j d', pend, re, h, k => (match ops[i]?, ops[j]? with
    | some o, some o' =>
      evStep P rec ops o re h fun re1 h1 => bif stillB P h1 (keepE ops i pend) then evD rec ops d (keepE ops i pend) re1 h1 fun re1 h1 =>
        evStep P rec ops o' re ⟨h.t, [h.n + 1, h.n], h.n + 2⟩ fun re2 h2 => bif stillB P h2 (keepE ops j pend) then evD rec ops d' (keepE ops j pend) re2 h2 fun re2 h2 =>
          bif sameRE re1 re2 && (beqT h1.t h2.t && (Nat.beq h1.n h2.n && (h1.pre.isEmpty && h2.pre.isEmpty))) then k re1 h1 else false
        else false
      else false
    | _, _ => false)

/-! ### Code -/
def noskip : RV → RV
  | .skip => .any
  | v => v
def hav (S : List Nat) (re : RE) : RE := re.filter fun p => !S.any (Nat.beq p.1)
def putL : List Nat → List RV → RE → RE
  | t :: L, v :: l, re => (t, v) :: putL L l re
  | _, _, re => re
def iter (step : List RV → HP → (X → RE → HP → Bool) → Bool) (L : List Nat) : Nat → List RV → HP → (X → RE → HP → Bool) → Bool
  | 0, _, _, _ => false
  | m + 1, vs, h, k => step vs h fun x re h => match x with
    | .norm => fVs (L.map fun t => noskip (re.get t)) fun vs => iter step L m vs h k
    | x => k x re h
def evC (rec : Rec) (lf : Nat) : Code → Pl → RE → HP → (X → RE → HP → Bool) → Bool
  | .skip, _, re, h, k => k .norm re h
  | .region _ ops false, _, re, h, k => evOps P rec ops.toList ops.toList re h (k .norm)
  | .region _ ops true, .draw d, re, h, k => evD P rec ops.toList d [] re h (k .norm)
  | .seq a b, .seq pa pb, re, h, k => evC rec lf a pa re h fun x re h => match x with
    | .norm => evC rec lf b pb re h k
    | x => k x re h
  | .seq a b, .join L S pa pb, re, h, k => evC rec lf a pa re h fun x re1 h => match x with
    | .norm => fRE (putL L (L.map fun t => noskip (re1.get t)) (hav S re)) fun re => evC rec lf b pb re h k
    | x => k x re1 h
  | .cond c a b, .cond pa pb, re, h, k => (match c with
    | .tmp t => (match re.get t with
      | .bool true => evC rec lf a pa re h k
      | .bool false => evC rec lf b pb re h k
      | _ => false)
    | _ => false)
  | .block id a, .block pa, re, h, k => evC rec lf a pa re h fun x re h => match x with
    | .exit i => bif Nat.beq i id then k .norm re h else k (.exit i) re h
    | x => k x re h
  | .loop a, .loop L S pa, re, h, k => fRE (hav S re) fun rs => fVs (L.map fun t => noskip (re.get t)) fun vs => iter (fun vs h k => evC rec lf a pa (putL L vs rs) h k) L lf vs h k
  | .scope a, .block pa, re, h, k => evC rec lf a pa re h k
  | .label _, _, re, h, k => k .norm re h
  | .exit id, _, re, h, k => k (.exit id) re h
  | .ret, _, re, h, k => k .ret re h
  | _, _, _, _, _ => false
def finE : List RV → RV
  | [v] => v
  | l => .tup l
def evR : List ResultVar → List RV → RE → HP → (RV → Bool) → Bool
  | [], acc, _, _, k => k (finE acc.reverse)
  | .tmp t :: r, acc, re, h, k => fV (re.get t) fun v => evR r (v :: acc) re h k
  | .cell t ty :: r, acc, re, h, k => ldK P ty (re.get t) h fun v => evR r (v :: acc) re h k
def notSkip : RV → Bool
  | .skip => false
  | _ => true
structure Fu where
  nt : Nat
  body : Code
  pl : Pl
  res : List ResultVar
def enum : Nat → List RV → RE
  | _, [] => []
  | i, v :: l => (i, v) :: enum (i + 1) l
def evCall (tab : FuncId → Option Fu) (ext : FuncId → List RV → Option RV) (lf : Nat) : Nat → Rec
  | 0, _, _, _, _ => false
  | n + 1, f, args, h, k => match tab f with
    | some fu => bif Nat.ble args.length fu.nt && args.all notSkip then evC P (evCall tab ext lf n) lf fu.body fu.pl (enum 0 args) h fun x re h => match x with
      | .exit _ => false
      | _ => evR P fu.res [] re h fun v => k v h
      else false
    | none => match ext f args with
      | some v => fV v fun v => k v h
      | none => false
end
end Go.Ev
