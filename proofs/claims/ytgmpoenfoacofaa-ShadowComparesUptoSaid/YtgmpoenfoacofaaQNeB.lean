/-
  Circuits, plain data: what firing does, channel by channel.
-/
import Derived.Test.YtgmpoenfoacofaaQNeA
namespace Go.Proofs.Ytgmpoenfoacofaa
open Go.RowKit
set_option linter.unusedVariables false
set_option linter.unusedSimpArgs false
structure Ch where
 name : ByteArray
 w : Int
 cap : Int
 frm : Int
 dst : Int
abbrev bO : Ch := ⟨e0, 0, 0, 0, 0⟩
structure Ci where
 procs : List Pr
 chans : List Ch
structure Ns where
 procs : List Ps
 chans : List (List Int)
def dy (c : Ch) : List V := [.str c.name, .int .i64 c.w, .int .i64 c.cap, .int .i64 c.frm, .int .i64 c.dst]
abbrev t7 : Ns := ⟨[], []⟩
abbrev dP (c : Ci) (i : Nat) : Pr := c.procs.getD i ew
abbrev jr (c : Ci) (n : Nat) : Ch := c.chans.getD n bO
abbrev yK (s : Ns) (i : Nat) : Ps := s.procs.getD i e8
abbrev rC (s : Ns) (n : Nat) : List Int := s.chans.getD n []
abbrev u2 (p : Pr) (j : Nat) : Nat := (pg p j).chan.toNat
abbrev t8 (p : Pr) (j : Nat) : Nat := (mH p j).chan.toNat
structure kV (c : Ci) : Prop where
 n1 : 1 ≤ c.procs.length
 nl : c.procs.length ≤ 100
 cl : c.chans.length ≤ 100
 pr : ∀ i, i < c.procs.length → vB (dP c i)
 tk : ∀ i, i < c.procs.length → ∀ j, j < (dP c i).takes.length → 0 ≤ (pg (dP c i) j).chan ∧ (pg (dP c i) j).chan < c.chans.length ∧ (jr c (u2 (dP c i) j)).w = (pg (dP c i) j).w ∧ (jr c (u2 (dP c i) j)).dst = i
 pt : ∀ i, i < c.procs.length → ∀ j, j < (dP c i).puts.length → 0 ≤ (mH (dP c i) j).chan ∧ (mH (dP c i) j).chan < c.chans.length ∧ (jr c (t8 (dP c i) j)).w = (mH (dP c i) j).w ∧ (jr c (t8 (dP c i) j)).frm = i
 td : ∀ i, i < c.procs.length → ∀ j k, j < (dP c i).takes.length → k < (dP c i).takes.length → u2 (dP c i) j = u2 (dP c i) k → j = k
 pd : ∀ i, i < c.procs.length → ∀ j k, j < (dP c i).puts.length → k < (dP c i).puts.length → t8 (dP c i) j = t8 (dP c i) k → j = k
 cw : ∀ n, n < c.chans.length → br (jr c n).w = true
 cp : ∀ n, n < c.chans.length → 0 ≤ (jr c n).cap
def js (l : List Int) (w : Int) : Bool := cZ (fun i => gI (l.getD i 0) w) l.length
structure pj (c : Ci) (s : Ns) : Prop where
 pl : s.procs.length = c.procs.length
 cl : s.chans.length = c.chans.length
 pv : ∀ i, i < c.procs.length → wN (dP c i) (yK s i)
 cv : ∀ n, n < c.chans.length → ∀ i, i < (rC s n).length → o8 ((rC s n).getD i 0) (jr c n).w
 cc : ∀ n, n < c.chans.length → 0 ≤ (jr c n).frm → 0 ≤ (jr c n).dst → ((rC s n).length : Int) ≤ (jr c n).cap
def xP (c : Ci) (s : Ns) (p j : Nat) : Hd := if 0 < (rC s (u2 (dP c p) j)).length then ⟨true, (rC s (u2 (dP c p) j)).getD 0 0⟩ else wh
def wO (c : Ci) (s : Ns) (p : Nat) : List Hd := tab (xP c s p) (dP c p).takes.length
def xQ (c : Ci) (s : Ns) (p j : Nat) : Bool := decide ((jr c (t8 (dP c p) j)).dst = -1) || decide (((rC s (t8 (dP c p) j)).length : Int) < (jr c (t8 (dP c p) j)).cap)
def wP (c : Ci) (s : Ns) (p : Nat) : List Bool := tab (xQ c s p) (dP c p).puts.length
def ns (c : Ci) (s : Ns) (p : Nat) : Fi := xO (dP c p) (yK s p) (wO c s p) (wP c s p)
def xR (c : Ci) (s : Ns) (p : Nat) : Bool := (ns c s p).fires
def zw (p : Pr) (f : Fi) : Nat → List Nat
 | 0 => []
 | k + 1 => zw p f k ++ (if f.pops.getD k false = true then [u2 p k] else [])
def zx (p : Pr) (f : Fi) : Nat → List (Nat × Int)
 | 0 => []
 | k + 1 => zx p f k ++ (if (f.puts.getD k wh).has = true then [(t8 p k, (f.puts.getD k wh).v)] else [])
def qy (c : Ci) (s : Ns) (w : Nat → Bool) (p : Nat) : Bool := w p && xR c s p
def wQ (c : Ci) (s : Ns) (p n : Nat) : Bool := decide (n ∈ zw (dP c p) (ns c s p) (dP c p).takes.length)
def yL (c : Ci) (s : Ns) (p n : Nat) : List Int := ((zx (dP c p) (ns c s p) (dP c p).puts.length).filter (fun e => e.1 == n)).map (·.2)
def xS (c : Ci) (n : Nat) : Nat := (jr c n).dst.toNat
def xT (c : Ci) (n : Nat) : Nat := (jr c n).frm.toNat
def xU (c : Ci) (s : Ns) (w : Nat → Bool) (n : Nat) : Nat := if qy c s w (xS c n) = true ∧ wQ c s (xS c n) n = true then 1 else 0
def xV (c : Ci) (s : Ns) (w : Nat → Bool) (n : Nat) : List Int := if qy c s w (xT c n) = true then yL c s (xT c n) n else []
def xW (c : Ci) (s : Ns) (w : Nat → Bool) (n : Nat) : List Int := (rC s n).drop (xU c s w n) ++ xV c s w n
def xX (c : Ci) (s : Ns) (w : Nat → Bool) (p : Nat) : Ps := if qy c s w p = true then (ns c s p).s else yK s p
def xY (c : Ci) (s : Ns) (w : Nat → Bool) : Ns := ⟨tab (xX c s w) c.procs.length, tab (xW c s w) c.chans.length⟩
end Go.Proofs.Ytgmpoenfoacofaa
