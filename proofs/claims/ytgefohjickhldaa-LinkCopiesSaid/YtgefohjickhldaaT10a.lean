/- A station, plainly: what the program's and the specification's do (z: the specification's, which also forgets how often it tried, and keeps what it told). -/
import Derived.Test.YtgefohjickhldaaF10d
namespace Go.Proofs.Ytgefohjickhldaa.D
open Go.Fw Go.RowKit

structure Evt where
  way : Int
  kind : Int
  d : ByteArray
def evc (e : Evt) : List Value := [.int .i64 e.way, .int .i64 e.kind, .int .i64 0, .int .i64 0, .int .i64 0, .string e.d]
structure St where
  first : Bool
  win : Nat
  wait : Nat
  tries : Nat
  state : Nat
  gen : Nat
  sent : Nat
  acked : Nat
  wanted : Nat
  rej : Bool
  ren : Bool
  queue : List ByteArray
  out : List ByteArray
  left : Nat
  tried : Nat
  ans : List Evt
/-- A frame's bytes, none if it is no frame. -/
def fb (k g s r : Nat) (d : ByteArray) : ByteArray := if Fit k g s r d.size then summed (fr3 k g s r ++ d) else ByteArray.empty
theorem frame_fb (k g s r : Nat) (d : ByteArray) : ∃ e : Int, frame k g s r d = .tuple #[.string (fb k g s r d), .int .i64 e] := by
  unfold frame fb
  split
  · exact ⟨0, rfl⟩
  · exact ⟨1, rfl⟩
def nob : ByteArray := ByteArray.empty
namespace St
def snd (k n r : Nat) (d : ByteArray) (s : St) : St := { s with ans := s.ans ++ [⟨1, 0, fb k s.gen n r d⟩] }
def tel (k : Nat) (d : ByteArray) (s : St) : St := { s with ans := s.ans ++ [⟨0, k, d⟩] }
def emp (z : Bool) (s : St) : St := { s with sent := 0, acked := 0, wanted := 0, rej := false, queue := [], out := [], left := 0, tried := if z then 0 else s.tried }
def sta (s : St) : St := { s with left := s.wait, tried := 1 }
def ask (s : St) : St := if s.first then snd 1 0 0 nob s else snd 8 0 0 nob s
def beg (s : St) : St := sta (ask { s with gen := if s.first then (s.gen + 1) % 256 else s.gen, state := 1 })
def rise (z : Bool) (s : St) : St := { emp z s with state := 2 }
def giv (z : Bool) (s : St) : St := tel 3 nob { emp z s with state := 0, ren := z && s.ren }
/-- The first i that are out, once more. -/
def agnN (s : St) (i : Nat) : St := { s with ans := s.ans ++ (List.range i).map fun j => ⟨1, 0, fb 3 s.gen ((s.acked + j) % 8) s.wanted (s.out.getD j nob)⟩ }
def agn (s : St) : St := agnN s s.out.length
def ack (r : Nat) (s : St) : St :=
  if (r + 8 - s.acked) % 8 = 0 ∨ (r + 8 - s.acked) % 8 > s.out.length then s else
    { s with out := s.out.drop ((r + 8 - s.acked) % 8), acked := r, tried := 0, left := if s.out.drop ((r + 8 - s.acked) % 8) = [] then 0 else s.wait }
def car (k n r : Nat) (d : ByteArray) (s : St) : St :=
  let s1 := ack r s
  if k = 5 then agn s1 else if k = 4 then s1 else
  if n = s1.wanted then snd 4 0 ((s1.wanted + 1) % 8) nob { tel 2 d s1 with wanted := (s1.wanted + 1) % 8, rej := false }
  else if s1.rej then snd 4 0 s1.wanted nob s1
  else snd 5 0 s1.wanted nob { s1 with rej := true }
def setf (z : Bool) (g : Nat) (s : St) : St :=
  if s.first = true ∨ s.state = 3 then s else
  if g = s.gen then (if s.state = 2 then snd 2 0 0 nob s else s) else
  tel (if s.state = 2 then 4 else 1) nob (rise z (snd 2 0 0 nob { s with gen := g }))
def frm (z : Bool) (k g n r : Nat) (d : ByteArray) (s : St) : St :=
  if k ≠ 1 ∧ k ≠ 8 ∧ g ≠ s.gen then s else
  if k = 1 then setf z g s
  else if k = 8 then (if s.first = true ∧ (s.state = 0 ∨ s.state = 2) then (if s.state = 2 then beg (tel 4 nob { s with ren := true }) else beg { s with ren := false }) else s)
  else if k = 2 then (if s.state = 1 ∧ s.first = true then (if s.ren then { rise z s with ren := z } else { tel 1 nob (rise z s) with ren := false }) else s)
  else if k = 6 then (if s.state = 0 then snd 7 0 0 nob s else giv z (snd 7 0 0 nob s))
  else if k = 7 then (if s.state = 3 then giv z s else s)
  else if s.state = 2 then car k n r d s else s
def frmB (z : Bool) (b : ByteArray) (s : St) : St :=
  if RdOk b then frm z (byteAt b 0).toNat (byteAt b 1).toNat ((byteAt b 2).toNat / 8) ((byteAt b 2).toNat % 8) (dat b) s else s
def tic (z : Bool) (s : St) : St :=
  if s.left = 0 then s else
  if s.left - 1 > 0 then { s with left := s.left - 1 } else
  if s.tried ≥ s.tries then giv z { s with left := 0 } else
  let s2 := { s with tried := s.tried + 1, left := s.wait }
  if s.state = 1 then ask s2 else if s.state = 3 then snd 6 0 0 nob s2 else if s.state = 2 then agn s2 else s2
def usr (k : Int) (d : ByteArray) (s : St) : Int × St :=
  if k = 1 then (if s.state ≠ 0 then (8, s) else (0, beg { s with ren := false }))
  else if k = 2 then (if d.size > 1000 then (1, s) else if s.state ≠ 2 then (8, s) else if s.queue.length ≥ 20 then (9, s) else (0, { s with queue := s.queue ++ [d] }))
  else if k = 3 then (if s.state ≠ 2 ∧ s.state ≠ 1 then (8, s) else (0, sta (snd 6 0 0 nob { s with queue := [], state := 3 })))
  else (1, s)
def may (s : St) : Prop := s.state = 2 ∧ s.out.length < s.win ∧ s.queue ≠ []
instance (s : St) : Decidable s.may := by unfold may; exact inferInstance
def flo1 (s : St) : St :=
  let s1 := { snd 3 s.sent s.wanted (s.queue.headD nob) { s with queue := s.queue.tail, out := s.out ++ [s.queue.headD nob] } with sent := (s.sent + 1) % 8 }
  if s.left = 0 then sta s1 else s1
def floN : Nat → St → St
  | 0, s => s
  | n + 1, s => if s.may then floN n (flo1 s) else s
def flo (s : St) : St := floN s.queue.length s
def ons (z : Bool) (w k : Int) (d : ByteArray) (s : St) : Int × St :=
  if w = 0 then (if (usr k d { s with ans := [] }).1 = 0 then (0, flo (usr k d { s with ans := [] }).2) else usr k d { s with ans := [] })
  else if w = 1 ∧ k = 0 then (0, flo (frmB z d { s with ans := [] }))
  else if w = 2 ∧ k = 0 then (0, flo (tic z { s with ans := [] }))
  else (1, { s with ans := [] })

/-- What a station's numbers may be. -/
structure Ok (s : St) : Prop where
  win : 1 ≤ s.win ∧ s.win ≤ 7
  wait : 1 ≤ s.wait ∧ s.wait ≤ 50
  tries : 1 ≤ s.tries ∧ s.tries ≤ 10
  state : s.state ≤ 3
  gen : s.gen ≤ 255
  sent : s.sent ≤ 7
  acked : s.acked ≤ 7
  wanted : s.wanted ≤ 7
  left : s.left ≤ s.wait
  tried : s.tried ≤ s.tries
  queue : s.queue.length ≤ 20
  out : s.out.length ≤ s.win
  down : s.state = 0 → s.left = 0
/-- The program's and the specification's. -/
structure Sim (s r : St) : Prop where
  eq : r = { s with tried := r.tried, ren := r.ren }
  tried : s.left = 0 ∨ r.tried = s.tried
  ren : s.state = 1 → r.ren = s.ren
  ok : Ok s
  rtried : r.tried ≤ r.tries
end St
end Go.Proofs.Ytgefohjickhldaa.D
