/- The Go functions told plainly, by program (gen.py). -/
import Derived.Test.YtijgfgfolkbkoaaAtP2
set_option linter.unusedVariables false
namespace AT
structure Frame where
  Counter : Int
  Pointer : Int
  Payload : List Int
  deriving DecidableEq

/- loop.example/g00897/laws.toIntS -/
def laws_toIntS_L1 (fu : Nat) (a' : List Int) : Nat → List Int → Int → Option (List Int × Int)
  | 0, _, _ => none
  | fk + 1, out', i =>
    if decide (i < (a'.length : Int)) then
      (idx a' i).bind fun e =>
      (idx out' i).bind fun e2 =>
      laws_toIntS_L1 fu a' fk (out'.set (i).toNat e) (w64 (i + 1))
    else
      some (out', i)
def laws_toIntS (fu : Nat) (a' : List Int) : Option (List Int) :=
  (mk (0 : Int) (a'.length : Int)).bind fun l =>
  (laws_toIntS_L1 fu a' fu l 0).bind fun z =>
  some z.1

/- loop.example/g00897/spec.l1In -/
def spec_l1In (fu : Nat) (x1 : Int) (a' : Int) (b' : Int) : Option (Bool) :=
  (if decide (x1 ≥ a') then some (decide (x1 ≤ b'))
  else some false).bind fun c =>
  some c

/- loop.example/g00897/spec.l23Bytes -/
def spec_l23Bytes_L1 (fu : Nat) (list : List Int) : Nat → Int → Option (Out (Int) (Bool))
  | 0, _ => none
  | fk + 1, i =>
    if decide (i < (list.length : Int)) then
      (idx list i).bind fun e =>
      (spec_l1In fu e 0 255).bind fun y =>
      if !y then
        some (.ret false)
      else
        spec_l23Bytes_L1 fu list fk (w64 (i + 1))
    else
      some (.next i)
def spec_l23Bytes (fu : Nat) (list : List Int) : Option (Bool) :=
  (spec_l23Bytes_L1 fu list fu 0).bind fun out => out.on some fun z =>
  some true

/- loop.example/g00897/spec.l1Own -/
def spec_l1Own (fu : Nat) (l : List Int) : Option (List Int) :=
  (app ([] : List Int) l).bind fun l2 =>
  some l2

/- loop.example/g00897/spec.l23Good -/
def spec_l23Good (fu : Nat) (f : Frame) : Option (Bool) :=
  ((spec_l1In fu f.Counter 0 255).bind fun y =>
  if y then (spec_l1In fu f.Pointer 0 11).bind fun y2 =>
  if y2 then if (f.Payload.length : Int) == 12 then (spec_l23Bytes fu f.Payload).bind fun y3 =>
  some y3
  else some false
  else some false
  else some false).bind fun c2 =>
  some c2

/- loop.example/g00897/spec.l23Parity -/
def spec_l23Parity_L1 (fu : Nat) (list : List Int) : Nat → Int → Int → Option (Int × Int)
  | 0, _, _ => none
  | fk + 1, out', i =>
    if decide (i < (list.length : Int)) then
      (idx list i).bind fun e =>
      spec_l23Parity_L1 fu list fk (bxor out' e) (w64 (i + 1))
    else
      some (out', i)
def spec_l23Parity (fu : Nat) (list : List Int) : Option (Int) :=
  (spec_l23Parity_L1 fu list fu 0 0).bind fun z =>
  some z.1

/- loop.example/g00897/spec.l23List -/
def spec_l23List (fu : Nat) (f : Frame) : Option (List Int) :=
  (app [246, 40, f.Counter, f.Pointer] f.Payload).bind fun l =>
  (spec_l23Parity fu l).bind fun y =>
  (app l [y]).bind fun l2 =>
  some l2

/- loop.example/g00897/spec.l1Same -/
def spec_l1Same_L1 (fu : Nat) (a' : List Int) (b' : List Int) : Nat → Int → Option (Out (Int) (Bool))
  | 0, _ => none
  | fk + 1, i =>
    if decide (i < (a'.length : Int)) then
      (idx a' i).bind fun e =>
      (idx b' i).bind fun e2 =>
      if e != e2 then
        some (.ret false)
      else
        spec_l1Same_L1 fu a' b' fk (w64 (i + 1))
    else
      some (.next i)
def spec_l1Same (fu : Nat) (a' : List Int) (b' : List Int) : Option (Bool) :=
  if (a'.length : Int) != (b'.length : Int) then
    some false
  else
    (spec_l1Same_L1 fu a' b' fu 0).bind fun out => out.on some fun z =>
    some true

/- loop.example/g00897/spec.ParseFrame -/
def spec_ParseFrame (fu : Nat) (list : List Int) : Option (Frame × Bool) :=
  if (list.length : Int) != 17 then
    some (({ Counter := 0, Pointer := 0, Payload := [] } : Frame), false)
  else
    (idx list 2).bind fun e =>
    (idx list 3).bind fun e2 =>
    (sub list 4 16).bind fun l =>
    (spec_l1Own fu l).bind fun y =>
    ((spec_l23Good fu ({ Counter := e, Pointer := e2, Payload := y } : Frame)).bind fun y2 =>
    if !y2 then some true
    else (spec_l23List fu ({ Counter := e, Pointer := e2, Payload := y } : Frame)).bind fun y3 =>
    (spec_l1Same fu y3 list).bind fun y4 =>
    some (!y4)).bind fun c4 =>
    if c4 then
      some (({ Counter := 0, Pointer := 0, Payload := [] } : Frame), false)
    else
      some (({ Counter := e, Pointer := e2, Payload := y } : Frame), true)

/- loop.example/g00897/spec.FindFrames -/
def spec_FindFrames_L1 (fu : Nat) (stream : List Int) : Nat → List Int → Int → Option (List Int × Int)
  | 0, _, _ => none
  | fk + 1, out', i =>
    if decide ((w64 (i + 17)) ≤ (stream.length : Int)) then
      (sub stream i (w64 (i + 17))).bind fun l =>
      (spec_ParseFrame fu l).bind fun y2 =>
      if y2.2 then
        (app out' [i]).bind fun l2 =>
        spec_FindFrames_L1 fu stream fk l2 (w64 ((w64 ((w64 (i + 17)) - 1)) + 1))
      else
        spec_FindFrames_L1 fu stream fk out' (w64 (i + 1))
    else
      some (out', i)
def spec_FindFrames (fu : Nat) (stream : List Int) : Option (List Int × Bool) :=
  (if decide ((stream.length : Int) > 400) then some true
  else (spec_l23Bytes fu stream).bind fun y =>
  some (!y)).bind fun c2 =>
  if c2 then
    some (([] : List Int), false)
  else
    (spec_FindFrames_L1 fu stream fu ([] : List Int) 0).bind fun z =>
    some (z.1, true)

/- loop.example/g00897/impl.within -/
def impl_within (fu : Nat) (n' : Int) (low : Int) (high : Int) : Option (Bool) :=
  (if decide (low ≤ n') then some (decide (n' ≤ high))
  else some false).bind fun c =>
  some c

/- loop.example/g00897/impl.areBytes$1 -/
def impl_areBytes_c1 (fu : Nat) (b' : Int) : Option (Bool) :=
  (impl_within fu b' 0 255).bind fun y =>
  some (!y)

/- slices.IndexFunc[[]int,int] -/
def slices_IndexFunc_int_int_of_areBytes_c1_L1 (fu : Nat) (s' : List Int) : Nat → Int → Option (Out (Int) (Int))
  | 0, _ => none
  | fk + 1, i =>
    if decide (i < (s'.length : Int)) then
      (idx s' i).bind fun e =>
      (impl_areBytes_c1 fu e).bind fun y =>
      if y then
        some (.ret i)
      else
        slices_IndexFunc_int_int_of_areBytes_c1_L1 fu s' fk (w64 (i + 1))
    else
      some (.next i)
def slices_IndexFunc_int_int_of_areBytes_c1 (fu : Nat) (s' : List Int) : Option (Int) :=
  (slices_IndexFunc_int_int_of_areBytes_c1_L1 fu s' fu 0).bind fun out => out.on some fun z =>
  some (-1)

/- slices.ContainsFunc[[]int,int] -/
def slices_ContainsFunc_int_int_of_areBytes_c1 (fu : Nat) (s' : List Int) : Option (Bool) :=
  (slices_IndexFunc_int_int_of_areBytes_c1 fu s').bind fun y =>
  some (decide (y ≥ 0))

/- loop.example/g00897/impl.areBytes -/
def impl_areBytes (fu : Nat) (l : List Int) : Option (Bool) :=
  (slices_ContainsFunc_int_int_of_areBytes_c1 fu l).bind fun y =>
  some (!y)

/- slices.Clone[[]int,int] -/
def slices_Clone_int_int (fu : Nat) (s' : List Int) : Option (List Int) :=
  nilCase s' (some []) ((app ([] : List Int) s').bind fun l =>
  some l)

/- loop.example/g00897/impl.IsValidFrame -/
def impl_IsValidFrame (fu : Nat) (f : Frame) : Option (Bool) :=
  ((impl_within fu f.Counter 0 255).bind fun y =>
  if y then (impl_within fu f.Pointer 0 11).bind fun y2 =>
  if y2 then if (f.Payload.length : Int) == 12 then (impl_areBytes fu f.Payload).bind fun y3 =>
  some y3
  else some false
  else some false
  else some false).bind fun c2 =>
  some c2

/- loop.example/g00897/impl.bytesOf -/
def impl_bytesOf_L1 (fu : Nat) (l : List Int) : Nat → Int → Int → Option (Int × Int)
  | 0, _, _ => none
  | fk + 1, parity, i =>
    if decide (i < (l.length : Int)) then
      (idx l i).bind fun e =>
      impl_bytesOf_L1 fu l fk (bxor parity e) (w64 (i + 1))
    else
      some (parity, i)
def impl_bytesOf (fu : Nat) (f : Frame) : Option (List Int) :=
  (app [246, 40, f.Counter, f.Pointer] f.Payload).bind fun l =>
  (impl_bytesOf_L1 fu l fu 0 0).bind fun z =>
  (app l [z.1]).bind fun l2 =>
  some l2

/- slices.Equal[[]int,int] -/
def slices_Equal_int_int_L1 (fu : Nat) (s1 : List Int) (s2 : List Int) : Nat → Int → Option (Out (Int) (Bool))
  | 0, _ => none
  | fk + 1, i =>
    if decide (i < (s1.length : Int)) then
      (idx s1 i).bind fun e =>
      (idx s2 i).bind fun e2 =>
      if e != e2 then
        some (.ret false)
      else
        slices_Equal_int_int_L1 fu s1 s2 fk (w64 (i + 1))
    else
      some (.next i)
def slices_Equal_int_int (fu : Nat) (s1 : List Int) (s2 : List Int) : Option (Bool) :=
  if (s1.length : Int) != (s2.length : Int) then
    some false
  else
    (slices_Equal_int_int_L1 fu s1 s2 fu 0).bind fun out => out.on some fun z =>
    some true

/- loop.example/g00897/impl.ParseFrame -/
def impl_ParseFrame (fu : Nat) (list : List Int) : Option (Frame × Bool) :=
  if (list.length : Int) != 17 then
    some (({ Counter := 0, Pointer := 0, Payload := [] } : Frame), false)
  else
    (idx list 2).bind fun e =>
    (idx list 3).bind fun e2 =>
    (sub list 4 16).bind fun l =>
    (slices_Clone_int_int fu l).bind fun y =>
    ((impl_IsValidFrame fu ({ Counter := e, Pointer := e2, Payload := y } : Frame)).bind fun y2 =>
    if !y2 then some true
    else (impl_bytesOf fu ({ Counter := e, Pointer := e2, Payload := y } : Frame)).bind fun y3 =>
    (slices_Equal_int_int fu y3 list).bind fun y4 =>
    some (!y4)).bind fun c4 =>
    if c4 then
      some (({ Counter := 0, Pointer := 0, Payload := [] } : Frame), false)
    else
      some (({ Counter := e, Pointer := e2, Payload := y } : Frame), true)

/- loop.example/g00897/impl.FindFrames -/
def impl_FindFrames_L1 (fu : Nat) (stream : List Int) : Nat → List Int → Int → Option (List Int × Int)
  | 0, _, _ => none
  | fk + 1, out', at' =>
    if decide ((w64 (at' + 17)) ≤ (stream.length : Int)) then
      (sub stream at' (w64 (at' + 17))).bind fun l =>
      (impl_ParseFrame fu l).bind fun y2 =>
      if y2.2 then
        (app out' [at']).bind fun l2 =>
        impl_FindFrames_L1 fu stream fk l2 (w64 ((w64 (at' + 16)) + 1))
      else
        impl_FindFrames_L1 fu stream fk out' (w64 (at' + 1))
    else
      some (out', at')
def impl_FindFrames (fu : Nat) (stream : List Int) : Option (List Int × Bool) :=
  (if decide ((stream.length : Int) > 400) then some true
  else (impl_areBytes fu stream).bind fun y =>
  some (!y)).bind fun c2 =>
  if c2 then
    some ([], false)
  else
    (impl_FindFrames_L1 fu stream fu ([] : List Int) 0).bind fun z =>
    some (z.1, true)

/- loop.example/g00897/laws.eqIntS -/
def laws_eqIntS_L1 (fu : Nat) (a' : List Int) (b' : List Int) : Nat → Int → Option (Out (Int) (Bool))
  | 0, _ => none
  | fk + 1, i =>
    if decide (i < (a'.length : Int)) then
      (idx a' i).bind fun e =>
      (idx b' i).bind fun e2 =>
      if e != e2 then
        some (.ret false)
      else
        laws_eqIntS_L1 fu a' b' fk (w64 (i + 1))
    else
      some (.next i)
def laws_eqIntS (fu : Nat) (a' : List Int) (b' : List Int) : Option (Bool) :=
  if (a'.length : Int) != (b'.length : Int) then
    some false
  else
    (laws_eqIntS_L1 fu a' b' fu 0).bind fun out => out.on some fun z =>
    some true

/- loop.example/g00897/laws.markIntS -/
def laws_markIntS_L1 (fu : Nat) : Nat → List Int → Int → Int → Option (List Int × Int × Int)
  | 0, _, _, _ => none
  | fk + 1, a2, k2, i =>
    if decide (i < (a2.length : Int)) then
      (idx a2 i).bind fun e =>
      laws_markIntS_L1 fu fk (a2.set (i).toNat k2) (w64 (k2 + 1)) (w64 (i + 1))
    else
      some (a2, k2, i)
def laws_markIntS (fu : Nat) (a' : List Int) (k' : Int) : Option (Int × List Int) :=
  (laws_markIntS_L1 fu fu a' k' 0).bind fun z =>
  some (z.2.1, z.1)

/- loop.example/g00897/laws.heldIntS -/
def laws_heldIntS_L1 (fu : Nat) (a' : List Int) : Nat → Int → Int → Option (Out (Int × Int) (Int))
  | 0, _, _ => none
  | fk + 1, k2, i =>
    if decide (i < (a'.length : Int)) then
      (idx a' i).bind fun e =>
      if e != k2 then
        some (.ret (-1))
      else
        laws_heldIntS_L1 fu a' fk (w64 (k2 + 1)) (w64 (i + 1))
    else
      some (.next (k2, i))
def laws_heldIntS (fu : Nat) (a' : List Int) (k' : Int) : Option (Int) :=
  (laws_heldIntS_L1 fu a' fu k' 0).bind fun out => out.on some fun z =>
  some z.1

/- loop.example/g00897/laws.FnExactFindFrames -/
def laws_FnExactFindFrames (fu : Nat) (aStream : List Int) : Option (Bool) :=
  if decide ((aStream.length : Int) > 1048576) then
    some true
  else
    (laws_toIntS fu aStream).bind fun y =>
    (spec_FindFrames fu y).bind fun y2 =>
    (laws_toIntS fu aStream).bind fun y3 =>
    (impl_FindFrames fu y3).bind fun y4 =>
    ((laws_eqIntS fu y4.1 y2.1).bind fun y5 =>
    if !y5 then some true
    else some (y4.2 != y2.2)).bind fun c6 =>
    if c6 then
      some false
    else
      (laws_toIntS fu aStream).bind fun y6 =>
      (laws_eqIntS fu y3 y6).bind fun y7 =>
      if !y7 then
        some false
      else
        (laws_markIntS fu y3 1).bind fun y8 =>
        (if decide (y8.1 < 0) then some true
        else (laws_eqIntS fu y4.1 y2.1).bind fun y9 =>
        if !y9 then some true
        else some (y4.2 != y2.2)).bind fun c8 =>
        if c8 then
          some false
        else
          (laws_markIntS fu y4.1 1).bind fun y10 =>
          (laws_heldIntS fu y10.2 1).bind fun y11 =>
          if decide (y11 < 0) then
            some false
          else
            if y11 != y10.1 then
              some false
            else
              (laws_toIntS fu aStream).bind fun y12 =>
              (impl_FindFrames fu y12).bind fun y13 =>
              ((laws_eqIntS fu y13.1 y2.1).bind fun y14 =>
              if !y14 then some true
              else some (y13.2 != y2.2)).bind fun c11 =>
              if c11 then
                some false
              else
                (laws_heldIntS fu y10.2 1).bind fun y15 =>
                if decide (y15 < 0) then
                  some false
                else
                  if y15 != y10.1 then
                    some false
                  else
                    some true
end AT
