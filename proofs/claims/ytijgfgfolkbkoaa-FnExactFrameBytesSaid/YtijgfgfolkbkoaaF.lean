/- The Go functions told plainly, by program (gen.py). -/
import Derived.Test.YtijgfgfolkbkoaaAtP
set_option linter.unusedVariables false
namespace AT
structure Frame where
  Counter : Int
  Pointer : Int
  Payload : List Int
  deriving DecidableEq

/- loop.example/g00897/laws.szIntS -/
def laws_szIntS (fu : Nat) (a' : List Int) (left : Int) : Option (Int) :=
  if decide ((w64 (left - (a'.length : Int))) < 0) then
    some (-1)
  else
    some (w64 (left - (a'.length : Int)))

/- loop.example/g00897/laws.szFrame -/
def laws_szFrame (fu : Nat) (a' : Frame) (left : Int) : Option (Int) :=
  (laws_szIntS fu a'.Payload left).bind fun y =>
  if decide (y < 0) then
    some (-1)
  else
    some y

/- loop.example/g00897/laws.toIntS -/
def laws_toIntS_L1 (fu : Nat) (a' : List Int) : Nat → List Int → Int → Option (List Int × Int)
  | 0, _, _ => none
  | fk + 1, out', i =>
    if decide (i < (a'.length : Int)) then
      (idx a' i).bind fun e =>
      (idx out' i).bind fun e2 =>
      laws_toIntS_L1 fu a' fk (out'.set (i).toNat e) (w64 (i + 1))
    else
      some (out', i)
def laws_toIntS (fu : Nat) (a' : List Int) : Option (List Int) :=
  (mk (0 : Int) (a'.length : Int)).bind fun l =>
  (laws_toIntS_L1 fu a' fu l 0).bind fun z =>
  some z.1

/- loop.example/g00897/laws.toFrame -/
def laws_toFrame (fu : Nat) (a' : Frame) : Option (Frame) :=
  (laws_toIntS fu a'.Payload).bind fun y =>
  some ({ Counter := a'.Counter, Pointer := a'.Pointer, Payload := y } : Frame)

/- loop.example/g00897/spec.l1In -/
def spec_l1In (fu : Nat) (x1 : Int) (a' : Int) (b' : Int) : Option (Bool) :=
  (if decide (x1 ≥ a') then some (decide (x1 ≤ b'))
  else some false).bind fun c =>
  some c

/- loop.example/g00897/spec.l23Bytes -/
def spec_l23Bytes_L1 (fu : Nat) (list : List Int) : Nat → Int → Option (Out (Int) (Bool))
  | 0, _ => none
  | fk + 1, i =>
    if decide (i < (list.length : Int)) then
      (idx list i).bind fun e =>
      (spec_l1In fu e 0 255).bind fun y =>
      if !y then
        some (.ret false)
      else
        spec_l23Bytes_L1 fu list fk (w64 (i + 1))
    else
      some (.next i)
def spec_l23Bytes (fu : Nat) (list : List Int) : Option (Bool) :=
  (spec_l23Bytes_L1 fu list fu 0).bind fun out => out.on some fun z =>
  some true

/- loop.example/g00897/spec.l23Good -/
def spec_l23Good (fu : Nat) (f : Frame) : Option (Bool) :=
  ((spec_l1In fu f.Counter 0 255).bind fun y =>
  if y then (spec_l1In fu f.Pointer 0 11).bind fun y2 =>
  if y2 then if (f.Payload.length : Int) == 12 then (spec_l23Bytes fu f.Payload).bind fun y3 =>
  some y3
  else some false
  else some false
  else some false).bind fun c2 =>
  some c2

/- loop.example/g00897/spec.l23Parity -/
def spec_l23Parity_L1 (fu : Nat) (list : List Int) : Nat → Int → Int → Option (Int × Int)
  | 0, _, _ => none
  | fk + 1, out', i =>
    if decide (i < (list.length : Int)) then
      (idx list i).bind fun e =>
      spec_l23Parity_L1 fu list fk (bxor out' e) (w64 (i + 1))
    else
      some (out', i)
def spec_l23Parity (fu : Nat) (list : List Int) : Option (Int) :=
  (spec_l23Parity_L1 fu list fu 0 0).bind fun z =>
  some z.1

/- loop.example/g00897/spec.l23List -/
def spec_l23List (fu : Nat) (f : Frame) : Option (List Int) :=
  (app [246, 40, f.Counter, f.Pointer] f.Payload).bind fun l =>
  (spec_l23Parity fu l).bind fun y =>
  (app l [y]).bind fun l2 =>
  some l2

/- loop.example/g00897/spec.FrameBytes -/
def spec_FrameBytes (fu : Nat) (f : Frame) : Option (List Int × Bool) :=
  (spec_l23Good fu f).bind fun y =>
  if !y then
    some (([] : List Int), false)
  else
    (spec_l23List fu f).bind fun y2 =>
    some (y2, true)

/- loop.example/g00897/impl.within -/
def impl_within (fu : Nat) (n' : Int) (low : Int) (high : Int) : Option (Bool) :=
  (if decide (low ≤ n') then some (decide (n' ≤ high))
  else some false).bind fun c =>
  some c

/- loop.example/g00897/impl.areBytes$1 -/
def impl_areBytes_c1 (fu : Nat) (b' : Int) : Option (Bool) :=
  (impl_within fu b' 0 255).bind fun y =>
  some (!y)

/- slices.IndexFunc[[]int,int] -/
def slices_IndexFunc_int_int_of_areBytes_c1_L1 (fu : Nat) (s' : List Int) : Nat → Int → Option (Out (Int) (Int))
  | 0, _ => none
  | fk + 1, i =>
    if decide (i < (s'.length : Int)) then
      (idx s' i).bind fun e =>
      (impl_areBytes_c1 fu e).bind fun y =>
      if y then
        some (.ret i)
      else
        slices_IndexFunc_int_int_of_areBytes_c1_L1 fu s' fk (w64 (i + 1))
    else
      some (.next i)
def slices_IndexFunc_int_int_of_areBytes_c1 (fu : Nat) (s' : List Int) : Option (Int) :=
  (slices_IndexFunc_int_int_of_areBytes_c1_L1 fu s' fu 0).bind fun out => out.on some fun z =>
  some (-1)

/- slices.ContainsFunc[[]int,int] -/
def slices_ContainsFunc_int_int_of_areBytes_c1 (fu : Nat) (s' : List Int) : Option (Bool) :=
  (slices_IndexFunc_int_int_of_areBytes_c1 fu s').bind fun y =>
  some (decide (y ≥ 0))

/- loop.example/g00897/impl.areBytes -/
def impl_areBytes (fu : Nat) (l : List Int) : Option (Bool) :=
  (slices_ContainsFunc_int_int_of_areBytes_c1 fu l).bind fun y =>
  some (!y)

/- loop.example/g00897/impl.IsValidFrame -/
def impl_IsValidFrame (fu : Nat) (f : Frame) : Option (Bool) :=
  ((impl_within fu f.Counter 0 255).bind fun y =>
  if y then (impl_within fu f.Pointer 0 11).bind fun y2 =>
  if y2 then if (f.Payload.length : Int) == 12 then (impl_areBytes fu f.Payload).bind fun y3 =>
  some y3
  else some false
  else some false
  else some false).bind fun c2 =>
  some c2

/- loop.example/g00897/impl.bytesOf -/
def impl_bytesOf_L1 (fu : Nat) (l : List Int) : Nat → Int → Int → Option (Int × Int)
  | 0, _, _ => none
  | fk + 1, parity, i =>
    if decide (i < (l.length : Int)) then
      (idx l i).bind fun e =>
      impl_bytesOf_L1 fu l fk (bxor parity e) (w64 (i + 1))
    else
      some (parity, i)
def impl_bytesOf (fu : Nat) (f : Frame) : Option (List Int) :=
  (app [246, 40, f.Counter, f.Pointer] f.Payload).bind fun l =>
  (impl_bytesOf_L1 fu l fu 0 0).bind fun z =>
  (app l [z.1]).bind fun l2 =>
  some l2

/- loop.example/g00897/impl.FrameBytes -/
def impl_FrameBytes (fu : Nat) (f : Frame) : Option (List Int × Bool) :=
  (impl_IsValidFrame fu f).bind fun y =>
  if !y then
    some ([], false)
  else
    (impl_bytesOf fu f).bind fun y2 =>
    some (y2, true)

/- loop.example/g00897/laws.eqIntS -/
def laws_eqIntS_L1 (fu : Nat) (a' : List Int) (b' : List Int) : Nat → Int → Option (Out (Int) (Bool))
  | 0, _ => none
  | fk + 1, i =>
    if decide (i < (a'.length : Int)) then
      (idx a' i).bind fun e =>
      (idx b' i).bind fun e2 =>
      if e != e2 then
        some (.ret false)
      else
        laws_eqIntS_L1 fu a' b' fk (w64 (i + 1))
    else
      some (.next i)
def laws_eqIntS (fu : Nat) (a' : List Int) (b' : List Int) : Option (Bool) :=
  if (a'.length : Int) != (b'.length : Int) then
    some false
  else
    (laws_eqIntS_L1 fu a' b' fu 0).bind fun out => out.on some fun z =>
    some true

/- loop.example/g00897/laws.eqFrame -/
def laws_eqFrame (fu : Nat) (a' : Frame) (b' : Frame) : Option (Bool) :=
  if a'.Counter != b'.Counter then
    some false
  else
    if a'.Pointer != b'.Pointer then
      some false
    else
      (laws_eqIntS fu a'.Payload b'.Payload).bind fun y =>
      if !y then
        some false
      else
        some true

/- loop.example/g00897/laws.markIntS -/
def laws_markIntS_L1 (fu : Nat) : Nat → List Int → Int → Int → Option (List Int × Int × Int)
  | 0, _, _, _ => none
  | fk + 1, a2, k2, i =>
    if decide (i < (a2.length : Int)) then
      (idx a2 i).bind fun e =>
      laws_markIntS_L1 fu fk (a2.set (i).toNat k2) (w64 (k2 + 1)) (w64 (i + 1))
    else
      some (a2, k2, i)
def laws_markIntS (fu : Nat) (a' : List Int) (k' : Int) : Option (Int × List Int) :=
  (laws_markIntS_L1 fu fu a' k' 0).bind fun z =>
  some (z.2.1, z.1)

/- loop.example/g00897/laws.markFrame -/
def laws_markFrame (fu : Nat) (a' : Frame) (k' : Int) : Option (Int × Frame) :=
  (laws_markIntS fu a'.Payload k').bind fun y =>
  some (y.1, ({ Counter := a'.Counter, Pointer := a'.Pointer, Payload := y.2 } : Frame))

/- loop.example/g00897/laws.heldIntS -/
def laws_heldIntS_L1 (fu : Nat) (a' : List Int) : Nat → Int → Int → Option (Out (Int × Int) (Int))
  | 0, _, _ => none
  | fk + 1, k2, i =>
    if decide (i < (a'.length : Int)) then
      (idx a' i).bind fun e =>
      if e != k2 then
        some (.ret (-1))
      else
        laws_heldIntS_L1 fu a' fk (w64 (k2 + 1)) (w64 (i + 1))
    else
      some (.next (k2, i))
def laws_heldIntS (fu : Nat) (a' : List Int) (k' : Int) : Option (Int) :=
  (laws_heldIntS_L1 fu a' fu k' 0).bind fun out => out.on some fun z =>
  some z.1

/- loop.example/g00897/laws.FnExactFrameBytes -/
def laws_FnExactFrameBytes (fu : Nat) (aF : Frame) : Option (Bool) :=
  (laws_szFrame fu aF 1048576).bind fun y =>
  if decide (y < 0) then
    some true
  else
    (laws_toFrame fu aF).bind fun y2 =>
    (spec_FrameBytes fu y2).bind fun y3 =>
    (laws_toFrame fu aF).bind fun y4 =>
    (impl_FrameBytes fu y4).bind fun y5 =>
    ((laws_eqIntS fu y5.1 y3.1).bind fun y6 =>
    if !y6 then some true
    else some (y5.2 != y3.2)).bind fun c6 =>
    if c6 then
      some false
    else
      (laws_toFrame fu aF).bind fun y7 =>
      (laws_eqFrame fu y4 y7).bind fun y8 =>
      if !y8 then
        some false
      else
        (laws_markFrame fu y4 1).bind fun y9 =>
        (if decide (y9.1 < 0) then some true
        else (laws_eqIntS fu y5.1 y3.1).bind fun y10 =>
        if !y10 then some true
        else some (y5.2 != y3.2)).bind fun c8 =>
        if c8 then
          some false
        else
          (laws_markIntS fu y5.1 1).bind fun y11 =>
          (laws_heldIntS fu y11.2 1).bind fun y12 =>
          if decide (y12 < 0) then
            some false
          else
            if y12 != y11.1 then
              some false
            else
              (laws_toFrame fu aF).bind fun y13 =>
              (impl_FrameBytes fu y13).bind fun y14 =>
              ((laws_eqIntS fu y14.1 y3.1).bind fun y15 =>
              if !y15 then some true
              else some (y14.2 != y3.2)).bind fun c11 =>
              if c11 then
                some false
              else
                (laws_heldIntS fu y11.2 1).bind fun y16 =>
                if decide (y16 < 0) then
                  some false
                else
                  if y16 != y11.1 then
                    some false
                  else
                    some true
end AT
