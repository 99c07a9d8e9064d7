/- The Go functions told plainly, by program (gen.py). -/
import Derived.Test.YtijgfgfolkbkoaaAtP
set_option linter.unusedVariables false
namespace AT
structure Frame where
  Counter : Int
  Pointer : Int
  Payload : List Int
  deriving DecidableEq

/- loop.example/g00897/laws.szIntS -/
def laws_szIntS (fu : Nat) (a' : List Int) (left : Int) : Option (Int) :=
  if decide ((w64 (left - (a'.length : Int))) < 0) then
    some (-1)
  else
    some (w64 (left - (a'.length : Int)))

/- loop.example/g00897/laws.szFrame -/
def laws_szFrame (fu : Nat) (a' : Frame) (left : Int) : Option (Int) :=
  (laws_szIntS fu a'.Payload left).bind fun y =>
  if decide (y < 0) then
    some (-1)
  else
    some y

/- loop.example/g00897/laws.szFrameS -/
def laws_szFrameS_L1 (fu : Nat) (a' : List Frame) : Nat → Int → Int → Option (Out (Int × Int) (Int))
  | 0, _, _ => none
  | fk + 1, left2, i =>
    if decide (i < (a'.length : Int)) then
      (idx a' i).bind fun e =>
      (laws_szFrame fu e left2).bind fun y =>
      if decide (y < 0) then
        some (.ret (-1))
      else
        laws_szFrameS_L1 fu a' fk y (w64 (i + 1))
    else
      some (.next (left2, i))
def laws_szFrameS (fu : Nat) (a' : List Frame) (left : Int) : Option (Int) :=
  if decide ((w64 (left - (a'.length : Int))) < 0) then
    some (-1)
  else
    (laws_szFrameS_L1 fu a' fu (w64 (left - (a'.length : Int))) 0).bind fun out => out.on some fun z =>
    some z.1

/- loop.example/g00897/laws.toIntS -/
def laws_toIntS_L1 (fu : Nat) (a' : List Int) : Nat → List Int → Int → Option (List Int × Int)
  | 0, _, _ => none
  | fk + 1, out', i =>
    if decide (i < (a'.length : Int)) then
      (idx a' i).bind fun e =>
      (idx out' i).bind fun e2 =>
      laws_toIntS_L1 fu a' fk (out'.set (i).toNat e) (w64 (i + 1))
    else
      some (out', i)
def laws_toIntS (fu : Nat) (a' : List Int) : Option (List Int) :=
  (mk (0 : Int) (a'.length : Int)).bind fun l =>
  (laws_toIntS_L1 fu a' fu l 0).bind fun z =>
  some z.1

/- loop.example/g00897/laws.toFrame -/
def laws_toFrame (fu : Nat) (a' : Frame) : Option (Frame) :=
  (laws_toIntS fu a'.Payload).bind fun y =>
  some ({ Counter := a'.Counter, Pointer := a'.Pointer, Payload := y } : Frame)

/- loop.example/g00897/laws.toFrameS -/
def laws_toFrameS_L1 (fu : Nat) (a' : List Frame) : Nat → List Frame → Int → Option (List Frame × Int)
  | 0, _, _ => none
  | fk + 1, out', i =>
    if decide (i < (a'.length : Int)) then
      (idx a' i).bind fun e =>
      (laws_toFrame fu e).bind fun y =>
      (idx out' i).bind fun e2 =>
      laws_toFrameS_L1 fu a' fk (out'.set (i).toNat y) (w64 (i + 1))
    else
      some (out', i)
def laws_toFrameS (fu : Nat) (a' : List Frame) : Option (List Frame) :=
  (mk (({ Counter := 0, Pointer := 0, Payload := [] } : Frame) : Frame) (a'.length : Int)).bind fun l =>
  (laws_toFrameS_L1 fu a' fu l 0).bind fun z =>
  some z.1

/- loop.example/g00897/spec.l1In -/
def spec_l1In (fu : Nat) (x1 : Int) (a' : Int) (b' : Int) : Option (Bool) :=
  (if decide (x1 ≥ a') then some (decide (x1 ≤ b'))
  else some false).bind fun c =>
  some c

/- loop.example/g00897/spec.l23Bytes -/
def spec_l23Bytes_L1 (fu : Nat) (list : List Int) : Nat → Int → Option (Out (Int) (Bool))
  | 0, _ => none
  | fk + 1, i =>
    if decide (i < (list.length : Int)) then
      (idx list i).bind fun e =>
      (spec_l1In fu e 0 255).bind fun y =>
      if !y then
        some (.ret false)
      else
        spec_l23Bytes_L1 fu list fk (w64 (i + 1))
    else
      some (.next i)
def spec_l23Bytes (fu : Nat) (list : List Int) : Option (Bool) :=
  (spec_l23Bytes_L1 fu list fu 0).bind fun out => out.on some fun z =>
  some true

/- loop.example/g00897/spec.l23Good -/
def spec_l23Good (fu : Nat) (f : Frame) : Option (Bool) :=
  ((spec_l1In fu f.Counter 0 255).bind fun y =>
  if y then (spec_l1In fu f.Pointer 0 11).bind fun y2 =>
  if y2 then if (f.Payload.length : Int) == 12 then (spec_l23Bytes fu f.Payload).bind fun y3 =>
  some y3
  else some false
  else some false
  else some false).bind fun c2 =>
  some c2

/- loop.example/g00897/spec.l23Frames -/
def spec_l23Frames_L1 (fu : Nat) (frames : List Frame) : Nat → Int → Option (Out (Int) (Bool))
  | 0, _ => none
  | fk + 1, i =>
    (if decide (i < (frames.length : Int)) then some (decide (i ≤ 12))
    else some false).bind fun c2 =>
    if c2 then
      (idx frames i).bind fun e =>
      (spec_l23Good fu e).bind fun y =>
      if !y then
        some (.ret false)
      else
        spec_l23Frames_L1 fu frames fk (w64 (i + 1))
    else
      some (.next i)
def spec_l23Frames (fu : Nat) (frames : List Frame) : Option (Bool) :=
  (spec_l23Frames_L1 fu frames fu 0).bind fun out => out.on some fun z =>
  some (decide ((frames.length : Int) ≤ 12))

/- loop.example/g00897/spec.CounterGaps -/
def spec_CounterGaps_L1 (fu : Nat) (frames : List Frame) : Nat → List Int → Int → Option (List Int × Int)
  | 0, _, _ => none
  | fk + 1, out', i =>
    if decide (i < (frames.length : Int)) then
      (idx frames i).bind fun e =>
      (idx frames (w64 (i - 1))).bind fun e2 =>
      (rem (w64 (e2.Counter + 1)) 256).bind fun q =>
      if e.Counter != q then
        (app out' [i]).bind fun l =>
        spec_CounterGaps_L1 fu frames fk l (w64 (i + 1))
      else
        spec_CounterGaps_L1 fu frames fk out' (w64 (i + 1))
    else
      some (out', i)
def spec_CounterGaps (fu : Nat) (frames : List Frame) : Option (List Int × Bool) :=
  (spec_l23Frames fu frames).bind fun y =>
  if !y then
    some (([] : List Int), false)
  else
    (spec_CounterGaps_L1 fu frames fu ([] : List Int) 1).bind fun z =>
    some (z.1, true)

/- loop.example/g00897/impl.within -/
def impl_within (fu : Nat) (n' : Int) (low : Int) (high : Int) : Option (Bool) :=
  (if decide (low ≤ n') then some (decide (n' ≤ high))
  else some false).bind fun c =>
  some c

/- loop.example/g00897/impl.areBytes$1 -/
def impl_areBytes_c1 (fu : Nat) (b' : Int) : Option (Bool) :=
  (impl_within fu b' 0 255).bind fun y =>
  some (!y)

/- slices.IndexFunc[[]int,int] -/
def slices_IndexFunc_int_int_of_areBytes_c1_L1 (fu : Nat) (s' : List Int) : Nat → Int → Option (Out (Int) (Int))
  | 0, _ => none
  | fk + 1, i =>
    if decide (i < (s'.length : Int)) then
      (idx s' i).bind fun e =>
      (impl_areBytes_c1 fu e).bind fun y =>
      if y then
        some (.ret i)
      else
        slices_IndexFunc_int_int_of_areBytes_c1_L1 fu s' fk (w64 (i + 1))
    else
      some (.next i)
def slices_IndexFunc_int_int_of_areBytes_c1 (fu : Nat) (s' : List Int) : Option (Int) :=
  (slices_IndexFunc_int_int_of_areBytes_c1_L1 fu s' fu 0).bind fun out => out.on some fun z =>
  some (-1)

/- slices.ContainsFunc[[]int,int] -/
def slices_ContainsFunc_int_int_of_areBytes_c1 (fu : Nat) (s' : List Int) : Option (Bool) :=
  (slices_IndexFunc_int_int_of_areBytes_c1 fu s').bind fun y =>
  some (decide (y ≥ 0))

/- loop.example/g00897/impl.areBytes -/
def impl_areBytes (fu : Nat) (l : List Int) : Option (Bool) :=
  (slices_ContainsFunc_int_int_of_areBytes_c1 fu l).bind fun y =>
  some (!y)

/- loop.example/g00897/impl.IsValidFrame -/
def impl_IsValidFrame (fu : Nat) (f : Frame) : Option (Bool) :=
  ((impl_within fu f.Counter 0 255).bind fun y =>
  if y then (impl_within fu f.Pointer 0 11).bind fun y2 =>
  if y2 then if (f.Payload.length : Int) == 12 then (impl_areBytes fu f.Payload).bind fun y3 =>
  some y3
  else some false
  else some false
  else some false).bind fun c2 =>
  some c2

/- loop.example/g00897/impl.areFrames$1 -/
def impl_areFrames_c1 (fu : Nat) (f : Frame) : Option (Bool) :=
  (impl_IsValidFrame fu f).bind fun y =>
  some (!y)

/- slices.IndexFunc[[]loop.example/g00897/impl.Frame,loop.example/g00897/impl.Frame] -/
def slices_IndexFunc_impl_Frame_impl_Frame_of_areFrames_c1_L1 (fu : Nat) (s' : List Frame) : Nat → Int → Option (Out (Int) (Int))
  | 0, _ => none
  | fk + 1, i =>
    if decide (i < (s'.length : Int)) then
      (idx s' i).bind fun e =>
      (impl_areFrames_c1 fu e).bind fun y =>
      if y then
        some (.ret i)
      else
        slices_IndexFunc_impl_Frame_impl_Frame_of_areFrames_c1_L1 fu s' fk (w64 (i + 1))
    else
      some (.next i)
def slices_IndexFunc_impl_Frame_impl_Frame_of_areFrames_c1 (fu : Nat) (s' : List Frame) : Option (Int) :=
  (slices_IndexFunc_impl_Frame_impl_Frame_of_areFrames_c1_L1 fu s' fu 0).bind fun out => out.on some fun z =>
  some (-1)

/- slices.ContainsFunc[[]loop.example/g00897/impl.Frame,loop.example/g00897/impl.Frame] -/
def slices_ContainsFunc_impl_Frame_impl_Frame_of_areFrames_c1 (fu : Nat) (s' : List Frame) : Option (Bool) :=
  (slices_IndexFunc_impl_Frame_impl_Frame_of_areFrames_c1 fu s').bind fun y =>
  some (decide (y ≥ 0))

/- loop.example/g00897/impl.areFrames -/
def impl_areFrames (fu : Nat) (frames : List Frame) : Option (Bool) :=
  (if decide ((frames.length : Int) ≤ 12) then (slices_ContainsFunc_impl_Frame_impl_Frame_of_areFrames_c1 fu frames).bind fun y =>
  some (!y)
  else some false).bind fun c2 =>
  some c2

/- loop.example/g00897/impl.CounterGaps -/
def impl_CounterGaps_L1 (fu : Nat) (frames : List Frame) : Nat → List Int → Int → Option (List Int × Int)
  | 0, _, _ => none
  | fk + 1, out', i =>
    if decide (i < (frames.length : Int)) then
      (idx frames i).bind fun e =>
      (idx frames (w64 (i - 1))).bind fun e2 =>
      (rem (w64 (e2.Counter + 1)) 256).bind fun q =>
      if e.Counter != q then
        (app out' [i]).bind fun l =>
        impl_CounterGaps_L1 fu frames fk l (w64 (i + 1))
      else
        impl_CounterGaps_L1 fu frames fk out' (w64 (i + 1))
    else
      some (out', i)
def impl_CounterGaps (fu : Nat) (frames : List Frame) : Option (List Int × Bool) :=
  (impl_areFrames fu frames).bind fun y =>
  if !y then
    some ([], false)
  else
    (impl_CounterGaps_L1 fu frames fu ([] : List Int) 1).bind fun z =>
    some (z.1, true)

/- loop.example/g00897/laws.eqIntS -/
def laws_eqIntS_L1 (fu : Nat) (a' : List Int) (b' : List Int) : Nat → Int → Option (Out (Int) (Bool))
  | 0, _ => none
  | fk + 1, i =>
    if decide (i < (a'.length : Int)) then
      (idx a' i).bind fun e =>
      (idx b' i).bind fun e2 =>
      if e != e2 then
        some (.ret false)
      else
        laws_eqIntS_L1 fu a' b' fk (w64 (i + 1))
    else
      some (.next i)
def laws_eqIntS (fu : Nat) (a' : List Int) (b' : List Int) : Option (Bool) :=
  if (a'.length : Int) != (b'.length : Int) then
    some false
  else
    (laws_eqIntS_L1 fu a' b' fu 0).bind fun out => out.on some fun z =>
    some true

/- loop.example/g00897/laws.eqFrame -/
def laws_eqFrame (fu : Nat) (a' : Frame) (b' : Frame) : Option (Bool) :=
  if a'.Counter != b'.Counter then
    some false
  else
    if a'.Pointer != b'.Pointer then
      some false
    else
      (laws_eqIntS fu a'.Payload b'.Payload).bind fun y =>
      if !y then
        some false
      else
        some true

/- loop.example/g00897/laws.eqFrameS -/
def laws_eqFrameS_L1 (fu : Nat) (a' : List Frame) (b' : List Frame) : Nat → Int → Option (Out (Int) (Bool))
  | 0, _ => none
  | fk + 1, i =>
    if decide (i < (a'.length : Int)) then
      (idx a' i).bind fun e =>
      (idx b' i).bind fun e2 =>
      (laws_eqFrame fu e e2).bind fun y =>
      if !y then
        some (.ret false)
      else
        laws_eqFrameS_L1 fu a' b' fk (w64 (i + 1))
    else
      some (.next i)
def laws_eqFrameS (fu : Nat) (a' : List Frame) (b' : List Frame) : Option (Bool) :=
  if (a'.length : Int) != (b'.length : Int) then
    some false
  else
    (laws_eqFrameS_L1 fu a' b' fu 0).bind fun out => out.on some fun z =>
    some true

/- loop.example/g00897/laws.markIntS -/
def laws_markIntS_L1 (fu : Nat) : Nat → List Int → Int → Int → Option (List Int × Int × Int)
  | 0, _, _, _ => none
  | fk + 1, a2, k2, i =>
    if decide (i < (a2.length : Int)) then
      (idx a2 i).bind fun e =>
      laws_markIntS_L1 fu fk (a2.set (i).toNat k2) (w64 (k2 + 1)) (w64 (i + 1))
    else
      some (a2, k2, i)
def laws_markIntS (fu : Nat) (a' : List Int) (k' : Int) : Option (Int × List Int) :=
  (laws_markIntS_L1 fu fu a' k' 0).bind fun z =>
  some (z.2.1, z.1)

/- loop.example/g00897/laws.markFrameS -/
def laws_markFrameS_L1 (fu : Nat) : Nat → List Frame → Int → Int → Option (List Frame × Int × Int)
  | 0, _, _, _ => none
  | fk + 1, a2, k2, i =>
    if decide (i < (a2.length : Int)) then
      (idx a2 i).bind fun e =>
      (idx (a2.set (i).toNat ({ Counter := k2, Pointer := e.Pointer, Payload := e.Payload } : Frame)) i).bind fun e2 =>
      (idx ((a2.set (i).toNat ({ Counter := k2, Pointer := e.Pointer, Payload := e.Payload } : Frame)).set (i).toNat ({ Counter := e2.Counter, Pointer := w64 (k2 + 1), Payload := e2.Payload } : Frame)) i).bind fun e3 =>
      (laws_markIntS fu e3.Payload (w64 ((w64 (k2 + 1)) + 1))).bind fun y =>
      laws_markFrameS_L1 fu fk (((a2.set (i).toNat ({ Counter := k2, Pointer := e.Pointer, Payload := e.Payload } : Frame)).set (i).toNat ({ Counter := e2.Counter, Pointer := w64 (k2 + 1), Payload := e2.Payload } : Frame)).set (i).toNat ({ e3 with Payload := y.2 })) y.1 (w64 (i + 1))
    else
      some (a2, k2, i)
def laws_markFrameS (fu : Nat) (a' : List Frame) (k' : Int) : Option (Int × List Frame) :=
  (laws_markFrameS_L1 fu fu a' k' 0).bind fun z =>
  some (z.2.1, z.1)

/- loop.example/g00897/laws.heldIntS -/
def laws_heldIntS_L1 (fu : Nat) (a' : List Int) : Nat → Int → Int → Option (Out (Int × Int) (Int))
  | 0, _, _ => none
  | fk + 1, k2, i =>
    if decide (i < (a'.length : Int)) then
      (idx a' i).bind fun e =>
      if e != k2 then
        some (.ret (-1))
      else
        laws_heldIntS_L1 fu a' fk (w64 (k2 + 1)) (w64 (i + 1))
    else
      some (.next (k2, i))
def laws_heldIntS (fu : Nat) (a' : List Int) (k' : Int) : Option (Int) :=
  (laws_heldIntS_L1 fu a' fu k' 0).bind fun out => out.on some fun z =>
  some z.1

/- loop.example/g00897/laws.FnExactCounterGaps -/
def laws_FnExactCounterGaps (fu : Nat) (aFrames : List Frame) : Option (Bool) :=
  (laws_szFrameS fu aFrames 1048576).bind fun y =>
  if decide (y < 0) then
    some true
  else
    (laws_toFrameS fu aFrames).bind fun y2 =>
    (spec_CounterGaps fu y2).bind fun y3 =>
    (laws_toFrameS fu aFrames).bind fun y4 =>
    (impl_CounterGaps fu y4).bind fun y5 =>
    ((laws_eqIntS fu y5.1 y3.1).bind fun y6 =>
    if !y6 then some true
    else some (y5.2 != y3.2)).bind fun c6 =>
    if c6 then
      some false
    else
      (laws_toFrameS fu aFrames).bind fun y7 =>
      (laws_eqFrameS fu y4 y7).bind fun y8 =>
      if !y8 then
        some false
      else
        (laws_markFrameS fu y4 1).bind fun y9 =>
        (if decide (y9.1 < 0) then some true
        else (laws_eqIntS fu y5.1 y3.1).bind fun y10 =>
        if !y10 then some true
        else some (y5.2 != y3.2)).bind fun c8 =>
        if c8 then
          some false
        else
          (laws_markIntS fu y5.1 1).bind fun y11 =>
          (laws_heldIntS fu y11.2 1).bind fun y12 =>
          if decide (y12 < 0) then
            some false
          else
            if y12 != y11.1 then
              some false
            else
              (laws_toFrameS fu aFrames).bind fun y13 =>
              (impl_CounterGaps fu y13).bind fun y14 =>
              ((laws_eqIntS fu y14.1 y3.1).bind fun y15 =>
              if !y15 then some true
              else some (y14.2 != y3.2)).bind fun c11 =>
              if c11 then
                some false
              else
                (laws_heldIntS fu y11.2 1).bind fun y16 =>
                if decide (y16 < 0) then
                  some false
                else
                  if y16 != y11.1 then
                    some false
                  else
                    some true
end AT
