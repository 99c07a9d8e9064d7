/- The Go functions told plainly, by program (gen.py). -/
import Derived.Test.YtijgfgfolkbkoaaAtP
set_option linter.unusedVariables false
namespace AT
structure Frame where
  Counter : Int
  Pointer : Int
  Payload : List Int
  deriving DecidableEq

/- loop.example/g00897/laws.szIntS -/
def laws_szIntS (fu : Nat) (a' : List Int) (left : Int) : Option (Int) :=
  if decide ((w64 (left - (a'.length : Int))) < 0) then
    some (-1)
  else
    some (w64 (left - (a'.length : Int)))

/- loop.example/g00897/laws.szFrame -/
def laws_szFrame (fu : Nat) (a' : Frame) (left : Int) : Option (Int) :=
  (laws_szIntS fu a'.Payload left).bind fun y =>
  if decide (y < 0) then
    some (-1)
  else
    some y

/- loop.example/g00897/laws.toIntS -/
def laws_toIntS_L1 (fu : Nat) (a' : List Int) : Nat → List Int → Int → Option (List Int × Int)
  | 0, _, _ => none
  | fk + 1, out', i =>
    if decide (i < (a'.length : Int)) then
      (idx a' i).bind fun e =>
      (idx out' i).bind fun e2 =>
      laws_toIntS_L1 fu a' fk (out'.set (i).toNat e) (w64 (i + 1))
    else
      some (out', i)
def laws_toIntS (fu : Nat) (a' : List Int) : Option (List Int) :=
  (mk (0 : Int) (a'.length : Int)).bind fun l =>
  (laws_toIntS_L1 fu a' fu l 0).bind fun z =>
  some z.1

/- loop.example/g00897/laws.toFrame -/
def laws_toFrame (fu : Nat) (a' : Frame) : Option (Frame) :=
  (laws_toIntS fu a'.Payload).bind fun y =>
  some ({ Counter := a'.Counter, Pointer := a'.Pointer, Payload := y } : Frame)

/- loop.example/g00897/spec.l1In -/
def spec_l1In (fu : Nat) (x1 : Int) (a' : Int) (b' : Int) : Option (Bool) :=
  (if decide (x1 ≥ a') then some (decide (x1 ≤ b'))
  else some false).bind fun c =>
  some c

/- loop.example/g00897/spec.l23Bytes -/
def spec_l23Bytes_L1 (fu : Nat) (list : List Int) : Nat → Int → Option (Out (Int) (Bool))
  | 0, _ => none
  | fk + 1, i =>
    if decide (i < (list.length : Int)) then
      (idx list i).bind fun e =>
      (spec_l1In fu e 0 255).bind fun y =>
      if !y then
        some (.ret false)
      else
        spec_l23Bytes_L1 fu list fk (w64 (i + 1))
    else
      some (.next i)
def spec_l23Bytes (fu : Nat) (list : List Int) : Option (Bool) :=
  (spec_l23Bytes_L1 fu list fu 0).bind fun out => out.on some fun z =>
  some true

/- loop.example/g00897/spec.l23Good -/
def spec_l23Good (fu : Nat) (f : Frame) : Option (Bool) :=
  ((spec_l1In fu f.Counter 0 255).bind fun y =>
  if y then (spec_l1In fu f.Pointer 0 11).bind fun y2 =>
  if y2 then if (f.Payload.length : Int) == 12 then (spec_l23Bytes fu f.Payload).bind fun y3 =>
  some y3
  else some false
  else some false
  else some false).bind fun c2 =>
  some c2

/- loop.example/g00897/spec.IsValidFrame -/
def spec_IsValidFrame (fu : Nat) (f : Frame) : Option (Bool) :=
  (spec_l23Good fu f).bind fun y =>
  some y

/- loop.example/g00897/impl.within -/
def impl_within (fu : Nat) (n' : Int) (low : Int) (high : Int) : Option (Bool) :=
  (if decide (low ≤ n') then some (decide (n' ≤ high))
  else some false).bind fun c =>
  some c

/- loop.example/g00897/impl.areBytes$1 -/
def impl_areBytes_c1 (fu : Nat) (b' : Int) : Option (Bool) :=
  (impl_within fu b' 0 255).bind fun y =>
  some (!y)

/- slices.IndexFunc[[]int,int] -/
def slices_IndexFunc_int_int_of_areBytes_c1_L1 (fu : Nat) (s' : List Int) : Nat → Int → Option (Out (Int) (Int))
  | 0, _ => none
  | fk + 1, i =>
    if decide (i < (s'.length : Int)) then
      (idx s' i).bind fun e =>
      (impl_areBytes_c1 fu e).bind fun y =>
      if y then
        some (.ret i)
      else
        slices_IndexFunc_int_int_of_areBytes_c1_L1 fu s' fk (w64 (i + 1))
    else
      some (.next i)
def slices_IndexFunc_int_int_of_areBytes_c1 (fu : Nat) (s' : List Int) : Option (Int) :=
  (slices_IndexFunc_int_int_of_areBytes_c1_L1 fu s' fu 0).bind fun out => out.on some fun z =>
  some (-1)

/- slices.ContainsFunc[[]int,int] -/
def slices_ContainsFunc_int_int_of_areBytes_c1 (fu : Nat) (s' : List Int) : Option (Bool) :=
  (slices_IndexFunc_int_int_of_areBytes_c1 fu s').bind fun y =>
  some (decide (y ≥ 0))

/- loop.example/g00897/impl.areBytes -/
def impl_areBytes (fu : Nat) (l : List Int) : Option (Bool) :=
  (slices_ContainsFunc_int_int_of_areBytes_c1 fu l).bind fun y =>
  some (!y)

/- loop.example/g00897/impl.IsValidFrame -/
def impl_IsValidFrame (fu : Nat) (f : Frame) : Option (Bool) :=
  ((impl_within fu f.Counter 0 255).bind fun y =>
  if y then (impl_within fu f.Pointer 0 11).bind fun y2 =>
  if y2 then if (f.Payload.length : Int) == 12 then (impl_areBytes fu f.Payload).bind fun y3 =>
  some y3
  else some false
  else some false
  else some false).bind fun c2 =>
  some c2

/- loop.example/g00897/laws.eqIntS -/
def laws_eqIntS_L1 (fu : Nat) (a' : List Int) (b' : List Int) : Nat → Int → Option (Out (Int) (Bool))
  | 0, _ => none
  | fk + 1, i =>
    if decide (i < (a'.length : Int)) then
      (idx a' i).bind fun e =>
      (idx b' i).bind fun e2 =>
      if e != e2 then
        some (.ret false)
      else
        laws_eqIntS_L1 fu a' b' fk (w64 (i + 1))
    else
      some (.next i)
def laws_eqIntS (fu : Nat) (a' : List Int) (b' : List Int) : Option (Bool) :=
  if (a'.length : Int) != (b'.length : Int) then
    some false
  else
    (laws_eqIntS_L1 fu a' b' fu 0).bind fun out => out.on some fun z =>
    some true

/- loop.example/g00897/laws.eqFrame -/
def laws_eqFrame (fu : Nat) (a' : Frame) (b' : Frame) : Option (Bool) :=
  if a'.Counter != b'.Counter then
    some false
  else
    if a'.Pointer != b'.Pointer then
      some false
    else
      (laws_eqIntS fu a'.Payload b'.Payload).bind fun y =>
      if !y then
        some false
      else
        some true

/- loop.example/g00897/laws.FnExactIsValidFrame -/
def laws_FnExactIsValidFrame (fu : Nat) (aF : Frame) : Option (Bool) :=
  (laws_szFrame fu aF 1048576).bind fun y =>
  if decide (y < 0) then
    some true
  else
    (laws_toFrame fu aF).bind fun y2 =>
    (spec_IsValidFrame fu y2).bind fun y3 =>
    (laws_toFrame fu aF).bind fun y4 =>
    (impl_IsValidFrame fu y4).bind fun y5 =>
    if y5 != y3 then
      some false
    else
      (laws_toFrame fu aF).bind fun y6 =>
      (laws_eqFrame fu y4 y6).bind fun y7 =>
      if !y7 then
        some false
      else
        some true
end AT
