/-
  What the shelf's contracts of strconv ask of this program: the numbers of functions and types (printed with the kit's own command, then typed out).
-/
import Derived.Test.YtbdkbmhejoakiaaDoorTypes
import Derived.ProofKit
import Derived.Shelf.LaysC
import Derived.Shelf.Strconv.Itoa1
import Derived.Shelf.Strconv.Itoa2
import Derived.Shelf.Strconv.ParseUint10b32
import Derived.Shelf.Strconv.ToError
import Derived.Shelf.Strconv.ToErrorRange
set_option maxRecDepth 100000
namespace Go.Proofs.YtbdkbmhejoakiaaDoor
open Go Go.Shelf

def lays287_ren : Ren :=
{
  f := fun x =>
    match x with
    | 287 => 57
    | 321 => 73
    | 322 => 74
    | n => n,
  t := fun x =>
    match x with
    | 9 => 9
    | 3 => 3
    | 53 => 35
    | 75 => 53
    | 4 => 4
    | 167 => 85
    | 5 => 5
    | 46 => 56
    | 37 => 57
    | 0 => 0
    | 21 => 21
    | 80 => 130
    | n => n,
  g := fun x =>
    have n := x;
    n }
theorem lays287 : Lays.n287 Tryd.prog lays287_ren :=
{ mixed := by kernel_rfl, f287 := Eq.trans Tryd.func57 (congrArg some (Eq.refl (Body.n287 lays287_ren))),
  f321 := Eq.trans Tryd.func73 (congrArg some (Eq.refl (Body.n321 lays287_ren))),
  f322 := Eq.trans Tryd.func74 (congrArg some (Eq.refl (Body.n322 lays287_ren))), t0 := Tryd.underlying0,
  a0 := Tryd.isAgg0, z0 := Tryd.sizeOf0, v0 := Tryd.zeroValue0, t3 := Tryd.underlying3, a3 := Tryd.isAgg3,
  z3 := Tryd.sizeOf3, v3 := Tryd.zeroValue3, t4 := Tryd.underlying4, a4 := Tryd.isAgg4, z4 := Tryd.sizeOf4,
  v4 := Tryd.zeroValue4, t5 := Tryd.underlying5, a5 := Tryd.isAgg5, z5 := Tryd.sizeOf5, v5 := Tryd.zeroValue5,
  t9 := Tryd.underlying9, a9 := Tryd.isAgg9, z9 := Tryd.sizeOf9, v9 := Tryd.zeroValue9, t21 := Tryd.underlying21,
  a21 := Tryd.isAgg21, z21 := Tryd.sizeOf21, v21 := Tryd.zeroValue21, t37 := Tryd.underlying57, a37 := Tryd.isAgg57,
  z37 := Tryd.sizeOf57, v37 := Tryd.zeroValue57, t46 := Tryd.underlying56, a46 := Tryd.isAgg56, z46 := Tryd.sizeOf56,
  v46 := Tryd.zeroValue56, t53 := Tryd.underlying35, a53 := Tryd.isAgg35, z53 := Tryd.sizeOf35, v53 := Tryd.zeroValue35,
  t75 := Tryd.underlying53, a75 := Tryd.isAgg53, z75 := Tryd.sizeOf53, v75 := Tryd.zeroValue53,
  t167 := Tryd.underlying85, a167 := Tryd.isAgg85, z167 := Tryd.sizeOf85, v167 := Tryd.zeroValue85 }
def lays245_ren : Ren :=
{
  f := fun x =>
    match x with
    | 245 => 58
    | 279 => 75
    | 280 => 76
    | 281 => 77
    | 282 => 78
    | 316 => 92
    | 171 => 94
    | 205 => 93
    | 243 => 105
    | 246 => 111
    | 283 => 79
    | 284 => 80
    | 285 => 81
    | 286 => 82
    | 129 => 96
    | 317 => 95
    | 318 => 97
    | 319 => 98
    | 320 => 99
    | 337 => 106
    | 338 => 107
    | n => n,
  t := fun x =>
    match x with
    | 9 => 9
    | 3 => 3
    | 75 => 53
    | 167 => 85
    | 4 => 4
    | 168 => 88
    | 210 => 107
    | 37 => 57
    | 0 => 0
    | 127 => 121
    | 145 => 124
    | 143 => 122
    | 2 => 2
    | 171 => 92
    | 53 => 35
    | 5 => 5
    | 173 => 95
    | 212 => 110
    | 51 => 111
    | 20 => 20
    | 213 => 112
    | 46 => 56
    | 232 => 128
    | 233 => 129
    | 80 => 130
    | n => n,
  g := fun x =>
    match x with
    | 15 => 1
    | 16 => 2
    | 17 => 3
    | 18 => 4
    | 19 => 5
    | n => n }
theorem lays245 : LaysC.n245 Tryd.prog lays245_ren :=
{ mixed := by kernel_rfl, f129 := Eq.trans Tryd.func96 (congrArg some (Eq.refl (Body.n129 lays245_ren))),
  f171 := Eq.trans Tryd.func94 (congrArg some (Eq.refl (Body.n171 lays245_ren))),
  f205 := Eq.trans Tryd.func93 (congrArg some (Eq.refl (Body.n205 lays245_ren))),
  f243 := Eq.trans Tryd.func105 (congrArg some (Eq.refl (Body.n243 lays245_ren))),
  f245 := Eq.trans Tryd.func58 (congrArg some (Eq.refl (Body.n245 lays245_ren))),
  f246 := Eq.trans Tryd.func111 (congrArg some (Eq.refl (Body.n246 lays245_ren))),
  f279 := Eq.trans Tryd.func75 (congrArg some (Eq.refl (Body.n279 lays245_ren))),
  f280 := Eq.trans Tryd.func76 (congrArg some (Eq.refl (Body.n280 lays245_ren))),
  f281 := Eq.trans Tryd.func77 (congrArg some (Eq.refl (Body.n281 lays245_ren))),
  f282 := Eq.trans Tryd.func78 (congrArg some (Eq.refl (Body.n282 lays245_ren))),
  f283 := Eq.trans Tryd.func79 (congrArg some (Eq.refl (Body.n283 lays245_ren))),
  f284 := Eq.trans Tryd.func80 (congrArg some (Eq.refl (Body.n284 lays245_ren))),
  f285 := Eq.trans Tryd.func81 (congrArg some (Eq.refl (Body.n285 lays245_ren))),
  f286 := Eq.trans Tryd.func82 (congrArg some (Eq.refl (Body.n286 lays245_ren))),
  f316 := Eq.trans Tryd.func92 (congrArg some (Eq.refl (Body.n316 lays245_ren))),
  f317 := Eq.trans Tryd.func95 (congrArg some (Eq.refl (Body.n317 lays245_ren))),
  f318 := Eq.trans Tryd.func97 (congrArg some (Eq.refl (Body.n318 lays245_ren))),
  f319 := Eq.trans Tryd.func98 (congrArg some (Eq.refl (Body.n319 lays245_ren))),
  f320 := Eq.trans Tryd.func99 (congrArg some (Eq.refl (Body.n320 lays245_ren))),
  f337 := Eq.trans Tryd.func106 (congrArg some (Eq.refl (Body.n337 lays245_ren))),
  f338 := Eq.trans Tryd.func107 (congrArg some (Eq.refl (Body.n338 lays245_ren))), t0 := Tryd.underlying0,
  a0 := Tryd.isAgg0, z0 := Tryd.sizeOf0, v0 := Tryd.zeroValue0, t2 := Tryd.underlying2, a2 := Tryd.isAgg2,
  z2 := Tryd.sizeOf2, v2 := Tryd.zeroValue2, t3 := Tryd.underlying3, a3 := Tryd.isAgg3, z3 := Tryd.sizeOf3,
  v3 := Tryd.zeroValue3, t4 := Tryd.underlying4, a4 := Tryd.isAgg4, z4 := Tryd.sizeOf4, v4 := Tryd.zeroValue4,
  t5 := Tryd.underlying5, a5 := Tryd.isAgg5, z5 := Tryd.sizeOf5, v5 := Tryd.zeroValue5, t9 := Tryd.underlying9,
  a9 := Tryd.isAgg9, z9 := Tryd.sizeOf9, v9 := Tryd.zeroValue9, t20 := Tryd.underlying20, a20 := Tryd.isAgg20,
  z20 := Tryd.sizeOf20, v20 := Tryd.zeroValue20, t37 := Tryd.underlying57, a37 := Tryd.isAgg57, z37 := Tryd.sizeOf57,
  v37 := Tryd.zeroValue57, t46 := Tryd.underlying56, a46 := Tryd.isAgg56, z46 := Tryd.sizeOf56, v46 := Tryd.zeroValue56,
  t51 := Tryd.underlying111, a51 := Tryd.isAgg111, z51 := Tryd.sizeOf111, v51 := Tryd.zeroValue111,
  t53 := Tryd.underlying35, a53 := Tryd.isAgg35, z53 := Tryd.sizeOf35, v53 := Tryd.zeroValue35,
  t75 := Tryd.underlying53, a75 := Tryd.isAgg53, z75 := Tryd.sizeOf53, v75 := Tryd.zeroValue53,
  t127 := Tryd.underlying121, a127 := Tryd.isAgg121, z127 := Tryd.sizeOf121, v127 := Tryd.zeroValue121,
  t143 := Tryd.underlying122, a143 := Tryd.isAgg122, z143 := Tryd.sizeOf122, v143 := Tryd.zeroValue122,
  t145 := Tryd.underlying124, a145 := Tryd.isAgg124, z145 := Tryd.sizeOf124, v145 := Tryd.zeroValue124,
  t167 := Tryd.underlying85, a167 := Tryd.isAgg85, z167 := Tryd.sizeOf85, v167 := Tryd.zeroValue85,
  t168 := Tryd.underlying88, a168 := Tryd.isAgg88, z168 := Tryd.sizeOf88, v168 := Tryd.zeroValue88,
  t171 := Tryd.underlying92, a171 := Tryd.isAgg92, z171 := Tryd.sizeOf92, v171 := Tryd.zeroValue92,
  t173 := Tryd.underlying95, a173 := Tryd.isAgg95, z173 := Tryd.sizeOf95, v173 := Tryd.zeroValue95,
  t210 := Tryd.underlying107, a210 := Tryd.isAgg107, z210 := Tryd.sizeOf107, v210 := Tryd.zeroValue107,
  t212 := Tryd.underlying110, a212 := Tryd.isAgg110, z212 := Tryd.sizeOf110, v212 := Tryd.zeroValue110,
  t213 := Tryd.underlying112, a213 := Tryd.isAgg112, z213 := Tryd.sizeOf112, t232 := Tryd.underlying128,
  a232 := Tryd.isAgg128, z232 := Tryd.sizeOf128, v232 := Tryd.zeroValue128, t233 := Tryd.underlying129,
  a233 := Tryd.isAgg129, z233 := Tryd.sizeOf129, v233 := Tryd.zeroValue129,
  g15 := by kernel_rfl, g16 := by kernel_rfl,
  g17 := by kernel_rfl, g18 := by kernel_rfl,
  g19 := by kernel_rfl, t80 := Tryd.underlying130, a80 := Tryd.isAgg130, z80 := Tryd.sizeOf130,
  v80 := Tryd.zeroValue130, i0 := by kernel_rfl,
  i2 := by kernel_rfl,
  i3 := by kernel_rfl, i4 := by kernel_rfl,
  i5 := by kernel_rfl,
  i9 := by kernel_rfl, i20 := by kernel_rfl,
  i37 := by kernel_rfl,
  i46 := by kernel_rfl,
  i51 := by kernel_rfl,
  i53 := by kernel_rfl, i75 := by kernel_rfl,
  i80 := by kernel_rfl, i127 := by kernel_rfl,
  i143 := by kernel_rfl,
  i145 := by kernel_rfl,
  i167 := by kernel_rfl,
  i168 := by kernel_rfl,
  i171 :=
    Eq.refl
      (some
        (some
            (Value.agg
              #[Value.int IntKind.u8 0, Value.int IntKind.u8 0, Value.int IntKind.u8 0, Value.int IntKind.u8 0,
                Value.int IntKind.u8 0, Value.int IntKind.u8 0, Value.int IntKind.u8 0, Value.int IntKind.u8 0,
                Value.int IntKind.u8 0, Value.int IntKind.u8 0, Value.int IntKind.u8 0, Value.int IntKind.u8 0,
                Value.int IntKind.u8 0, Value.int IntKind.u8 0, Value.int IntKind.u8 0, Value.int IntKind.u8 0,
                Value.int IntKind.u8 0, Value.int IntKind.u8 0, Value.int IntKind.u8 0, Value.int IntKind.u8 0,
                Value.int IntKind.u8 0, Value.int IntKind.u8 0, Value.int IntKind.u8 0, Value.int IntKind.u8 0]),
          24, 24)),
  i173 := by kernel_rfl,
  i210 :=
    Eq.refl
      (some (some (Value.agg #[Value.string { data := #[] }, Value.string { data := #[] }, Value.nilIface]), 3, 48)),
  i212 :=
    Eq.refl
      (some
        (some
            (Value.agg
              #[Value.int IntKind.u64 0, Value.int IntKind.u64 0, Value.int IntKind.u64 0, Value.int IntKind.u64 0,
                Value.int IntKind.u64 0, Value.int IntKind.u64 0, Value.int IntKind.u64 0, Value.int IntKind.u64 0,
                Value.int IntKind.u64 0, Value.int IntKind.u64 0, Value.int IntKind.u64 0, Value.int IntKind.u64 0,
                Value.int IntKind.u64 0, Value.int IntKind.u64 0, Value.int IntKind.u64 0, Value.int IntKind.u64 0,
                Value.int IntKind.u64 0, Value.int IntKind.u64 0, Value.int IntKind.u64 0, Value.int IntKind.u64 0]),
          20, 160)),
  i232 :=
    Eq.refl
      (some
        (some
            (Value.agg
              #[Value.int IntKind.u8 0, Value.int IntKind.u8 0, Value.int IntKind.u8 0, Value.int IntKind.u8 0,
                Value.int IntKind.u8 0, Value.int IntKind.u8 0, Value.int IntKind.u8 0, Value.int IntKind.u8 0,
                Value.int IntKind.u8 0, Value.int IntKind.u8 0, Value.int IntKind.u8 0, Value.int IntKind.u8 0,
                Value.int IntKind.u8 0, Value.int IntKind.u8 0, Value.int IntKind.u8 0, Value.int IntKind.u8 0,
                Value.int IntKind.u8 0, Value.int IntKind.u8 0, Value.int IntKind.u8 0, Value.int IntKind.u8 0,
                Value.int IntKind.u8 0, Value.int IntKind.u8 0, Value.int IntKind.u8 0, Value.int IntKind.u8 0,
                Value.int IntKind.u8 0, Value.int IntKind.u8 0, Value.int IntKind.u8 0, Value.int IntKind.u8 0,
                Value.int IntKind.u8 0, Value.int IntKind.u8 0, Value.int IntKind.u8 0, Value.int IntKind.u8 0]),
          32, 32)),
  i233 :=
    Eq.refl
      (some
        (some
            (Value.agg
              (let y :=
                  let y :=
                    let y :=
                      let y :=
                        [Value.int IntKind.u8 0, Value.int IntKind.u8 0, Value.int IntKind.u8 0,
                          Value.int IntKind.u8 0];
                      Value.int IntKind.u8 0 ::
                        Value.int IntKind.u8 0 :: Value.int IntKind.u8 0 :: Value.int IntKind.u8 0 :: y;
                    let y :=
                      Value.int IntKind.u8 0 ::
                        Value.int IntKind.u8 0 :: Value.int IntKind.u8 0 :: Value.int IntKind.u8 0 :: y;
                    Value.int IntKind.u8 0 ::
                      Value.int IntKind.u8 0 :: Value.int IntKind.u8 0 :: Value.int IntKind.u8 0 :: y;
                  let y :=
                    let y :=
                      Value.int IntKind.u8 0 ::
                        Value.int IntKind.u8 0 :: Value.int IntKind.u8 0 :: Value.int IntKind.u8 0 :: y;
                    Value.int IntKind.u8 0 ::
                      Value.int IntKind.u8 0 :: Value.int IntKind.u8 0 :: Value.int IntKind.u8 0 :: y;
                  let y :=
                    Value.int IntKind.u8 0 ::
                      Value.int IntKind.u8 0 :: Value.int IntKind.u8 0 :: Value.int IntKind.u8 0 :: y;
                  Value.int IntKind.u8 0 ::
                    Value.int IntKind.u8 0 :: Value.int IntKind.u8 0 :: Value.int IntKind.u8 0 :: y;
                let y :=
                  let y :=
                    let y :=
                      Value.int IntKind.u8 0 ::
                        Value.int IntKind.u8 0 :: Value.int IntKind.u8 0 :: Value.int IntKind.u8 0 :: y;
                    Value.int IntKind.u8 0 ::
                      Value.int IntKind.u8 0 :: Value.int IntKind.u8 0 :: Value.int IntKind.u8 0 :: y;
                  let y :=
                    Value.int IntKind.u8 0 ::
                      Value.int IntKind.u8 0 :: Value.int IntKind.u8 0 :: Value.int IntKind.u8 0 :: y;
                  Value.int IntKind.u8 0 ::
                    Value.int IntKind.u8 0 :: Value.int IntKind.u8 0 :: Value.int IntKind.u8 0 :: y;
                let y :=
                  let y :=
                    Value.int IntKind.u8 0 ::
                      Value.int IntKind.u8 0 :: Value.int IntKind.u8 0 :: Value.int IntKind.u8 0 :: y;
                  Value.int IntKind.u8 0 ::
                    Value.int IntKind.u8 0 :: Value.int IntKind.u8 0 :: Value.int IntKind.u8 0 :: y;
                let y :=
                  Value.int IntKind.u8 0 ::
                    Value.int IntKind.u8 0 :: Value.int IntKind.u8 0 :: Value.int IntKind.u8 0 :: y;
                Value.int IntKind.u8 0 ::
                  Value.int IntKind.u8 0 :: Value.int IntKind.u8 0 :: Value.int IntKind.u8 0 :: y).toArray),
          64, 64)),
  m15 := by kernel_rfl, m16 := by kernel_rfl,
  m17 := by kernel_rfl, m18 := by kernel_rfl,
  m19 := by kernel_rfl, c0 := by kernel_rfl, c2 := by kernel_rfl,
  c3 := by kernel_rfl, c4 := by kernel_rfl, c5 := by kernel_rfl, c9 := by kernel_rfl,
  c20 := by kernel_rfl, c37 := by kernel_rfl, c46 := by kernel_rfl, c51 := by kernel_rfl,
  c53 := by kernel_rfl, c75 := by kernel_rfl, c80 := by kernel_rfl, c127 := by kernel_rfl,
  c143 := by kernel_rfl, c145 := by kernel_rfl, c167 := by kernel_rfl, c168 := by kernel_rfl,
  c171 := by kernel_rfl, c173 := by kernel_rfl, c210 := by kernel_rfl, c212 := by kernel_rfl,
  c213 := by kernel_rfl, c232 := by kernel_rfl, c233 := by kernel_rfl }
end Go.Proofs.YtbdkbmhejoakiaaDoor
