/- RosterPair's round behind its first cut: what is left of it, how it ends, its frame. -/
import Derived.Test.YthbjcihdlhkboaaDoorPm3
import Derived.Test.YthbjcihdlhkboaaDoorStep2
import Derived.Outline
namespace Go.Proofs.YthbjcihdlhkboaaDoor
set_option linter.unusedSimpArgs false
set_option linter.unusedVariables false
open Go.RowKit Go.Maps Go.Shelf Go.Lib

set_option maxRecDepth 1000000 in
def PwRest (K K1 K2 K3 : Act → World → Prop) (Q : Exit → Act → World → Prop) : Prop :=
  ∀ (a : Act) (w : World),
    Code.wp Tryd.prog
        ((Code.region 16
              #[{ dst := some 87, op := Op.fieldAddr 33 (Operand.tmp 12) 0, type := 0, pos := "more.go:33", after := #[],
                  guard := none },
                { dst := some 88, op := Op.load 3 (Operand.tmp 87), type := 3, pos := "more.go:33",
                  after := #[{ on := 0, ground := Ground.data }], guard := none },
                { dst := some 89, op := Op.binOp BinOp.and 3 (Operand.tmp 88) (Operand.const (Value.int IntKind.i64 1)) 3,
                  type := 3, pos := "more.go:33", after := #[{ on := 1, ground := Ground.data }], guard := none },
                { dst := some 13, op := Op.assign (Operand.tmp 89), type := 3, pos := "more.go:33",
                  after :=
                    #[{ on := 2, ground := Ground.data }, { on := 0, ground := Ground.phase },
                      { on := 1, ground := Ground.phase }, { on := 2, ground := Ground.phase }],
                  guard := none }]
              false).seq
          (((Code.region 17
                    #[{ dst := some 90, op := Op.fieldAddr 33 (Operand.tmp 12) 1, type := 0, pos := "more.go:34",
                        after := #[], guard := none },
                      { dst := some 91, op := Op.load 3 (Operand.tmp 90), type := 3, pos := "more.go:34",
                        after := #[{ on := 0, ground := Ground.data }], guard := none },
                      { dst := some 92,
                        op := Op.binOp BinOp.geq 3 (Operand.tmp 91) (Operand.const (Value.int IntKind.i64 1)) 3,
                        type := 4, pos := "more.go:34", after := #[{ on := 1, ground := Ground.data }], guard := none }]
                    false).seq
                (Code.cond (Operand.tmp 92)
                  ((Code.region 18
                        #[{ dst := some 94, op := Op.move (Operand.tmp 13), type := 3, pos := "more.go:35", after := #[],
                            guard := none },
                          { dst := some 95, op := Op.indexAddr 24 (Operand.tmp 7) (Operand.tmp 94), type := 0,
                            pos := "more.go:35", after := #[{ on := 0, ground := Ground.data }], guard := none },
                          { dst := some 96, op := Op.load 23 (Operand.tmp 95), type := 23, pos := "more.go:35",
                            after := #[{ on := 1, ground := Ground.data }], guard := none },
                          { dst := some 97, op := Op.move (Operand.tmp 13), type := 3, pos := "more.go:35", after := #[],
                            guard := none },
                          { dst := some 98,
                            op := Op.binOp BinOp.sub 3 (Operand.const (Value.int IntKind.i64 1)) (Operand.tmp 97) 3,
                            type := 3, pos := "more.go:35", after := #[{ on := 3, ground := Ground.data }],
                            guard := none },
                          { dst := some 99, op := Op.indexAddr 25 (Operand.tmp 8) (Operand.tmp 98), type := 0,
                            pos := "more.go:35", after := #[{ on := 4, ground := Ground.data }], guard := none },
                          { dst := some 100, op := Op.load 9 (Operand.tmp 99), type := 9, pos := "more.go:35",
                            after := #[{ on := 5, ground := Ground.data }], guard := none },
                          { dst := some 101, op := Op.fieldAddr 33 (Operand.tmp 12) 1, type := 0, pos := "more.go:35",
                            after := #[], guard := none },
                          { dst := some 102, op := Op.load 3 (Operand.tmp 101), type := 3, pos := "more.go:35",
                            after := #[{ on := 7, ground := Ground.data }], guard := none },
                          { dst := some 103,
                            op :=
                              Op.call
                                { callee := Callee.value (Operand.func 10),
                                  args := #[Operand.tmp 96, Operand.tmp 100, Operand.tmp 102], argTypes := #[23, 9, 3] },
                            type := 35, pos := "more.go:35",
                            after :=
                              #[{ on := 2, ground := Ground.data }, { on := 6, ground := Ground.data },
                                { on := 8, ground := Ground.data }],
                            guard := none },
                          { dst := some 93, op := Op.move (Operand.tmp 103), type := 35, pos := "more.go:35",
                            after := #[{ on := 9, ground := Ground.data }], guard := none },
                          { dst := some 104, op := Op.extract (Operand.tmp 93) 0, type := 3, pos := "more.go:35",
                            after := #[{ on := 10, ground := Ground.data }], guard := none },
                          { dst := some 105, op := Op.extract (Operand.tmp 93) 1, type := 34, pos := "more.go:35",
                            after :=
                              #[{ on := 10, ground := Ground.data },
                                { on := 15, ground := Ground.gcOnly Departure.lateStores }],
                            guard := none },
                          { dst := some 106, op := Op.extract (Operand.tmp 93) 2, type := 4, pos := "more.go:35",
                            after :=
                              #[{ on := 10, ground := Ground.data },
                                { on := 16, ground := Ground.gcOnly Departure.lateStores }],
                            guard := none },
                          { dst := some 107, op := Op.extract (Operand.tmp 93) 3, type := 28, pos := "more.go:35",
                            after :=
                              #[{ on := 10, ground := Ground.data },
                                { on := 17, ground := Ground.gcOnly Departure.lateStores }],
                            guard := none },
                          { dst := some 14, op := Op.assign (Operand.tmp 104), type := 3, pos := "more.go:35",
                            after :=
                              #[{ on := 11, ground := Ground.data }, { on := 9, ground := Ground.chain },
                                { on := 0, ground := Ground.phase }, { on := 1, ground := Ground.phase },
                                { on := 2, ground := Ground.phase }, { on := 3, ground := Ground.phase },
                                { on := 4, ground := Ground.phase }, { on := 5, ground := Ground.phase },
                                { on := 6, ground := Ground.phase }, { on := 7, ground := Ground.phase },
                                { on := 8, ground := Ground.phase }, { on := 9, ground := Ground.phase },
                                { on := 10, ground := Ground.phase }, { on := 11, ground := Ground.phase },
                                { on := 12, ground := Ground.textOnly Departure.lateStores },
                                { on := 13, ground := Ground.textOnly Departure.lateStores },
                                { on := 14, ground := Ground.textOnly Departure.lateStores }],
                            guard := none },
                          { dst := some 15, op := Op.assign (Operand.tmp 105), type := 34, pos := "more.go:35",
                            after :=
                              #[{ on := 12, ground := Ground.data }, { on := 15, ground := Ground.chain },
                                { on := 0, ground := Ground.phase }, { on := 1, ground := Ground.phase },
                                { on := 2, ground := Ground.phase }, { on := 3, ground := Ground.phase },
                                { on := 4, ground := Ground.phase }, { on := 5, ground := Ground.phase },
                                { on := 6, ground := Ground.phase }, { on := 7, ground := Ground.phase },
                                { on := 8, ground := Ground.phase }, { on := 9, ground := Ground.phase },
                                { on := 10, ground := Ground.phase }, { on := 11, ground := Ground.phase },
                                { on := 12, ground := Ground.phase },
                                { on := 13, ground := Ground.textOnly Departure.lateStores },
                                { on := 14, ground := Ground.textOnly Departure.lateStores },
                                { on := 15, ground := Ground.phase }],
                            guard := none },
                          { dst := some 16, op := Op.assign (Operand.tmp 106), type := 4, pos := "more.go:35",
                            after :=
                              #[{ on := 13, ground := Ground.data }, { on := 16, ground := Ground.chain },
                                { on := 0, ground := Ground.phase }, { on := 1, ground := Ground.phase },
                                { on := 2, ground := Ground.phase }, { on := 3, ground := Ground.phase },
                                { on := 4, ground := Ground.phase }, { on := 5, ground := Ground.phase },
                                { on := 6, ground := Ground.phase }, { on := 7, ground := Ground.phase },
                                { on := 8, ground := Ground.phase }, { on := 9, ground := Ground.phase },
                                { on := 10, ground := Ground.phase }, { on := 11, ground := Ground.phase },
                                { on := 12, ground := Ground.phase }, { on := 13, ground := Ground.phase },
                                { on := 14, ground := Ground.textOnly Departure.lateStores },
                                { on := 15, ground := Ground.phase }, { on := 16, ground := Ground.phase }],
                            guard := none },
                          { dst := some 17, op := Op.assign (Operand.tmp 107), type := 28, pos := "more.go:35",
                            after :=
                              #[{ on := 14, ground := Ground.data }, { on := 17, ground := Ground.chain },
                                { on := 0, ground := Ground.phase }, { on := 1, ground := Ground.phase },
                                { on := 2, ground := Ground.phase }, { on := 3, ground := Ground.phase },
                                { on := 4, ground := Ground.phase }, { on := 5, ground := Ground.phase },
                                { on := 6, ground := Ground.phase }, { on := 7, ground := Ground.phase },
                                { on := 8, ground := Ground.phase }, { on := 9, ground := Ground.phase },
                                { on := 10, ground := Ground.phase }, { on := 11, ground := Ground.phase },
                                { on := 12, ground := Ground.phase }, { on := 13, ground := Ground.phase },
                                { on := 14, ground := Ground.phase }, { on := 15, ground := Ground.phase },
                                { on := 16, ground := Ground.phase }, { on := 17, ground := Ground.phase }],
                            guard := none }]
                        true).seq
                    (((Code.region 19
                              #[{ dst := some 108, op := Op.move (Operand.tmp 17), type := 28, pos := "more.go:36",
                                  after := #[], guard := none },
                                { dst := some 109,
                                  op :=
                                    Op.binOp BinOp.eql 28 (Operand.tmp 108) (Operand.const (Value.int IntKind.i64 0)) 28,
                                  type := 4, pos := "more.go:36", after := #[{ on := 0, ground := Ground.data }],
                                  guard := none },
                                { dst := some 110, op := Op.move (Operand.tmp 109), type := 4, pos := "more.go:36",
                                  after := #[{ on := 1, ground := Ground.data }], guard := none },
                                { dst := some 111, op := Op.move (Operand.tmp 14), type := 3, pos := "more.go:36",
                                  after := #[{ on := 2, ground := Ground.guard }], guard := some (2, true) },
                                { dst := some 112,
                                  op :=
                                    Op.binOp BinOp.neq 3 (Operand.tmp 111) (Operand.const (Value.int IntKind.i64 0)) 3,
                                  type := 4, pos := "more.go:36",
                                  after := #[{ on := 3, ground := Ground.data }, { on := 2, ground := Ground.guard }],
                                  guard := some (2, true) },
                                { dst := some 113,
                                  op := Op.pick (Operand.tmp 110) (Operand.tmp 112) (Operand.const (Value.bool false)),
                                  type := 4, pos := "more.go:36",
                                  after := #[{ on := 2, ground := Ground.data }, { on := 4, ground := Ground.data }],
                                  guard := none }]
                              false).seq
                          (Code.cond (Operand.tmp 113)
                            (Code.region 20
                              #[{ dst := some 114, op := Op.move (Operand.tmp 13), type := 3, pos := "more.go:37",
                                  after := #[], guard := none },
                                { dst := some 115,
                                  op :=
                                    Op.binOp BinOp.sub 3 (Operand.const (Value.int IntKind.i64 1)) (Operand.tmp 114) 3,
                                  type := 3, pos := "more.go:37", after := #[{ on := 0, ground := Ground.data }],
                                  guard := none },
                                { dst := some 116, op := Op.move (Operand.tmp 13), type := 3, pos := "more.go:37",
                                  after := #[], guard := none },
                                { dst := some 117,
                                  op :=
                                    Op.binOp BinOp.sub 3 (Operand.const (Value.int IntKind.i64 1)) (Operand.tmp 116) 3,
                                  type := 3, pos := "more.go:37", after := #[{ on := 2, ground := Ground.data }],
                                  guard := none },
                                { dst := some 118, op := Op.indexAddr 27 (Operand.tmp 9) (Operand.tmp 117), type := 0,
                                  pos := "more.go:37", after := #[{ on := 3, ground := Ground.data }], guard := none },
                                { dst := some 119, op := Op.load 26 (Operand.tmp 118), type := 26, pos := "more.go:37",
                                  after := #[{ on := 4, ground := Ground.data }], guard := none },
                                { dst := some 120, op := Op.move (Operand.tmp 14), type := 3, pos := "more.go:37",
                                  after := #[], guard := none },
                                { dst := some 121, op := Op.move (Operand.tmp 15), type := 34, pos := "more.go:37",
                                  after := #[], guard := none },
                                { dst := some 122, op := Op.build 38 #[(0, Operand.tmp 120), (1, Operand.tmp 121)],
                                  type := 38, pos := "more.go:37",
                                  after := #[{ on := 6, ground := Ground.data }, { on := 7, ground := Ground.data }],
                                  guard := none },
                                { dst := some 123, op := Op.buildSlice 26 1 #[(0, Operand.tmp 122)], type := 26,
                                  pos := "more.go:37", after := #[{ on := 8, ground := Ground.data }], guard := none },
                                { dst := some 124,
                                  op :=
                                    Op.call
                                      { callee := Callee.builtin Builtin.append,
                                        args := #[Operand.tmp 119, Operand.tmp 123], argTypes := #[26, 26] },
                                  type := 26, pos := "more.go:37",
                                  after := #[{ on := 5, ground := Ground.data }, { on := 9, ground := Ground.data }],
                                  guard := none },
                                { dst := some 125, op := Op.indexAddr 27 (Operand.tmp 9) (Operand.tmp 115), type := 0,
                                  pos := "more.go:37",
                                  after :=
                                    #[{ on := 1, ground := Ground.data }, { on := 0, ground := Ground.phase },
                                      { on := 1, ground := Ground.phase }, { on := 2, ground := Ground.phase },
                                      { on := 3, ground := Ground.phase }, { on := 4, ground := Ground.phase },
                                      { on := 5, ground := Ground.phase }, { on := 6, ground := Ground.phase },
                                      { on := 7, ground := Ground.phase }, { on := 8, ground := Ground.phase },
                                      { on := 9, ground := Ground.phase }, { on := 10, ground := Ground.phase }],
                                  guard := none },
                                { dst := none, op := Op.store 26 (Operand.tmp 125) (Operand.tmp 124), type := 0,
                                  pos := "more.go:37",
                                  after :=
                                    #[{ on := 11, ground := Ground.data }, { on := 10, ground := Ground.data },
                                      { on := 10, ground := Ground.chain }, { on := 0, ground := Ground.phase },
                                      { on := 1, ground := Ground.phase }, { on := 2, ground := Ground.phase },
                                      { on := 3, ground := Ground.phase }, { on := 4, ground := Ground.phase },
                                      { on := 5, ground := Ground.phase }, { on := 6, ground := Ground.phase },
                                      { on := 7, ground := Ground.phase }, { on := 8, ground := Ground.phase },
                                      { on := 9, ground := Ground.phase }, { on := 10, ground := Ground.phase }],
                                  guard := none }]
                              false)
                            Code.skip)).seq
                      (Code.exit 3)))
                  Code.skip)).seq
            ((Code.region 21
                  #[{ dst := some 126, op := Op.move (Operand.tmp 13), type := 3, pos := "more.go:41", after := #[],
                      guard := none },
                    { dst := some 127, op := Op.indexAddr 27 (Operand.tmp 9) (Operand.tmp 126), type := 0,
                      pos := "more.go:41", after := #[{ on := 0, ground := Ground.data }], guard := none },
                    { dst := some 128, op := Op.load 26 (Operand.tmp 127), type := 26, pos := "more.go:41",
                      after := #[{ on := 1, ground := Ground.data }], guard := none },
                    { dst := some 129,
                      op :=
                        Op.call { callee := Callee.builtin Builtin.len, args := #[Operand.tmp 128], argTypes := #[26] },
                      type := 3, pos := "more.go:41", after := #[{ on := 2, ground := Ground.data }], guard := none },
                    { dst := some 130,
                      op := Op.binOp BinOp.gtr 3 (Operand.tmp 129) (Operand.const (Value.int IntKind.i64 0)) 3, type := 4,
                      pos := "more.go:41", after := #[{ on := 3, ground := Ground.data }], guard := none }]
                  false).seq
              (Code.cond (Operand.tmp 130)
                ((Code.region 22
                      #[{ dst := some 131, op := Op.move (Operand.tmp 13), type := 3, pos := "more.go:42", after := #[],
                          guard := none },
                        { dst := some 132, op := Op.indexAddr 27 (Operand.tmp 9) (Operand.tmp 131), type := 0,
                          pos := "more.go:42", after := #[{ on := 0, ground := Ground.data }], guard := none },
                        { dst := some 133, op := Op.load 26 (Operand.tmp 132), type := 26, pos := "more.go:42",
                          after := #[{ on := 1, ground := Ground.data }], guard := none },
                        { dst := some 134,
                          op := Op.indexAddr 26 (Operand.tmp 133) (Operand.const (Value.int IntKind.i64 0)), type := 0,
                          pos := "more.go:42", after := #[{ on := 2, ground := Ground.data }], guard := none },
                        { dst := some 135, op := Op.load 38 (Operand.tmp 134), type := 38, pos := "more.go:42",
                          after := #[{ on := 3, ground := Ground.data }], guard := none },
                        { dst := some 18, op := Op.alloc 38, type := 0, pos := "more.go:42", after := #[],
                          guard := none },
                        { dst := none, op := Op.store 38 (Operand.tmp 18) (Operand.tmp 135), type := 0,
                          pos := "more.go:42",
                          after :=
                            #[{ on := 5, ground := Ground.data }, { on := 4, ground := Ground.data },
                              { on := 0, ground := Ground.phase }, { on := 1, ground := Ground.phase },
                              { on := 2, ground := Ground.phase }, { on := 3, ground := Ground.phase },
                              { on := 4, ground := Ground.phase }, { on := 5, ground := Ground.phase }],
                          guard := none }]
                      false).seq
                  ((Code.region 23
                        #[{ dst := some 136, op := Op.move (Operand.tmp 13), type := 3, pos := "more.go:43", after := #[],
                            guard := none },
                          { dst := some 137, op := Op.move (Operand.tmp 13), type := 3, pos := "more.go:43", after := #[],
                            guard := none },
                          { dst := some 138, op := Op.indexAddr 27 (Operand.tmp 9) (Operand.tmp 137), type := 0,
                            pos := "more.go:43", after := #[{ on := 1, ground := Ground.data }], guard := none },
                          { dst := some 139, op := Op.load 26 (Operand.tmp 138), type := 26, pos := "more.go:43",
                            after := #[{ on := 2, ground := Ground.data }], guard := none },
                          { dst := some 140,
                            op :=
                              Op.slice 26 (Operand.tmp 139) (some (Operand.const (Value.int IntKind.i64 1))) none none,
                            type := 26, pos := "more.go:43", after := #[{ on := 3, ground := Ground.data }],
                            guard := none },
                          { dst := some 141, op := Op.indexAddr 27 (Operand.tmp 9) (Operand.tmp 136), type := 0,
                            pos := "more.go:43",
                            after :=
                              #[{ on := 0, ground := Ground.data }, { on := 0, ground := Ground.phase },
                                { on := 1, ground := Ground.phase }, { on := 2, ground := Ground.phase },
                                { on := 3, ground := Ground.phase }, { on := 4, ground := Ground.phase }],
                            guard := none },
                          { dst := none, op := Op.store 26 (Operand.tmp 141) (Operand.tmp 140), type := 0,
                            pos := "more.go:43",
                            after :=
                              #[{ on := 5, ground := Ground.data }, { on := 4, ground := Ground.data },
                                { on := 0, ground := Ground.phase }, { on := 1, ground := Ground.phase },
                                { on := 2, ground := Ground.phase }, { on := 3, ground := Ground.phase },
                                { on := 4, ground := Ground.phase }],
                            guard := none }]
                        false).seq
                    ((Code.region 24
                          #[{ dst := some 143, op := Op.move (Operand.tmp 13), type := 3, pos := "more.go:44",
                              after := #[], guard := none },
                            { dst := some 144, op := Op.indexAddr 24 (Operand.tmp 7) (Operand.tmp 143), type := 0,
                              pos := "more.go:44", after := #[{ on := 0, ground := Ground.data }], guard := none },
                            { dst := some 145, op := Op.load 23 (Operand.tmp 144), type := 23, pos := "more.go:44",
                              after := #[{ on := 1, ground := Ground.data }], guard := none },
                            { dst := some 146, op := Op.move (Operand.tmp 13), type := 3, pos := "more.go:44",
                              after := #[], guard := none },
                            { dst := some 147,
                              op := Op.binOp BinOp.sub 3 (Operand.const (Value.int IntKind.i64 1)) (Operand.tmp 146) 3,
                              type := 3, pos := "more.go:44", after := #[{ on := 3, ground := Ground.data }],
                              guard := none },
                            { dst := some 148, op := Op.indexAddr 25 (Operand.tmp 8) (Operand.tmp 147), type := 0,
                              pos := "more.go:44", after := #[{ on := 4, ground := Ground.data }], guard := none },
                            { dst := some 149, op := Op.load 9 (Operand.tmp 148), type := 9, pos := "more.go:44",
                              after := #[{ on := 5, ground := Ground.data }], guard := none },
                            { dst := some 150, op := Op.fieldAddr 38 (Operand.tmp 18) 0, type := 0, pos := "more.go:44",
                              after := #[], guard := none },
                            { dst := some 151, op := Op.load 3 (Operand.tmp 150), type := 3, pos := "more.go:44",
                              after := #[{ on := 7, ground := Ground.data }], guard := none },
                            { dst := some 152, op := Op.fieldAddr 38 (Operand.tmp 18) 1, type := 0, pos := "more.go:44",
                              after := #[], guard := none },
                            { dst := some 153, op := Op.load 34 (Operand.tmp 152), type := 34, pos := "more.go:44",
                              after := #[{ on := 9, ground := Ground.data }], guard := none },
                            { dst := some 154,
                              op :=
                                Op.call
                                  { callee := Callee.value (Operand.func 11),
                                    args := #[Operand.tmp 145, Operand.tmp 149, Operand.tmp 151, Operand.tmp 153],
                                    argTypes := #[23, 9, 3, 34] },
                              type := 41, pos := "more.go:44",
                              after :=
                                #[{ on := 2, ground := Ground.data }, { on := 6, ground := Ground.data },
                                  { on := 8, ground := Ground.data }, { on := 10, ground := Ground.data }],
                              guard := none },
                            { dst := some 142, op := Op.move (Operand.tmp 154), type := 41, pos := "more.go:44",
                              after := #[{ on := 11, ground := Ground.data }], guard := none },
                            { dst := some 155, op := Op.extract (Operand.tmp 142) 0, type := 40, pos := "more.go:44",
                              after := #[{ on := 12, ground := Ground.data }], guard := none },
                            { dst := some 156, op := Op.extract (Operand.tmp 142) 1, type := 28, pos := "more.go:44",
                              after :=
                                #[{ on := 12, ground := Ground.data },
                                  { on := 16, ground := Ground.gcOnly Departure.lateStores }],
                              guard := none },
                            { dst := some 19, op := Op.alloc 40, type := 0, pos := "more.go:44", after := #[],
                              guard := none },
                            { dst := none, op := Op.store 40 (Operand.tmp 19) (Operand.tmp 155), type := 0,
                              pos := "more.go:44",
                              after :=
                                #[{ on := 15, ground := Ground.data }, { on := 13, ground := Ground.data },
                                  { on := 11, ground := Ground.chain }, { on := 0, ground := Ground.phase },
                                  { on := 1, ground := Ground.phase }, { on := 2, ground := Ground.phase },
                                  { on := 3, ground := Ground.phase }, { on := 4, ground := Ground.phase },
                                  { on := 5, ground := Ground.phase }, { on := 6, ground := Ground.phase },
                                  { on := 7, ground := Ground.phase }, { on := 8, ground := Ground.phase },
                                  { on := 9, ground := Ground.phase }, { on := 10, ground := Ground.phase },
                                  { on := 11, ground := Ground.phase }, { on := 12, ground := Ground.phase },
                                  { on := 13, ground := Ground.phase },
                                  { on := 14, ground := Ground.textOnly Departure.lateStores },
                                  { on := 15, ground := Ground.phase }],
                              guard := none },
                            { dst := some 20, op := Op.assign (Operand.tmp 156), type := 28, pos := "more.go:44",
                              after :=
                                #[{ on := 14, ground := Ground.data }, { on := 16, ground := Ground.chain },
                                  { on := 0, ground := Ground.phase }, { on := 1, ground := Ground.phase },
                                  { on := 2, ground := Ground.phase }, { on := 3, ground := Ground.phase },
                                  { on := 4, ground := Ground.phase }, { on := 5, ground := Ground.phase },
                                  { on := 6, ground := Ground.phase }, { on := 7, ground := Ground.phase },
                                  { on := 8, ground := Ground.phase }, { on := 9, ground := Ground.phase },
                                  { on := 10, ground := Ground.phase }, { on := 11, ground := Ground.phase },
                                  { on := 12, ground := Ground.phase }, { on := 13, ground := Ground.phase },
                                  { on := 14, ground := Ground.phase }, { on := 15, ground := Ground.phase },
                                  { on := 16, ground := Ground.phase }],
                              guard := none }]
                          true).seq
                      (((Code.region 25
                                #[{ dst := some 157, op := Op.move (Operand.tmp 20), type := 28, pos := "more.go:45",
                                    after := #[], guard := none },
                                  { dst := some 158,
                                    op :=
                                      Op.binOp BinOp.neq 28 (Operand.tmp 157) (Operand.const (Value.int IntKind.i64 0))
                                        28,
                                    type := 4, pos := "more.go:45", after := #[{ on := 0, ground := Ground.data }],
                                    guard := none }]
                                false).seq
                            (Code.cond (Operand.tmp 158)
                              ((Code.region 26
                                    #[{ dst := some 6, op := Op.assign (Operand.const (Value.bool false)), type := 4,
                                        pos := "more.go:46", after := #[], guard := none }]
                                    false).seq
                                Code.ret)
                              Code.skip)).seq
                        ((Code.region 27
                              #[{ dst := some 159, op := Op.fieldAddr 40 (Operand.tmp 19) 1, type := 0,
                                  pos := "more.go:48", after := #[], guard := none },
                                { dst := some 160, op := Op.load 4 (Operand.tmp 159), type := 4, pos := "more.go:48",
                                  after := #[{ on := 0, ground := Ground.data }], guard := none }]
                              false).seq
                          (Code.cond (Operand.tmp 160)
                            (Code.region 28
                              #[{ dst := some 161, op := Op.move (Operand.tmp 13), type := 3, pos := "more.go:49",
                                  after := #[], guard := none },
                                { dst := some 162,
                                  op :=
                                    Op.binOp BinOp.sub 3 (Operand.const (Value.int IntKind.i64 1)) (Operand.tmp 161) 3,
                                  type := 3, pos := "more.go:49", after := #[{ on := 0, ground := Ground.data }],
                                  guard := none },
                                { dst := some 163, op := Op.move (Operand.tmp 13), type := 3, pos := "more.go:49",
                                  after := #[], guard := none },
                                { dst := some 164,
                                  op :=
                                    Op.binOp BinOp.sub 3 (Operand.const (Value.int IntKind.i64 1)) (Operand.tmp 163) 3,
                                  type := 3, pos := "more.go:49", after := #[{ on := 2, ground := Ground.data }],
                                  guard := none },
                                { dst := some 165, op := Op.indexAddr 27 (Operand.tmp 9) (Operand.tmp 164), type := 0,
                                  pos := "more.go:49", after := #[{ on := 3, ground := Ground.data }], guard := none },
                                { dst := some 166, op := Op.load 26 (Operand.tmp 165), type := 26, pos := "more.go:49",
                                  after := #[{ on := 4, ground := Ground.data }], guard := none },
                                { dst := some 167, op := Op.fieldAddr 38 (Operand.tmp 18) 1, type := 0,
                                  pos := "more.go:49", after := #[], guard := none },
                                { dst := some 168, op := Op.load 34 (Operand.tmp 167), type := 34, pos := "more.go:49",
                                  after := #[{ on := 6, ground := Ground.data }], guard := none },
                                { dst := some 169,
                                  op := Op.build 38 #[(0, Operand.const (Value.int IntKind.i64 4)), (1, Operand.tmp 168)],
                                  type := 38, pos := "more.go:49", after := #[{ on := 7, ground := Ground.data }],
                                  guard := none },
                                { dst := some 170, op := Op.buildSlice 26 1 #[(0, Operand.tmp 169)], type := 26,
                                  pos := "more.go:49", after := #[{ on := 8, ground := Ground.data }], guard := none },
                                { dst := some 171,
                                  op :=
                                    Op.call
                                      { callee := Callee.builtin Builtin.append,
                                        args := #[Operand.tmp 166, Operand.tmp 170], argTypes := #[26, 26] },
                                  type := 26, pos := "more.go:49",
                                  after := #[{ on := 5, ground := Ground.data }, { on := 9, ground := Ground.data }],
                                  guard := none },
                                { dst := some 172, op := Op.indexAddr 27 (Operand.tmp 9) (Operand.tmp 162), type := 0,
                                  pos := "more.go:49",
                                  after :=
                                    #[{ on := 1, ground := Ground.data }, { on := 0, ground := Ground.phase },
                                      { on := 1, ground := Ground.phase }, { on := 2, ground := Ground.phase },
                                      { on := 3, ground := Ground.phase }, { on := 4, ground := Ground.phase },
                                      { on := 5, ground := Ground.phase }, { on := 6, ground := Ground.phase },
                                      { on := 7, ground := Ground.phase }, { on := 8, ground := Ground.phase },
                                      { on := 9, ground := Ground.phase }, { on := 10, ground := Ground.phase }],
                                  guard := none },
                                { dst := none, op := Op.store 26 (Operand.tmp 172) (Operand.tmp 171), type := 0,
                                  pos := "more.go:49",
                                  after :=
                                    #[{ on := 11, ground := Ground.data }, { on := 10, ground := Ground.data },
                                      { on := 10, ground := Ground.chain }, { on := 0, ground := Ground.phase },
                                      { on := 1, ground := Ground.phase }, { on := 2, ground := Ground.phase },
                                      { on := 3, ground := Ground.phase }, { on := 4, ground := Ground.phase },
                                      { on := 5, ground := Ground.phase }, { on := 6, ground := Ground.phase },
                                      { on := 7, ground := Ground.phase }, { on := 8, ground := Ground.phase },
                                      { on := 9, ground := Ground.phase }, { on := 10, ground := Ground.phase }],
                                  guard := none }]
                              true)
                            Code.skip))))))
                Code.skip))))
        (Exit.inBlock 3 (Exit.then K1 (Exit.then K2 (Exit.inBlock 2 (Exit.then K3 Q))))) a w →
      K a w
set_option maxRecDepth 1000000 in
def PwNext (K1 K2 K3 : Act → World → Prop) (Q : Exit → Act → World → Prop) : Prop :=
  ∀ (a : Act) (w : World),
    Code.wp Tryd.prog
        (Code.region 12
          #[{ dst := some 70, op := Op.move (Operand.tmp 11), type := 3, pos := "more.go:28", after := #[],
              guard := none },
            { dst := some 71, op := Op.binOp BinOp.add 3 (Operand.tmp 70) (Operand.const (Value.int IntKind.i64 1)) 3,
              type := 3, pos := "more.go:28", after := #[{ on := 0, ground := Ground.data }], guard := none },
            { dst := some 11, op := Op.assign (Operand.tmp 71), type := 3, pos := "more.go:28",
              after :=
                #[{ on := 1, ground := Ground.data }, { on := 0, ground := Ground.phase },
                  { on := 1, ground := Ground.phase }],
              guard := none }]
          false)
        (Exit.then K2 (Exit.inBlock 2 (Exit.then K3 Q))) a w →
      K1 a w
set_option maxRecDepth 1000000 in
def PwEnd (J : Nat → Act → World → Prop) (w : World) (items asks : Int) (A : Option Addr) (L cap : Nat) (u6 u11 u12 u13 u14 u15 u16 u17 u18 u19 u20 u52 u53 u54 u55 u56 u57 u58 u59 u60 u61 u62 u63 u64 u65 u66 u67 u68 u69 u70 u71 u72 u73 u74 u75 u76 u77 u78 u79 u80 u81 u82 u83 u84 u85 u86 u87 u88 u89 u90 u91 u92 u93 u94 u95 u96 u97 u98 u99 u100 u101 u102 u103 u104 u105 u106 u107 u108 u109 u110 u111 u112 u113 u114 u115 u116 u117 u118 u119 u120 u121 u122 u123 u124 u125 u126 u127 u128 u129 u130 u131 u132 u133 u134 u135 u136 u137 u138 u139 u140 u141 u142 u143 u144 u145 u146 u147 u148 u149 u150 u151 u152 u153 u154 u155 u156 u157 u158 u159 u160 u161 u162 u163 u164 u165 u166 u167 u168 u169 u170 u171 u172 u28 u29 u30 u31 u32 u33 u34 u35 u36 u37 u38 u39 u40 u41 u42 u43 u44 u45 u46 u47 u48 u49 u50 u51 : Value) : Prop :=
  ∀ (k : Nat) (a' : Act) (w' : World),
    (∃ u6 u11 u12 u13 u14 u15 u16 u17 u18 u19 u20 u52 u53 u54 u55 u56 u57 u58 u59 u60 u61 u62 u63 u64 u65 u66 u67 u68 u69
        u70 u71 u72 u73 u74 u75 u76 u77 u78 u79 u80 u81 u82 u83 u84 u85 u86 u87 u88 u89 u90 u91 u92 u93 u94 u95 u96 u97
        u98 u99 u100 u101 u102 u103 u104 u105 u106 u107 u108 u109 u110 u111 u112 u113 u114 u115 u116 u117 u118 u119 u120
        u121 u122 u123 u124 u125 u126 u127 u128 u129 u130 u131 u132 u133 u134 u135 u136 u137 u138 u139 u140 u141 u142 u143
        u144 u145 u146 u147 u148 u149 u150 u151 u152 u153 u154 u155 u156 u157 u158 u159 u160 u161 u162 u163 u164 u165 u166
        u167 u168 u169 u170 u171 u172,
        PRel w L k u11 w' ∧
          a' =
            {
              tmps :=
                #[Value.int IntKind.i64 items, Value.int IntKind.i64 asks, Value.slice A L cap, undef, undef, undef, u6,
                  Value.pointer (some { block := w.heap.size, off := 0 }),
                  Value.pointer (some { block := w.heap.size + 1, off := 0 }),
                  Value.pointer (some { block := w.heap.size + 1 + 1, off := 0 }), Value.int IntKind.i64 2, u11, u12, u13,
                  u14, u15, u16, u17, u18, u19, u20, undef, undef, undef, undef,
                  Value.agg #[Value.string { data := #[97, 110, 110] }, Value.string { data := #[98, 111, 98] }],
                  Value.int IntKind.i64 2, Value.bool false, u28, u29, u30, u31, u32, u33, u34, u35, u36, u37, u38, u39,
                  u40, u41, u42, u43, u44, u45, u46, u47, u48, u49, u50, u51, u52, u53, u54, u55, u56, u57, u58, u59, u60,
                  u61, u62, u63, u64, u65, u66, u67, u68, u69, u70, u71, u72, u73, u74, u75, u76, u77, u78, u79, u80, u81,
                  u82, u83, u84, u85, u86, u87, u88, u89, u90, u91, u92, u93, u94, u95, u96, u97, u98, u99, u100, u101,
                  u102, u103, u104, u105, u106, u107, u108, u109, u110, u111, u112, u113, u114, u115, u116, u117, u118,
                  u119, u120, u121, u122, u123, u124, u125, u126, u127, u128, u129, u130, u131, u132, u133, u134, u135,
                  u136, u137, u138, u139, u140, u141, u142, u143, u144, u145, u146, u147, u148, u149, u150, u151, u152,
                  u153, u154, u155, u156, u157, u158, u159, u160, u161, u162, u163, u164, u165, u166, u167, u168, u169,
                  u170, u171, u172, undef, undef, undef, undef, undef, undef, undef, undef, undef, undef, undef, undef,
                  undef, undef, undef, undef, undef, undef, undef, undef, undef, undef, undef, undef, undef, undef, undef,
                  undef, undef, undef, undef, undef, undef, undef, undef, undef, undef, undef, undef, undef, undef, undef,
                  undef, undef, undef, undef],
              defers := [] }) →
      J k a' w'
set_option maxRecDepth 1000000 in
def PwAt (w : World) (items asks : Int) (A : Option Addr) (L cap k sb : Nat) (u6 u13 u14 u15 u16 u17 u18 u19 u20 u28 u29 u30 u31 u32 u33 u34 u35 u36 u37 u38 u39 u40 u41 u42 u43 u44 u45 u46 u47 u48 u49 u50 u51 u52 u53 u54 u55 u56 u57 u58 u59 u60 u61 u62 u63 u64 u65 u66 u67 u68 u69 u70 u71 u72 u73 u74 u75 u76 u77 u78 u79 u80 u81 u82 u83 u84 u85 u86 u87 u88 u89 u90 u91 u92 u93 u94 u95 u96 u97 u98 u99 u100 u101 u102 u103 u104 u105 u106 u107 u108 u109 u110 u111 u112 u113 u114 u115 u116 u117 u118 u119 u120 u121 u122 u123 u124 u125 u126 u127 u128 u129 u130 u131 u132 u133 u134 u135 u136 u137 u138 u139 u140 u141 u142 u143 u144 u145 u146 u147 u148 u149 u150 u151 u152 u153 u154 u155 u156 u157 u158 u159 u160 u161 u162 u163 u164 u165 u166 u167 u168 u169 u170 u171 u172 : Value) : Act :=
  {
      tmps :=
        #[Value.int IntKind.i64 items, Value.int IntKind.i64 asks, Value.slice A L cap, undef, undef, undef, u6,
          Value.pointer (some { block := w.heap.size, off := 0 }),
          Value.pointer (some { block := w.heap.size + 1, off := 0 }),
          Value.pointer (some { block := w.heap.size + 1 + 1, off := 0 }), Value.int IntKind.i64 2,
          Value.int IntKind.i64 ↑k, Value.pointer (some { block := sb, off := 0 }), u13, u14, u15, u16, u17, u18, u19,
          u20, undef, undef, undef, undef,
          Value.agg #[Value.string { data := #[97, 110, 110] }, Value.string { data := #[98, 111, 98] }],
          Value.int IntKind.i64 2, Value.bool false, u28, u29, u30, u31, u32, u33, u34, u35, u36, u37, u38, u39, u40, u41,
          u42, u43, u44, u45, u46, u47, u48, u49, u50, u51, u52, u53, u54, u55, u56, u57, u58, u59, u60, u61, u62, u63,
          u64, u65, u66, u67, u68, u69, u70, u71, u72, u73, u74, u75, u76, u77, u78, u79, u80, u81, u82, u83, u84, u85,
          u86, u87, u88, u89, u90, u91, u92, u93, u94, u95, u96, u97, u98, u99, u100, u101, u102, u103, u104, u105, u106,
          u107, u108, u109, u110, u111, u112, u113, u114, u115, u116, u117, u118, u119, u120, u121, u122, u123, u124,
          u125, u126, u127, u128, u129, u130, u131, u132, u133, u134, u135, u136, u137, u138, u139, u140, u141, u142,
          u143, u144, u145, u146, u147, u148, u149, u150, u151, u152, u153, u154, u155, u156, u157, u158, u159, u160,
          u161, u162, u163, u164, u165, u166, u167, u168, u169, u170, u171, u172, undef, undef, undef, undef, undef,
          undef, undef, undef, undef, undef, undef, undef, undef, undef, undef, undef, undef, undef, undef, undef, undef,
          undef, undef, undef, undef, undef, undef, undef, undef, undef, undef, undef, undef, undef, undef, undef, undef,
          undef, undef, undef, undef, undef, undef, undef, undef, undef],
      defers := [] }
end Go.Proofs.YthbjcihdlhkboaaDoor
