import Derived.Test.YtnlhpohgpmmiiaaCatFun
namespace Go.Cat
/-- loop.example/g03401/laws.FnExactClaimWord -/
def ir_laws_FnExactClaimWord : IF := ⟨1, 5, [1],
 (.seq (.reg [⟨[], [], .cs .v (.b false)⟩] [some 0, none, none, none, none])
 ((.seq (.reg [⟨[], [], .nop⟩, ⟨[], [], .ca 7 [(.e 0)] 1⟩, ⟨[], [], .nop⟩] [some 0, none, some 5, none, none])
 ((.seq (.reg [⟨[], [], .nop⟩, ⟨[], [], .ca 8 [(.e 0)] 1⟩, ⟨[], [], .nop⟩] [none, none, some 2, some 5, none])
 ((.seq ((.seq (.reg [⟨[], [], .nop⟩, ⟨[], [], .nop⟩, ⟨[], [], .bi .neq (.e 3) (.e 2)⟩] [none, none, none, none, some 5])
 (.cond 4 ((.seq (.reg [⟨[], [], .cs .v (.b false)⟩] [none, some 5, none, none, none])
  (.ret))) (.skip))))
 ((.seq (.reg [⟨[], [], .cs .v (.b true)⟩] [none, some 5, none, none, none])
 (.ret))))))))))⟩

/-- loop.example/g03401/laws.FnExactCountWords -/
def ir_laws_FnExactCountWords : IF := ⟨2, 6, [2],
 (.seq (.reg [⟨[], [], .cs .v (.b false)⟩] [some 0, some 1, none, none, none, none])
 ((.seq (.reg [⟨[], [], .nop⟩, ⟨[], [], .nop⟩, ⟨[], [], .ca 9 [(.e 0), (.e 1)] 1⟩, ⟨[], [], .nop⟩] [some 0, some 1, none, some 6, none, none])
 ((.seq (.reg [⟨[], [], .nop⟩, ⟨[], [], .nop⟩, ⟨[], [], .ca 10 [(.e 0), (.e 1)] 1⟩, ⟨[], [], .nop⟩] [none, none, none, some 3, some 6, none])
 ((.seq ((.seq (.reg [⟨[], [], .nop⟩, ⟨[], [], .nop⟩, ⟨[], [], .bi .neq (.e 4) (.e 3)⟩] [none, none, none, none, none, some 6])
 (.cond 5 ((.seq (.reg [⟨[], [], .cs .v (.b false)⟩] [none, none, some 6, none, none, none])
  (.ret))) (.skip))))
 ((.seq (.reg [⟨[], [], .cs .v (.b true)⟩] [none, none, some 6, none, none, none])
 (.ret))))))))))⟩

/-- loop.example/g03401/laws.FnExactCountWithin -/
def ir_laws_FnExactCountWithin : IF := ⟨2, 6, [2],
 (.seq (.reg [⟨[], [], .cs .v (.b false)⟩] [some 0, some 1, none, none, none, none])
 ((.seq (.reg [⟨[], [], .nop⟩, ⟨[], [], .nop⟩, ⟨[], [], .ca 11 [(.e 0), (.e 1)] 1⟩, ⟨[], [], .nop⟩] [some 0, some 1, none, some 6, none, none])
 ((.seq (.reg [⟨[], [], .nop⟩, ⟨[], [], .nop⟩, ⟨[], [], .ca 12 [(.e 0), (.e 1)] 1⟩, ⟨[], [], .nop⟩] [none, none, none, some 3, some 6, none])
 ((.seq ((.seq (.reg [⟨[], [], .nop⟩, ⟨[], [], .nop⟩, ⟨[], [], .bi .neq (.e 4) (.e 3)⟩] [none, none, none, none, none, some 6])
 (.cond 5 ((.seq (.reg [⟨[], [], .cs .v (.b false)⟩] [none, none, some 6, none, none, none])
  (.ret))) (.skip))))
 ((.seq (.reg [⟨[], [], .cs .v (.b true)⟩] [none, none, some 6, none, none, none])
 (.ret))))))))))⟩

/-- loop.example/g03401/laws.FnExactKindNames -/
def ir_laws_FnExactKindNames : IF := ⟨0, 12, [0],
 (.seq (.reg [⟨[], [], .cs .v (.b false)⟩] [none, none, none, none, none, none, none, none, none, none, none, none])
 ((.seq (.reg [⟨[], [], .ca 13 [] 1⟩, ⟨[], [], .nop⟩] [none, some 12, none, none, none, none, none, none, none, none, none, none])
 ((.seq (.reg [⟨[], [], .ca 14 [] 1⟩, ⟨[], [], .nop⟩] [none, some 1, some 12, none, none, none, none, none, none, none, none, none])
 ((.seq ((.seq (.reg [⟨[], [], .nop⟩, ⟨[], [], .nop⟩, ⟨[], [], .ca 15 [(.e 2), (.e 1)] 1⟩, ⟨[], [], .un .not (.e 12)⟩] [none, some 1, some 2, none, none, none, some 13, none, none, none, none, none])
 (.cond 6 ((.seq (.reg [⟨[], [], .cs .v (.b false)⟩] [some 12, none, none, none, none, none, none, none, none, none, none, none])
  (.ret))) (.skip))))
 ((.seq (.reg [⟨[], [], .cs .v (.n 1)⟩] [none, some 1, some 2, some 12, none, none, none, none, none, none, none, none])
 ((.seq (.reg [⟨[], [], .nop⟩, ⟨[], [], .nop⟩, ⟨[], [], .ca 16 [(.e 2), (.e 3)] 1⟩, ⟨[], [], .nop⟩] [none, some 1, some 2, some 12, none, none, none, none, none, none, none, none])
 ((.seq (.reg [⟨[], [], .cs .v (.n 1)⟩] [none, some 1, some 2, some 3, some 12, none, none, none, none, none, none, none])
 ((.seq (.reg [⟨[], [], .nop⟩, ⟨[], [], .nop⟩, ⟨[], [], .ca 17 [(.e 2), (.e 4)] 1⟩, ⟨[], [], .nop⟩] [none, some 1, some 2, some 3, some 12, none, none, none, none, none, none, none])
 ((.seq ((.seq (.reg [⟨[], [], .nop⟩, ⟨[], [], .bi .lss (.e 4) (.c (.n 0))⟩] [none, some 1, some 2, some 3, some 4, none, none, some 12, none, none, none, none])
 (.cond 7 ((.seq (.reg [⟨[], [], .cs .v (.b false)⟩] [some 12, none, none, none, none, none, none, none, none, none, none, none])
  (.ret))) (.skip))))
 ((.seq ((.seq (.reg [⟨[], [], .nop⟩, ⟨[], [], .nop⟩, ⟨[], [], .bi .neq (.e 4) (.e 3)⟩] [none, some 1, some 2, some 3, none, none, none, none, some 12, none, none, none])
 (.cond 8 ((.seq (.reg [⟨[], [], .cs .v (.b false)⟩] [some 12, none, none, none, none, none, none, none, none, none, none, none])
  (.ret))) (.skip))))
 ((.seq (.reg [⟨[], [], .ca 14 [] 1⟩, ⟨[], [], .nop⟩] [none, some 1, some 2, some 3, none, some 12, none, none, none, none, none, none])
 ((.seq ((.seq (.reg [⟨[], [], .nop⟩, ⟨[], [], .nop⟩, ⟨[], [], .ca 15 [(.e 5), (.e 1)] 1⟩, ⟨[], [], .un .not (.e 12)⟩] [none, none, some 2, some 3, none, none, none, none, none, some 13, none, none])
 (.cond 9 ((.seq (.reg [⟨[], [], .cs .v (.b false)⟩] [some 12, none, none, none, none, none, none, none, none, none, none, none])
  (.ret))) (.skip))))
 ((.seq (.reg [⟨[], [], .cs .v (.n 1)⟩] [none, none, some 2, some 3, some 12, none, none, none, none, none, none, none])
 ((.seq (.reg [⟨[], [], .nop⟩, ⟨[], [], .nop⟩, ⟨[], [], .ca 17 [(.e 2), (.e 4)] 1⟩, ⟨[], [], .nop⟩] [none, none, none, some 3, some 12, none, none, none, none, none, none, none])
 ((.seq ((.seq (.reg [⟨[], [], .nop⟩, ⟨[], [], .bi .lss (.e 4) (.c (.n 0))⟩] [none, none, none, some 3, some 4, none, none, none, none, none, some 12, none])
 (.cond 10 ((.seq (.reg [⟨[], [], .cs .v (.b false)⟩] [some 12, none, none, none, none, none, none, none, none, none, none, none])
  (.ret))) (.skip))))
 ((.seq ((.seq (.reg [⟨[], [], .nop⟩, ⟨[], [], .nop⟩, ⟨[], [], .bi .neq (.e 4) (.e 3)⟩] [none, none, none, none, none, none, none, none, none, none, none, some 12])
 (.cond 11 ((.seq (.reg [⟨[], [], .cs .v (.b false)⟩] [some 12, none, none, none, none, none, none, none, none, none, none, none])
  (.ret))) (.skip))))
 ((.seq (.reg [⟨[], [], .cs .v (.b true)⟩] [some 12, none, none, none, none, none, none, none, none, none, none, none])
 (.ret))))))))))))))))))))))))))))))))))⟩

/-- loop.example/g03401/laws.FnExactBallotByReflection -/
def ir_laws_FnExactBallotByReflection : IF := ⟨2, 6, [2],
 (.seq (.reg [⟨[], [], .cs .v (.b false)⟩] [some 0, some 1, none, none, none, none])
 ((.seq (.reg [⟨[], [], .nop⟩, ⟨[], [], .nop⟩, ⟨[], [], .ca 18 [(.e 0), (.e 1)] 1⟩, ⟨[], [], .nop⟩] [some 0, some 1, none, some 6, none, none])
 ((.seq (.reg [⟨[], [], .nop⟩, ⟨[], [], .nop⟩, ⟨[], [], .ca 19 [(.e 0), (.e 1)] 1⟩, ⟨[], [], .nop⟩] [none, none, none, some 3, some 6, none])
 ((.seq ((.seq (.reg [⟨[], [], .nop⟩, ⟨[], [], .nop⟩, ⟨[], [], .bi .neq (.e 4) (.e 3)⟩] [none, none, none, none, none, some 6])
 (.cond 5 ((.seq (.reg [⟨[], [], .cs .v (.b false)⟩] [none, none, some 6, none, none, none])
  (.ret))) (.skip))))
 ((.seq (.reg [⟨[], [], .cs .v (.b true)⟩] [none, none, some 6, none, none, none])
 (.ret))))))))))⟩

/-- loop.example/g03401/laws.FnExactCountBad -/
def ir_laws_FnExactCountBad : IF := ⟨1, 5, [1],
 (.seq (.reg [⟨[], [], .cs .v (.b false)⟩] [some 0, none, none, none, none])
 ((.seq (.reg [⟨[], [], .nop⟩, ⟨[], [], .ca 20 [(.e 0)] 1⟩, ⟨[], [], .nop⟩] [some 0, none, some 5, none, none])
 ((.seq (.reg [⟨[], [], .nop⟩, ⟨[], [], .ca 21 [(.e 0)] 1⟩, ⟨[], [], .nop⟩] [none, none, some 2, some 5, none])
 ((.seq ((.seq (.reg [⟨[], [], .nop⟩, ⟨[], [], .nop⟩, ⟨[], [], .bi .neq (.e 3) (.e 2)⟩] [none, none, none, none, some 5])
 (.cond 4 ((.seq (.reg [⟨[], [], .cs .v (.b false)⟩] [none, some 5, none, none, none])
  (.ret))) (.skip))))
 ((.seq (.reg [⟨[], [], .cs .v (.b true)⟩] [none, some 5, none, none, none])
 (.ret))))))))))⟩

/-- loop.example/g03401/spec.CountWords -/
def ir_spec_CountWords : IF := ⟨2, 4, [2],
 (.seq (.reg [⟨[], [], .cs .v (.n 0)⟩] [some 0, some 1, none, none])
 ((.seq ((.seq (.reg [⟨[], [], .nop⟩, ⟨[], [], .ca 22 [(.e 0), (.c (.n 0)), (.c (.n 15))] 1⟩, ⟨[], [], .un .not (.e 4)⟩, ⟨[], [], .nop⟩, ⟨[], [(5, false)], .cy (.e 1)⟩, ⟨[], [(5, false)], .ca 22 [(.e 6), (.c (.n 0)), (.c (.n 15))] 1⟩, ⟨[], [(5, false)], .un .not (.e 7)⟩, ⟨[], [], .pk (.e 5) (.c (.b true)) (.e 8)⟩] [some 0, some 1, none, some 9])
 (.cond 3 ((.seq (.reg [⟨[], [], .cs .v (.n (-1))⟩] [none, none, some 4, none])
  (.ret))) (.skip))))
 ((.seq (.reg [⟨[], [], .nop⟩, ⟨[], [], .nop⟩, ⟨[], [], .bi .add (.e 0) (.e 1)⟩, ⟨[], [], .nop⟩, ⟨[], [], .ca 24 [(.e 4), (.e 0)] 1⟩, ⟨[], [], .nop⟩] [none, none, some 5, none])
 (.ret))))))⟩

/-- loop.example/g03401/impl.CountWords -/
def ir_impl_CountWords : IF := ⟨2, 4, [2],
 (.seq (.reg [⟨[], [], .cs .v (.n 0)⟩] [some 0, some 1, none, none])
 ((.seq ((.seq (.reg [⟨[], [], .nop⟩, ⟨[], [], .ca 23 [(.e 0), (.c (.n 0)), (.c (.n 15))] 1⟩, ⟨[], [], .un .not (.e 4)⟩, ⟨[], [], .nop⟩, ⟨[], [(5, false)], .cy (.e 1)⟩, ⟨[], [(5, false)], .ca 23 [(.e 6), (.c (.n 0)), (.c (.n 15))] 1⟩, ⟨[], [(5, false)], .un .not (.e 7)⟩, ⟨[], [], .pk (.e 5) (.c (.b true)) (.e 8)⟩] [some 0, some 1, none, some 9])
 (.cond 3 ((.seq (.reg [⟨[], [], .cs .v (.n (-1))⟩] [none, none, some 4, none])
  (.ret))) (.skip))))
 ((.seq (.reg [⟨[], [], .nop⟩, ⟨[], [], .nop⟩, ⟨[], [], .bi .add (.e 0) (.e 1)⟩, ⟨[], [], .nop⟩, ⟨[], [], .ca 25 [(.e 4), (.e 0)] 1⟩, ⟨[], [], .nop⟩] [none, none, some 5, none])
 (.ret))))))⟩

/-- loop.example/g03401/spec.CountWithin -/
def ir_spec_CountWithin : IF := ⟨2, 11, [2],
 (.seq (.reg [⟨[], [], .cs .v (.n 0)⟩] [some 0, some 1, none, none, none, none, none, none, none, none, none])
 ((.seq ((.seq (.reg [⟨[], [], .nop⟩, ⟨[], [], .ca 22 [(.e 0), (.c (.n 0)), (.c (.n 14))] 1⟩, ⟨[], [], .un .not (.e 11)⟩, ⟨[], [], .nop⟩, ⟨[], [(12, false)], .cy (.e 1)⟩, ⟨[], [(12, false)], .ca 22 [(.e 13), (.c (.n 0)), (.c (.n 15))] 1⟩, ⟨[], [(12, false)], .un .not (.e 14)⟩, ⟨[], [], .pk (.e 12) (.c (.b true)) (.e 15)⟩] [some 0, some 1, none, none, none, none, none, some 16, none, none, none])
 (.cond 7 ((.seq (.reg [⟨[], [], .cs .v (.n (-1))⟩] [none, none, some 11, none, none, none, none, none, none, none, none])
  (.ret))) (.skip))))
 ((.seq (.reg [⟨[], [], .cs .v (.n 0)⟩] [some 0, some 1, none, some 11, none, none, none, none, none, none, none])
 ((.seq ((.seq (.reg [⟨[], [], .nop⟩, ⟨[], [], .un .neg (.e 0)⟩, ⟨[], [], .bi .sub (.e 11) (.c (.n 1))⟩, ⟨[], [], .nop⟩] [some 0, some 1, none, some 3, some 12, none, none, none, none, none, none])
 (.block 0 (.loop ((.seq ((.seq (.reg [⟨[], [], .nop⟩, ⟨[], [], .nop⟩, ⟨[], [], .bi .add (.e 0) (.c (.n 1))⟩, ⟨[], [], .bi .leq (.e 4) (.e 11)⟩] [some 0, some 1, none, some 3, some 4, none, none, none, some 12, none, none])
   (.cond 8 (.skip) (.exit 0))))
   ((.seq (.block 1 ((.seq (.reg [⟨[], [], .nop⟩, ⟨[], [], .nop⟩, ⟨[], [], .nop⟩, ⟨[], [], .bi .add (.e 1) (.c (.n 2))⟩, ⟨[], [], .bi .mul (.e 4) (.e 11)⟩, ⟨[], [], .bi .add (.e 0) (.e 12)⟩, ⟨[], [], .nop⟩] [some 0, some 1, none, some 3, some 4, some 13, none, none, none, none, none])
    ((.seq (.reg [⟨[], [], .nop⟩, ⟨[], [], .nop⟩, ⟨[], [], .nop⟩, ⟨[], [], .bi .add (.e 1) (.c (.n 2))⟩, ⟨[], [], .bi .mul (.e 4) (.e 11)⟩, ⟨[], [], .bi .add (.e 0) (.e 12)⟩, ⟨[], [], .bi .add (.e 13) (.c (.n 1))⟩, ⟨[], [], .nop⟩] [some 0, some 1, none, some 3, some 4, some 5, some 14, none, none, none, none])
    ((.seq ((.seq (.reg [⟨[], [], .nop⟩, ⟨[], [], .nop⟩, ⟨[], [], .bi .mul (.c (.n 2)) (.e 0)⟩, ⟨[], [], .ca 22 [(.e 5), (.c (.n 0)), (.e 11)] 1⟩] [some 0, some 1, none, some 3, some 4, some 5, some 6, none, none, some 12, none])
    (.cond 9 (.reg [⟨[], [], .nop⟩, ⟨[], [], .nop⟩, ⟨[], [], .bi .mul (.c (.n 2)) (.e 0)⟩, ⟨[], [], .nop⟩, ⟨[], [], .ca 24 [(.e 11), (.e 5)] 1⟩, ⟨[], [], .bi .add (.e 3) (.e 12)⟩, ⟨[], [], .nop⟩] [some 0, some 1, none, some 13, some 4, none, some 6, none, none, none, none]) (.skip))))
    ((.seq (.reg [⟨[], [], .nop⟩, ⟨[], [], .nop⟩, ⟨[], [], .bi .mul (.c (.n 2)) (.e 0)⟩, ⟨[], [], .ca 22 [(.e 6), (.c (.n 0)), (.e 11)] 1⟩] [some 0, some 1, none, some 3, some 4, none, some 6, none, none, none, some 12])
    (.cond 10 (.reg [⟨[], [], .nop⟩, ⟨[], [], .nop⟩, ⟨[], [], .bi .mul (.c (.n 2)) (.e 0)⟩, ⟨[], [], .nop⟩, ⟨[], [], .ca 24 [(.e 11), (.e 6)] 1⟩, ⟨[], [], .bi .sub (.e 3) (.e 12)⟩, ⟨[], [], .nop⟩] [some 0, some 1, none, some 13, some 4, none, none, none, none, none, none]) (.skip)))))))))))
   (.reg [⟨[], [], .nop⟩, ⟨[], [], .bi .add (.e 4) (.c (.n 1))⟩, ⟨[], [], .nop⟩] [some 0, some 1, none, some 3, some 11, none, none, none, none, none, none])))))))))
 ((.seq (.reg [⟨[], [], .nop⟩, ⟨[], [], .nop⟩] [none, none, some 3, none, none, none, none, none, none, none, none])
 (.ret))))))))))⟩

/-- loop.example/g03401/spec.BallotByReflection -/
def ir_spec_BallotByReflection : IF := ⟨2, 5, [2],
 (.seq (.reg [⟨[], [], .cs .v (.n 0)⟩] [some 0, some 1, none, none, none])
 ((.seq ((.seq (.reg [⟨[], [], .nop⟩, ⟨[], [], .ca 22 [(.e 0), (.c (.n 0)), (.c (.n 14))] 1⟩, ⟨[], [], .un .not (.e 5)⟩, ⟨[], [], .nop⟩, ⟨[], [(6, false)], .cy (.e 1)⟩, ⟨[], [(6, false)], .cy (.e 0)⟩, ⟨[], [(6, false)], .ca 22 [(.e 7), (.e 8), (.c (.n 14))] 1⟩, ⟨[], [(6, false)], .un .not (.e 9)⟩, ⟨[], [], .pk (.e 6) (.c (.b true)) (.e 10)⟩] [some 0, some 1, none, some 11, none])
 (.cond 3 ((.seq (.reg [⟨[], [], .cs .v (.n 0)⟩] [none, none, some 5, none, none])
  (.ret))) (.skip))))
 ((.seq ((.seq (.reg [⟨[], [], .nop⟩, ⟨[], [], .bi .eql (.e 0) (.c (.n 0))⟩] [some 0, some 1, none, none, some 5])
 (.cond 4 ((.seq (.reg [⟨[], [], .cs .v (.n 1)⟩] [none, none, some 5, none, none])
  (.ret))) (.skip))))
 ((.seq (.reg [⟨[], [], .nop⟩, ⟨[], [], .nop⟩, ⟨[], [], .ca 9 [(.e 0), (.e 1)] 1⟩, ⟨[], [], .nop⟩, ⟨[], [], .bi .sub (.e 0) (.c (.n 1))⟩, ⟨[], [], .nop⟩, ⟨[], [], .bi .add (.e 1) (.c (.n 1))⟩, ⟨[], [], .ca 9 [(.e 6), (.e 7)] 1⟩, ⟨[], [], .bi .sub (.e 5) (.e 8)⟩, ⟨[], [], .nop⟩] [none, none, some 9, none, none])
 (.ret))))))))⟩

/-- loop.example/g03401/impl.BallotByReflection -/
def ir_impl_BallotByReflection : IF := ⟨2, 4, [2],
 (.seq (.reg [⟨[], [], .cs .v (.n 0)⟩] [some 0, some 1, none, none])
 ((.seq ((.seq (.reg [⟨[], [], .nop⟩, ⟨[], [], .ca 23 [(.e 0), (.c (.n 0)), (.c (.n 14))] 1⟩, ⟨[], [], .un .not (.e 4)⟩, ⟨[], [], .nop⟩, ⟨[], [(5, false)], .cy (.e 1)⟩, ⟨[], [(5, false)], .cy (.e 0)⟩, ⟨[], [(5, false)], .ca 23 [(.e 6), (.e 7), (.c (.n 14))] 1⟩, ⟨[], [(5, false)], .un .not (.e 8)⟩, ⟨[], [], .pk (.e 5) (.c (.b true)) (.e 9)⟩] [some 0, some 1, none, some 10])
 (.cond 3 ((.seq (.reg [⟨[], [], .cs .v (.n 0)⟩] [none, none, some 4, none])
  (.ret))) (.skip))))
 ((.seq (.reg [⟨[], [], .nop⟩, ⟨[], [], .nop⟩, ⟨[], [], .ca 27 [(.e 0), (.e 1)] 1⟩, ⟨[], [], .nop⟩] [none, none, some 4, none])
 (.ret))))))⟩

/-- loop.example/g03401/spec.CountBad -/
def ir_spec_CountBad : IF := ⟨1, 4, [1],
 (.seq (.reg [⟨[], [], .cs .v (.n 0)⟩] [some 0, none, none, none])
 ((.seq ((.seq (.reg [⟨[], [], .nop⟩, ⟨[], [], .ca 22 [(.e 0), (.c (.n 0)), (.c (.n 14))] 1⟩, ⟨[], [], .un .not (.e 4)⟩] [some 0, none, some 5, none])
 (.cond 2 ((.seq (.reg [⟨[], [], .cs .v (.n (-1))⟩] [none, some 4, none, none])
  (.ret))) (.skip))))
 ((.seq ((.seq (.reg [⟨[], [], .nop⟩, ⟨[], [], .bi .eql (.e 0) (.c (.n 0))⟩] [some 0, none, none, some 4])
 (.cond 3 ((.seq (.reg [⟨[], [], .cs .v (.n 0)⟩] [none, some 4, none, none])
  (.ret))) (.skip))))
 ((.seq (.reg [⟨[], [], .nop⟩, ⟨[], [], .bi .sub (.e 0) (.c (.n 1))⟩, ⟨[], [], .nop⟩, ⟨[], [], .bi .add (.e 0) (.c (.n 1))⟩, ⟨[], [], .ca 9 [(.e 4), (.e 5)] 1⟩, ⟨[], [], .nop⟩] [none, some 6, none, none])
 (.ret))))))))⟩

/-- loop.example/g03401/impl.CountBad -/
def ir_impl_CountBad : IF := ⟨1, 3, [1],
 (.seq (.reg [⟨[], [], .cs .v (.n 0)⟩] [some 0, none, none])
 ((.seq ((.seq (.reg [⟨[], [], .nop⟩, ⟨[], [], .ca 23 [(.e 0), (.c (.n 0)), (.c (.n 14))] 1⟩, ⟨[], [], .un .not (.e 3)⟩] [some 0, none, some 4])
 (.cond 2 ((.seq (.reg [⟨[], [], .cs .v (.n (-1))⟩] [none, some 3, none])
  (.ret))) (.skip))))
 ((.seq (.reg [⟨[], [], .nop⟩, ⟨[], [], .nop⟩, ⟨[], [], .ca 10 [(.e 0), (.e 0)] 1⟩, ⟨[], [], .nop⟩, ⟨[], [], .ca 28 [(.e 0)] 1⟩, ⟨[], [], .bi .sub (.e 3) (.e 4)⟩, ⟨[], [], .nop⟩] [none, some 5, none])
 (.ret))))))⟩

/-- loop.example/g03401/spec.l1In -/
def ir_spec_l1In : IF := ⟨3, 4, [3],
 (.seq (.reg [⟨[], [], .cs .v (.b false)⟩] [some 0, some 1, some 2, none])
 ((.seq (.reg [⟨[], [], .nop⟩, ⟨[], [], .nop⟩, ⟨[], [], .bi .geq (.e 0) (.e 1)⟩, ⟨[], [], .nop⟩, ⟨[], [(4, true)], .cy (.e 0)⟩, ⟨[], [(4, true)], .cy (.e 2)⟩, ⟨[], [(4, true)], .bi .leq (.e 5) (.e 6)⟩, ⟨[], [], .pk (.e 4) (.e 7) (.c (.b false))⟩, ⟨[], [], .nop⟩] [none, none, none, some 8])
 (.ret))))⟩

/-- loop.example/g03401/impl.within -/
def ir_impl_within : IF := ⟨3, 4, [3],
 (.seq (.reg [⟨[], [], .cs .v (.b false)⟩] [some 0, some 1, some 2, none])
 ((.seq (.reg [⟨[], [], .nop⟩, ⟨[], [], .nop⟩, ⟨[], [], .bi .geq (.e 0) (.e 1)⟩, ⟨[], [], .nop⟩, ⟨[], [(4, true)], .cy (.e 0)⟩, ⟨[], [(4, true)], .cy (.e 2)⟩, ⟨[], [(4, true)], .bi .leq (.e 5) (.e 6)⟩, ⟨[], [], .pk (.e 4) (.e 7) (.c (.b false))⟩, ⟨[], [], .nop⟩] [none, none, none, some 8])
 (.ret))))⟩

/-- loop.example/g03401/spec.l3Binomial -/
def ir_spec_l3Binomial : IF := ⟨2, 6, [2],
 (.seq (.reg [⟨[], [], .cs .v (.n 0)⟩] [some 0, some 1, none, none, none, none])
 ((.seq (.reg [⟨[], [], .cs .v (.n 1)⟩] [some 0, some 1, none, some 6, none, none])
 ((.seq ((.seq (.reg [⟨[], [], .cs .v (.n 0)⟩] [some 0, some 1, none, some 3, some 6, none])
 (.block 0 (.loop ((.seq ((.seq (.reg [⟨[], [], .nop⟩, ⟨[], [], .nop⟩, ⟨[], [], .bi .lss (.e 4) (.e 1)⟩] [some 0, some 1, none, some 3, some 4, some 6])
   (.cond 5 (.skip) (.exit 0))))
   ((.seq (.block 1 (.reg [⟨[], [], .nop⟩, ⟨[], [], .nop⟩, ⟨[], [], .nop⟩, ⟨[], [], .bi .sub (.e 0) (.e 4)⟩, ⟨[], [], .bi .mul (.e 3) (.e 6)⟩, ⟨[], [], .nop⟩, ⟨[], [], .bi .add (.e 4) (.c (.n 1))⟩, ⟨[], [], .bi .quo (.e 7) (.e 8)⟩, ⟨[], [], .nop⟩] [some 0, some 1, none, some 9, some 4, none]))
   (.reg [⟨[], [], .nop⟩, ⟨[], [], .bi .add (.e 4) (.c (.n 1))⟩, ⟨[], [], .nop⟩] [some 0, some 1, none, some 3, some 6, none])))))))))
 ((.seq (.reg [⟨[], [], .nop⟩, ⟨[], [], .nop⟩] [none, none, some 3, none, none, none])
 (.ret))))))))⟩

/-- loop.example/g03401/impl.choose -/
def ir_impl_choose : IF := ⟨2, 7, [2],
 (.seq (.reg [⟨[], [], .cs .v (.n 0)⟩] [some 0, some 1, none, none, none, none, none])
 ((.seq ((.seq (.reg [⟨[], [], .nop⟩, ⟨[], [], .bi .lss (.e 1) (.c (.n 0))⟩, ⟨[], [], .nop⟩, ⟨[], [(7, false)], .cy (.e 1)⟩, ⟨[], [(7, false)], .cy (.e 0)⟩, ⟨[], [(7, false)], .bi .gtr (.e 8) (.e 9)⟩, ⟨[], [], .pk (.e 7) (.c (.b true)) (.e 10)⟩] [some 0, some 1, none, none, none, some 11, none])
 (.cond 5 ((.seq (.reg [⟨[], [], .cs .v (.n 0)⟩] [none, none, some 7, none, none, none, none])
  (.ret))) (.skip))))
 ((.seq (.reg [⟨[], [], .cs .v (.n 1)⟩] [some 0, some 1, none, some 7, none, none, none])
 ((.seq ((.seq (.reg [⟨[], [], .cs .v (.n 1)⟩] [some 0, some 1, none, some 3, some 7, none, none])
 (.block 0 (.loop ((.seq ((.seq (.reg [⟨[], [], .nop⟩, ⟨[], [], .nop⟩, ⟨[], [], .bi .leq (.e 4) (.e 1)⟩] [some 0, some 1, none, some 3, some 4, none, some 7])
   (.cond 6 (.skip) (.exit 0))))
   ((.seq (.block 1 (.reg [⟨[], [], .nop⟩, ⟨[], [], .nop⟩, ⟨[], [], .nop⟩, ⟨[], [], .bi .sub (.e 0) (.e 1)⟩, ⟨[], [], .nop⟩, ⟨[], [], .bi .add (.e 7) (.e 4)⟩, ⟨[], [], .bi .mul (.e 3) (.e 8)⟩, ⟨[], [], .nop⟩, ⟨[], [], .bi .quo (.e 9) (.e 4)⟩, ⟨[], [], .nop⟩] [some 0, some 1, none, some 10, some 4, none, none]))
   (.reg [⟨[], [], .nop⟩, ⟨[], [], .bi .add (.e 4) (.c (.n 1))⟩, ⟨[], [], .nop⟩] [some 0, some 1, none, some 3, some 7, none, none])))))))))
 ((.seq (.reg [⟨[], [], .nop⟩, ⟨[], [], .nop⟩] [none, none, some 3, none, none, none, none])
 (.ret))))))))))⟩

/-- loop.example/g03401/impl.CatalanNumber -/
def ir_impl_CatalanNumber : IF := ⟨1, 3, [1],
 (.seq (.reg [⟨[], [], .cs .v (.n 0)⟩] [some 0, none, none])
 ((.seq ((.seq (.reg [⟨[], [], .nop⟩, ⟨[], [], .ca 23 [(.e 0), (.c (.n 0)), (.c (.n 15))] 1⟩, ⟨[], [], .un .not (.e 3)⟩] [some 0, none, some 4])
 (.cond 2 ((.seq (.reg [⟨[], [], .cs .v (.n (-1))⟩] [none, some 3, none])
  (.ret))) (.skip))))
 ((.seq (.reg [⟨[], [], .nop⟩, ⟨[], [], .nop⟩, ⟨[], [], .ca 27 [(.e 0), (.e 0)] 1⟩, ⟨[], [], .nop⟩] [none, some 3, none])
 (.ret))))))⟩

end Go.Cat
