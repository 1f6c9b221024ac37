import Derived.Test.YtnlhpohgpmmiiaaCatFun
namespace Go.Cat
/-- loop.example/g03401/laws.FnExactClaimWord -/
def ir_laws_FnExactClaimWord : IF := ⟨1, 5, [1],
 (.seq (.reg [⟨[], [], .cs .v (.b false)⟩] [some 0, none, none, none, none])
 ((.seq (.reg [⟨[], [], .nop⟩, ⟨[], [], .ca 7 [(.e 0)] 1⟩, ⟨[], [], .nop⟩] [some 0, none, some 5, none, none])
 ((.seq (.reg [⟨[], [], .nop⟩, ⟨[], [], .ca 8 [(.e 0)] 1⟩, ⟨[], [], .nop⟩] [none, none, some 2, some 5, none])
 ((.seq ((.seq (.reg [⟨[], [], .nop⟩, ⟨[], [], .nop⟩, ⟨[], [], .bi .neq (.e 3) (.e 2)⟩] [none, none, none, none, some 5])
 (.cond 4 ((.seq (.reg [⟨[], [], .cs .v (.b false)⟩] [none, some 5, none, none, none])
  (.ret))) (.skip))))
 ((.seq (.reg [⟨[], [], .cs .v (.b true)⟩] [none, some 5, none, none, none])
 (.ret))))))))))⟩

/-- loop.example/g03401/laws.FnExactCountWords -/
def ir_laws_FnExactCountWords : IF := ⟨2, 6, [2],
 (.seq (.reg [⟨[], [], .cs .v (.b false)⟩] [some 0, some 1, none, none, none, none])
 ((.seq (.reg [⟨[], [], .nop⟩, ⟨[], [], .nop⟩, ⟨[], [], .ca 9 [(.e 0), (.e 1)] 1⟩, ⟨[], [], .nop⟩] [some 0, some 1, none, some 6, none, none])
 ((.seq (.reg [⟨[], [], .nop⟩, ⟨[], [], .nop⟩, ⟨[], [], .ca 10 [(.e 0), (.e 1)] 1⟩, ⟨[], [], .nop⟩] [none, none, none, some 3, some 6, none])
 ((.seq ((.seq (.reg [⟨[], [], .nop⟩, ⟨[], [], .nop⟩, ⟨[], [], .bi .neq (.e 4) (.e 3)⟩] [none, none, none, none, none, some 6])
 (.cond 5 ((.seq (.reg [⟨[], [], .cs .v (.b false)⟩] [none, none, some 6, none, none, none])
  (.ret))) (.skip))))
 ((.seq (.reg [⟨[], [], .cs .v (.b true)⟩] [none, none, some 6, none, none, none])
 (.ret))))))))))⟩

/-- loop.example/g03401/laws.FnExactCountWithin -/
def ir_laws_FnExactCountWithin : IF := ⟨2, 6, [2],
 (.seq (.reg [⟨[], [], .cs .v (.b false)⟩] [some 0, some 1, none, none, none, none])
 ((.seq (.reg [⟨[], [], .nop⟩, ⟨[], [], .nop⟩, ⟨[], [], .ca 11 [(.e 0), (.e 1)] 1⟩, ⟨[], [], .nop⟩] [some 0, some 1, none, some 6, none, none])
 ((.seq (.reg [⟨[], [], .nop⟩, ⟨[], [], .nop⟩, ⟨[], [], .ca 12 [(.e 0), (.e 1)] 1⟩, ⟨[], [], .nop⟩] [none, none, none, some 3, some 6, none])
 ((.seq ((.seq (.reg [⟨[], [], .nop⟩, ⟨[], [], .nop⟩, ⟨[], [], .bi .neq (.e 4) (.e 3)⟩] [none, none, none, none, none, some 6])
 (.cond 5 ((.seq (.reg [⟨[], [], .cs .v (.b false)⟩] [none, none, some 6, none, none, none])
  (.ret))) (.skip))))
 ((.seq (.reg [⟨[], [], .cs .v (.b true)⟩] [none, none, some 6, none, none, none])
 (.ret))))))))))⟩

/-- loop.example/g03401/laws.FnExactKindNames -/
def ir_laws_FnExactKindNames : IF := ⟨0, 12, [0],
 (.seq (.reg [⟨[], [], .cs .v (.b false)⟩] [none, none, none, none, none, none, none, none, none, none, none, none])
 ((.seq (.reg [⟨[], [], .ca 13 [] 1⟩, ⟨[], [], .nop⟩] [none, some 12, none, none, none, none, none, none, none, none, none, none])
 ((.seq (.reg [⟨[], [], .ca 14 [] 1⟩, ⟨[], [], .nop⟩] [none, some 1, some 12, none, none, none, none, none, none, none, none, none])
 ((.seq ((.seq (.reg [⟨[], [], .nop⟩, ⟨[], [], .nop⟩, ⟨[], [], .ca 15 [(.e 2), (.e 1)] 1⟩, ⟨[], [], .un .not (.e 12)⟩] [none, some 1, some 2, none, none, none, some 13, none, none, none, none, none])
 (.cond 6 ((.seq (.reg [⟨[], [], .cs .v (.b false)⟩] [some 12, none, none, none, none, none, none, none, none, none, none, none])
  (.ret))) (.skip))))
 ((.seq (.reg [⟨[], [], .cs .v (.n 1)⟩] [none, some 1, some 2, some 12, none, none, none, none, none, none, none, none])
 ((.seq (.reg [⟨[], [], .nop⟩, ⟨[], [], .nop⟩, ⟨[], [], .ca 16 [(.e 2), (.e 3)] 1⟩, ⟨[], [], .nop⟩] [none, some 1, some 2, some 12, none, none, none, none, none, none, none, none])
 ((.seq (.reg [⟨[], [], .cs .v (.n 1)⟩] [none, some 1, some 2, some 3, some 12, none, none, none, none, none, none, none])
 ((.seq (.reg [⟨[], [], .nop⟩, ⟨[], [], .nop⟩, ⟨[], [], .ca 17 [(.e 2), (.e 4)] 1⟩, ⟨[], [], .nop⟩] [none, some 1, some 2, some 3, some 12, none, none, none, none, none, none, none])
 ((.seq ((.seq (.reg [⟨[], [], .nop⟩, ⟨[], [], .bi .lss (.e 4) (.c (.n 0))⟩] [none, some 1, some 2, some 3, some 4, none, none, some 12, none, none, none, none])
 (.cond 7 ((.seq (.reg [⟨[], [], .cs .v (.b false)⟩] [some 12, none, none, none, none, none, none, none, none, none, none, none])
  (.ret))) (.skip))))
 ((.seq ((.seq (.reg [⟨[], [], .nop⟩, ⟨[], [], .nop⟩, ⟨[], [], .bi .neq (.e 4) (.e 3)⟩] [none, some 1, some 2, some 3, none, none, none, none, some 12, none, none, none])
 (.cond 8 ((.seq (.reg [⟨[], [], .cs .v (.b false)⟩] [some 12, none, none, none, none, none, none, none, none, none, none, none])
  (.ret))) (.skip))))
 ((.seq (.reg [⟨[], [], .ca 14 [] 1⟩, ⟨[], [], .nop⟩] [none, some 1, some 2, some 3, none, some 12, none, none, none, none, none, none])
 ((.seq ((.seq (.reg [⟨[], [], .nop⟩, ⟨[], [], .nop⟩, ⟨[], [], .ca 15 [(.e 5), (.e 1)] 1⟩, ⟨[], [], .un .not (.e 12)⟩] [none, none, some 2, some 3, none, none, none, none, none, some 13, none, none])
 (.cond 9 ((.seq (.reg [⟨[], [], .cs .v (.b false)⟩] [some 12, none, none, none, none, none, none, none, none, none, none, none])
  (.ret))) (.skip))))
 ((.seq (.reg [⟨[], [], .cs .v (.n 1)⟩] [none, none, some 2, some 3, some 12, none, none, none, none, none, none, none])
 ((.seq (.reg [⟨[], [], .nop⟩, ⟨[], [], .nop⟩, ⟨[], [], .ca 17 [(.e 2), (.e 4)] 1⟩, ⟨[], [], .nop⟩] [none, none, none, some 3, some 12, none, none, none, none, none, none, none])
 ((.seq ((.seq (.reg [⟨[], [], .nop⟩, ⟨[], [], .bi .lss (.e 4) (.c (.n 0))⟩] [none, none, none, some 3, some 4, none, none, none, none, none, some 12, none])
 (.cond 10 ((.seq (.reg [⟨[], [], .cs .v (.b false)⟩] [some 12, none, none, none, none, none, none, none, none, none, none, none])
  (.ret))) (.skip))))
 ((.seq ((.seq (.reg [⟨[], [], .nop⟩, ⟨[], [], .nop⟩, ⟨[], [], .bi .neq (.e 4) (.e 3)⟩] [none, none, none, none, none, none, none, none, none, none, none, some 12])
 (.cond 11 ((.seq (.reg [⟨[], [], .cs .v (.b false)⟩] [some 12, none, none, none, none, none, none, none, none, none, none, none])
  (.ret))) (.skip))))
 ((.seq (.reg [⟨[], [], .cs .v (.b true)⟩] [some 12, none, none, none, none, none, none, none, none, none, none, none])
 (.ret))))))))))))))))))))))))))))))))))⟩

/-- loop.example/g03401/laws.FnExactBallotByReflection -/
def ir_laws_FnExactBallotByReflection : IF := ⟨2, 6, [2],
 (.seq (.reg [⟨[], [], .cs .v (.b false)⟩] [some 0, some 1, none, none, none, none])
 ((.seq (.reg [⟨[], [], .nop⟩, ⟨[], [], .nop⟩, ⟨[], [], .ca 18 [(.e 0), (.e 1)] 1⟩, ⟨[], [], .nop⟩] [some 0, some 1, none, some 6, none, none])
 ((.seq (.reg [⟨[], [], .nop⟩, ⟨[], [], .nop⟩, ⟨[], [], .ca 19 [(.e 0), (.e 1)] 1⟩, ⟨[], [], .nop⟩] [none, none, none, some 3, some 6, none])
 ((.seq ((.seq (.reg [⟨[], [], .nop⟩, ⟨[], [], .nop⟩, ⟨[], [], .bi .neq (.e 4) (.e 3)⟩] [none, none, none, none, none, some 6])
 (.cond 5 ((.seq (.reg [⟨[], [], .cs .v (.b false)⟩] [none, none, some 6, none, none, none])
  (.ret))) (.skip))))
 ((.seq (.reg [⟨[], [], .cs .v (.b true)⟩] [none, none, some 6, none, none, none])
 (.ret))))))))))⟩

/-- loop.example/g03401/laws.FnExactCountBad -/
def ir_laws_FnExactCountBad : IF := ⟨1, 5, [1],
 (.seq (.reg [⟨[], [], .cs .v (.b false)⟩] [some 0, none, none, none, none])
 ((.seq (.reg [⟨[], [], .nop⟩, ⟨[], [], .ca 20 [(.e 0)] 1⟩, ⟨[], [], .nop⟩] [some 0, none, some 5, none, none])
 ((.seq (.reg [⟨[], [], .nop⟩, ⟨[], [], .ca 21 [(.e 0)] 1⟩, ⟨[], [], .nop⟩] [none, none, some 2, some 5, none])
 ((.seq ((.seq (.reg [⟨[], [], .nop⟩, ⟨[], [], .nop⟩, ⟨[], [], .bi .neq (.e 3) (.e 2)⟩] [none, none, none, none, some 5])
 (.cond 4 ((.seq (.reg [⟨[], [], .cs .v (.b false)⟩] [none, some 5, none, none, none])
  (.ret))) (.skip))))
 ((.seq (.reg [⟨[], [], .cs .v (.b true)⟩] [none, some 5, none, none, none])
 (.ret))))))))))⟩

/-- loop.example/g03401/spec.ClaimWord -/
def ir_spec_ClaimWord : IF := ⟨1, 3, [1],
 (.seq (.reg [⟨[], [], .cs .v (.s [])⟩] [some 0, none, none])
 ((.seq ((.seq (.reg [⟨[], [], .nop⟩, ⟨[], [], .ca 22 [(.e 0), (.c (.n 1)), (.c (.n 6))] 1⟩, ⟨[], [], .un .not (.e 3)⟩] [some 0, none, some 4])
 (.cond 2 ((.seq (.reg [⟨[], [], .cs .v (.s [])⟩] [none, some 3, none])
  (.ret))) (.skip))))
 ((.seq (.reg [⟨[], [], .li (.o .v) [(.c (.s [98, 101, 108, 111, 119])), (.c (.s [100, 105, 115, 116, 97, 110, 99, 101])), (.c (.s [115, 111, 114, 116, 101, 100])), (.c (.s [117, 110, 115, 111, 114, 116, 101, 100])), (.c (.s [102, 114, 105, 101, 122, 101])), (.c (.s [109, 101, 97, 110, 100, 101, 114]))]⟩, ⟨[], [], .nop⟩, ⟨[], [], .bi .sub (.e 0) (.c (.n 1))⟩, ⟨[], [], .ix (.e 3) [] (.e 4)⟩, ⟨[], [], .nop⟩, ⟨[], [], .nop⟩] [none, some 5, none])
 (.ret))))))⟩

/-- loop.example/g03401/impl.ClaimWord -/
def ir_impl_ClaimWord : IF := ⟨1, 3, [1],
 (.seq (.reg [⟨[], [], .cs .v (.s [])⟩] [some 0, none, none])
 ((.seq ((.seq (.reg [⟨[], [], .nop⟩, ⟨[], [], .ca 23 [(.e 0), (.c (.n 1)), (.c (.n 6))] 1⟩, ⟨[], [], .un .not (.e 3)⟩] [some 0, none, some 4])
 (.cond 2 ((.seq (.reg [⟨[], [], .cs .v (.s [])⟩] [none, some 3, none])
  (.ret))) (.skip))))
 ((.seq (.reg [⟨[], [], .li (.o .v) [(.c (.s [98, 101, 108, 111, 119])), (.c (.s [100, 105, 115, 116, 97, 110, 99, 101])), (.c (.s [115, 111, 114, 116, 101, 100])), (.c (.s [117, 110, 115, 111, 114, 116, 101, 100])), (.c (.s [102, 114, 105, 101, 122, 101])), (.c (.s [109, 101, 97, 110, 100, 101, 114]))]⟩, ⟨[], [], .nop⟩, ⟨[], [], .bi .sub (.e 0) (.c (.n 1))⟩, ⟨[], [], .ix (.e 3) [] (.e 4)⟩, ⟨[], [], .nop⟩, ⟨[], [], .nop⟩] [none, some 5, none])
 (.ret))))))⟩

/-- loop.example/g03401/spec.CountWords -/
def ir_spec_CountWords : IF := ⟨2, 4, [2],
 (.seq (.reg [⟨[], [], .cs .v (.n 0)⟩] [some 0, some 1, none, none])
 ((.seq ((.seq (.reg [⟨[], [], .nop⟩, ⟨[], [], .ca 22 [(.e 0), (.c (.n 0)), (.c (.n 15))] 1⟩, ⟨[], [], .un .not (.e 4)⟩, ⟨[], [], .nop⟩, ⟨[], [(5, false)], .cy (.e 1)⟩, ⟨[], [(5, false)], .ca 22 [(.e 6), (.c (.n 0)), (.c (.n 15))] 1⟩, ⟨[], [(5, false)], .un .not (.e 7)⟩, ⟨[], [], .pk (.e 5) (.c (.b true)) (.e 8)⟩] [some 0, some 1, none, some 9])
 (.cond 3 ((.seq (.reg [⟨[], [], .cs .v (.n (-1))⟩] [none, none, some 4, none])
  (.ret))) (.skip))))
 ((.seq (.reg [⟨[], [], .nop⟩, ⟨[], [], .nop⟩, ⟨[], [], .bi .add (.e 0) (.e 1)⟩, ⟨[], [], .nop⟩, ⟨[], [], .ca 24 [(.e 4), (.e 0)] 1⟩, ⟨[], [], .nop⟩] [none, none, some 5, none])
 (.ret))))))⟩

/-- loop.example/g03401/impl.CountWords -/
def ir_impl_CountWords : IF := ⟨2, 4, [2],
 (.seq (.reg [⟨[], [], .cs .v (.n 0)⟩] [some 0, some 1, none, none])
 ((.seq ((.seq (.reg [⟨[], [], .nop⟩, ⟨[], [], .ca 23 [(.e 0), (.c (.n 0)), (.c (.n 15))] 1⟩, ⟨[], [], .un .not (.e 4)⟩, ⟨[], [], .nop⟩, ⟨[], [(5, false)], .cy (.e 1)⟩, ⟨[], [(5, false)], .ca 23 [(.e 6), (.c (.n 0)), (.c (.n 15))] 1⟩, ⟨[], [(5, false)], .un .not (.e 7)⟩, ⟨[], [], .pk (.e 5) (.c (.b true)) (.e 8)⟩] [some 0, some 1, none, some 9])
 (.cond 3 ((.seq (.reg [⟨[], [], .cs .v (.n (-1))⟩] [none, none, some 4, none])
  (.ret))) (.skip))))
 ((.seq (.reg [⟨[], [], .nop⟩, ⟨[], [], .nop⟩, ⟨[], [], .bi .add (.e 0) (.e 1)⟩, ⟨[], [], .nop⟩, ⟨[], [], .ca 25 [(.e 4), (.e 0)] 1⟩, ⟨[], [], .nop⟩] [none, none, some 5, none])
 (.ret))))))⟩

/-- loop.example/g03401/spec.CountWithin -/
def ir_spec_CountWithin : IF := ⟨2, 11, [2],
 (.seq (.reg [⟨[], [], .cs .v (.n 0)⟩] [some 0, some 1, none, none, none, none, none, none, none, none, none])
 ((.seq ((.seq (.reg [⟨[], [], .nop⟩, ⟨[], [], .ca 22 [(.e 0), (.c (.n 0)), (.c (.n 14))] 1⟩, ⟨[], [], .un .not (.e 11)⟩, ⟨[], [], .nop⟩, ⟨[], [(12, false)], .cy (.e 1)⟩, ⟨[], [(12, false)], .ca 22 [(.e 13), (.c (.n 0)), (.c (.n 15))] 1⟩, ⟨[], [(12, false)], .un .not (.e 14)⟩, ⟨[], [], .pk (.e 12) (.c (.b true)) (.e 15)⟩] [some 0, some 1, none, none, none, none, none, some 16, none, none, none])
 (.cond 7 ((.seq (.reg [⟨[], [], .cs .v (.n (-1))⟩] [none, none, some 11, none, none, none, none, none, none, none, none])
  (.ret))) (.skip))))
 ((.seq (.reg [⟨[], [], .cs .v (.n 0)⟩] [some 0, some 1, none, some 11, none, none, none, none, none, none, none])
 ((.seq ((.seq (.reg [⟨[], [], .nop⟩, ⟨[], [], .un .neg (.e 0)⟩, ⟨[], [], .bi .sub (.e 11) (.c (.n 1))⟩, ⟨[], [], .nop⟩] [some 0, some 1, none, some 3, some 12, none, none, none, none, none, none])
 (.block 0 (.loop ((.seq ((.seq (.reg [⟨[], [], .nop⟩, ⟨[], [], .nop⟩, ⟨[], [], .bi .add (.e 0) (.c (.n 1))⟩, ⟨[], [], .bi .leq (.e 4) (.e 11)⟩] [some 0, some 1, none, some 3, some 4, none, none, none, some 12, none, none])
   (.cond 8 (.skip) (.exit 0))))
   ((.seq (.block 1 ((.seq (.reg [⟨[], [], .nop⟩, ⟨[], [], .nop⟩, ⟨[], [], .nop⟩, ⟨[], [], .bi .add (.e 1) (.c (.n 2))⟩, ⟨[], [], .bi .mul (.e 4) (.e 11)⟩, ⟨[], [], .bi .add (.e 0) (.e 12)⟩, ⟨[], [], .nop⟩] [some 0, some 1, none, some 3, some 4, some 13, none, none, none, none, none])
    ((.seq (.reg [⟨[], [], .nop⟩, ⟨[], [], .nop⟩, ⟨[], [], .nop⟩, ⟨[], [], .bi .add (.e 1) (.c (.n 2))⟩, ⟨[], [], .bi .mul (.e 4) (.e 11)⟩, ⟨[], [], .bi .add (.e 0) (.e 12)⟩, ⟨[], [], .bi .add (.e 13) (.c (.n 1))⟩, ⟨[], [], .nop⟩] [some 0, some 1, none, some 3, some 4, some 5, some 14, none, none, none, none])
    ((.seq ((.seq (.reg [⟨[], [], .nop⟩, ⟨[], [], .nop⟩, ⟨[], [], .bi .mul (.c (.n 2)) (.e 0)⟩, ⟨[], [], .ca 22 [(.e 5), (.c (.n 0)), (.e 11)] 1⟩] [some 0, some 1, none, some 3, some 4, some 5, some 6, none, none, some 12, none])
    (.cond 9 (.reg [⟨[], [], .nop⟩, ⟨[], [], .nop⟩, ⟨[], [], .bi .mul (.c (.n 2)) (.e 0)⟩, ⟨[], [], .nop⟩, ⟨[], [], .ca 24 [(.e 11), (.e 5)] 1⟩, ⟨[], [], .bi .add (.e 3) (.e 12)⟩, ⟨[], [], .nop⟩] [some 0, some 1, none, some 13, some 4, none, some 6, none, none, none, none]) (.skip))))
    ((.seq (.reg [⟨[], [], .nop⟩, ⟨[], [], .nop⟩, ⟨[], [], .bi .mul (.c (.n 2)) (.e 0)⟩, ⟨[], [], .ca 22 [(.e 6), (.c (.n 0)), (.e 11)] 1⟩] [some 0, some 1, none, some 3, some 4, none, some 6, none, none, none, some 12])
    (.cond 10 (.reg [⟨[], [], .nop⟩, ⟨[], [], .nop⟩, ⟨[], [], .bi .mul (.c (.n 2)) (.e 0)⟩, ⟨[], [], .nop⟩, ⟨[], [], .ca 24 [(.e 11), (.e 6)] 1⟩, ⟨[], [], .bi .sub (.e 3) (.e 12)⟩, ⟨[], [], .nop⟩] [some 0, some 1, none, some 13, some 4, none, none, none, none, none, none]) (.skip)))))))))))
   (.reg [⟨[], [], .nop⟩, ⟨[], [], .bi .add (.e 4) (.c (.n 1))⟩, ⟨[], [], .nop⟩] [some 0, some 1, none, some 3, some 11, none, none, none, none, none, none])))))))))
 ((.seq (.reg [⟨[], [], .nop⟩, ⟨[], [], .nop⟩] [none, none, some 3, none, none, none, none, none, none, none, none])
 (.ret))))))))))⟩

/-- loop.example/g03401/impl.CountWithin -/
def ir_impl_CountWithin : IF := ⟨2, 12, [2],
 (.seq (.reg [⟨[], [], .cs .v (.n 0)⟩] [some 0, some 1, none, none, none, none, none, none, none, none, none, none])
 ((.seq ((.seq (.reg [⟨[], [], .nop⟩, ⟨[], [], .ca 23 [(.e 0), (.c (.n 0)), (.c (.n 14))] 1⟩, ⟨[], [], .un .not (.e 12)⟩, ⟨[], [], .nop⟩, ⟨[], [(13, false)], .cy (.e 1)⟩, ⟨[], [(13, false)], .ca 23 [(.e 14), (.c (.n 0)), (.c (.n 15))] 1⟩, ⟨[], [(13, false)], .un .not (.e 15)⟩, ⟨[], [], .pk (.e 13) (.c (.b true)) (.e 16)⟩] [some 0, some 1, none, none, none, none, some 17, none, none, none, none, none])
 (.cond 6 ((.seq (.reg [⟨[], [], .cs .v (.n (-1))⟩] [none, none, some 12, none, none, none, none, none, none, none, none, none])
  (.ret))) (.skip))))
 ((.seq (.reg [⟨[], [], .nop⟩, ⟨[], [], .bi .add (.e 1) (.c (.n 2))⟩, ⟨[], [], .mk (.n 0) (.e 12) (.e 12)⟩, ⟨[], [], .nop⟩] [some 0, some 1, none, some 13, none, none, none, none, none, none, none, none])
 ((.seq (.reg [⟨[], [], .nop⟩, ⟨[], [], .ix (.e 3) [] (.c (.n 0))⟩, ⟨[], [], .up 3 [.k 0] (.c (.n 1))⟩] [some 0, some 1, none, some 13, none, none, none, none, none, none, none, none])
 ((.seq ((.seq (.reg [⟨[], [], .nop⟩, ⟨[], [], .bi .mul (.c (.n 2)) (.e 0)⟩, ⟨[], [], .cs .v (.n 0)⟩] [none, some 1, none, some 3, none, none, none, some 12, some 13, none, none, none])
 (.block 0 (.loop ((.seq (.reg [⟨[], [], .bi .lss (.e 8) (.e 7)⟩] [none, some 1, none, some 3, none, none, none, some 7, some 8, some 12, none, none])
   ((.seq (.cond 9 (.skip) (.exit 0))
   ((.seq (.block 1 ((.seq (.reg [⟨[], [], .nop⟩, ⟨[], [], .bi .add (.e 1) (.c (.n 2))⟩, ⟨[], [], .mk (.n 0) (.e 12) (.e 12)⟩, ⟨[], [], .nop⟩] [none, some 1, none, some 3, some 13, none, none, some 7, some 8, none, none, none])
    ((.seq ((.seq (.reg [⟨[], [], .cs .v (.n 0)⟩] [none, some 1, none, some 3, some 4, some 12, none, some 7, some 8, none, none, none])
    (.block 2 (.loop ((.seq ((.seq (.reg [⟨[], [], .nop⟩, ⟨[], [], .nop⟩, ⟨[], [], .bi .leq (.e 5) (.e 1)⟩] [none, some 1, none, some 3, some 4, some 5, none, some 7, some 8, none, some 12, none])
      (.cond 10 (.skip) (.exit 2))))
      ((.seq (.block 3 ((.seq (.reg [⟨[], [], .nop⟩, ⟨[], [], .nop⟩, ⟨[], [], .nop⟩, ⟨[], [], .nop⟩, ⟨[], [], .bi .add (.e 5) (.c (.n 1))⟩, ⟨[], [], .ix (.e 3) [] (.e 12)⟩, ⟨[], [], .nop⟩, ⟨[], [], .ix (.e 4) [] (.e 5)⟩, ⟨[], [], .up 4 [.e 5] (.e 13)⟩] [none, some 1, none, some 3, some 15, some 5, none, some 7, some 8, none, none, none])
       ((.seq (.reg [⟨[], [], .nop⟩, ⟨[], [], .bi .gtr (.e 5) (.c (.n 0))⟩] [none, some 1, none, some 3, some 4, some 5, none, some 7, some 8, none, none, some 12])
       (.cond 11 (.reg [⟨[], [], .nop⟩, ⟨[], [], .nop⟩, ⟨[], [], .nop⟩, ⟨[], [], .nop⟩, ⟨[], [], .ix (.e 4) [] (.e 5)⟩, ⟨[], [], .nop⟩, ⟨[], [], .nop⟩, ⟨[], [], .nop⟩, ⟨[], [], .bi .sub (.e 5) (.c (.n 1))⟩, ⟨[], [], .ix (.e 3) [] (.e 13)⟩, ⟨[], [], .nop⟩, ⟨[], [], .bi .add (.e 12) (.e 14)⟩, ⟨[], [], .ix (.e 4) [] (.e 5)⟩, ⟨[], [], .up 4 [.e 5] (.e 15)⟩] [none, some 1, none, some 3, some 17, some 5, none, some 7, some 8, none, none, none]) (.skip)))))))
      (.reg [⟨[], [], .nop⟩, ⟨[], [], .bi .add (.e 5) (.c (.n 1))⟩, ⟨[], [], .nop⟩] [none, some 1, none, some 3, some 4, some 12, none, some 7, some 8, none, none, none])))))))))
    (.reg [⟨[], [], .nop⟩, ⟨[], [], .nop⟩] [none, some 1, none, some 4, none, none, none, some 7, some 8, none, none, none]))))))
   (.reg [⟨[], [], .bi .add (.e 8) (.c (.n 1))⟩, ⟨[], [], .nop⟩] [none, some 1, none, some 3, none, none, none, some 7, some 12, none, none, none])))))))))))
 ((.seq (.reg [⟨[], [], .nop⟩, ⟨[], [], .ix (.e 3) [] (.c (.n 0))⟩, ⟨[], [], .nop⟩, ⟨[], [], .nop⟩] [none, none, some 12, none, none, none, none, none, none, none, none, none])
 (.ret))))))))))))⟩

/-- loop.example/g03401/spec.KindNames -/
def ir_spec_KindNames : IF := ⟨0, 1, [0],
 (.seq (.reg [⟨[], [], .cs (.o .v) (.l [])⟩] [none])
 ((.seq (.reg [⟨[], [], .li (.o .v) [(.c (.s [112, 97, 116, 104])), (.c (.s [98, 114, 97, 99, 107, 101, 116, 115])), (.c (.s [112, 108, 97, 110, 101])), (.c (.s [98, 105, 110, 97, 114, 121])), (.c (.s [100, 105, 97, 103, 111, 110, 97, 108, 115])), (.c (.s [112, 97, 114, 116, 105, 116, 105, 111, 110])), (.c (.s [109, 97, 116, 99, 104, 105, 110, 103])), (.c (.s [112, 101, 114, 109, 117, 116, 97, 116, 105, 111, 110])), (.c (.s [114, 97, 110, 107]))]⟩, ⟨[], [], .nop⟩] [some 1])
 (.ret))))⟩

/-- loop.example/g03401/impl.KindNames -/
def ir_impl_KindNames : IF := ⟨0, 1, [0],
 (.seq (.reg [⟨[], [], .cs (.o .v) (.l [])⟩] [none])
 ((.seq (.reg [⟨[], [], .li (.o .v) [(.c (.s [112, 97, 116, 104])), (.c (.s [98, 114, 97, 99, 107, 101, 116, 115])), (.c (.s [112, 108, 97, 110, 101])), (.c (.s [98, 105, 110, 97, 114, 121])), (.c (.s [100, 105, 97, 103, 111, 110, 97, 108, 115])), (.c (.s [112, 97, 114, 116, 105, 116, 105, 111, 110])), (.c (.s [109, 97, 116, 99, 104, 105, 110, 103])), (.c (.s [112, 101, 114, 109, 117, 116, 97, 116, 105, 111, 110])), (.c (.s [114, 97, 110, 107]))]⟩, ⟨[], [], .nop⟩] [some 1])
 (.ret))))⟩

/-- loop.example/g03401/laws.eqStringS -/
def ir_laws_eqStringS : IF := ⟨2, 7, [2],
 (.seq (.reg [⟨[], [], .cs .v (.b false)⟩] [some 0, some 1, none, none, none, none, none])
 ((.seq ((.seq (.reg [⟨[], [], .nop⟩, ⟨[], [], .ln (.e 0) []⟩, ⟨[], [], .nop⟩, ⟨[], [], .ln (.e 1) []⟩, ⟨[], [], .bi .neq (.e 7) (.e 8)⟩] [some 0, some 1, none, none, some 9, none, none])
 (.cond 4 ((.seq (.reg [⟨[], [], .cs .v (.b false)⟩] [none, none, some 7, none, none, none, none])
  (.ret))) (.skip))))
 ((.seq ((.seq (.reg [⟨[], [], .cs .v (.n 0)⟩] [some 0, some 1, none, some 7, none, none, none])
 (.block 0 (.loop ((.seq ((.seq (.reg [⟨[], [], .nop⟩, ⟨[], [], .nop⟩, ⟨[], [], .ln (.e 0) []⟩, ⟨[], [], .bi .lss (.e 3) (.e 7)⟩] [some 0, some 1, none, some 3, none, some 8, none])
   (.cond 5 (.skip) (.exit 0))))
   ((.seq (.block 1 ((.seq (.reg [⟨[], [], .nop⟩, ⟨[], [], .nop⟩, ⟨[], [], .iy (.e 0) (.e 3)⟩, ⟨[], [], .nop⟩, ⟨[], [], .nop⟩, ⟨[], [], .nop⟩, ⟨[], [], .iy (.e 1) (.e 3)⟩, ⟨[], [], .nop⟩, ⟨[], [], .bi .neq (.e 7) (.e 8)⟩] [some 0, some 1, none, some 3, none, none, some 9])
    (.cond 6 ((.seq (.reg [⟨[], [], .cs .v (.b false)⟩] [none, none, some 7, none, none, none, none])
     (.ret))) (.skip)))))
   (.reg [⟨[], [], .nop⟩, ⟨[], [], .bi .add (.e 3) (.c (.n 1))⟩, ⟨[], [], .nop⟩] [some 0, some 1, none, some 7, none, none, none])))))))))
 ((.seq (.reg [⟨[], [], .cs .v (.b true)⟩] [none, none, some 7, none, none, none, none])
 (.ret))))))))⟩

/-- loop.example/g03401/laws.heldStringS -/
def ir_laws_heldStringS : IF := ⟨2, 6, [2],
 (.seq (.reg [⟨[], [], .cs .v (.n 0)⟩] [some 0, some 1, none, none, none, none])
 ((.seq ((.seq (.reg [⟨[], [], .cs .v (.n 0)⟩] [some 0, some 1, none, some 6, none, none])
 (.block 0 (.loop ((.seq ((.seq (.reg [⟨[], [], .nop⟩, ⟨[], [], .nop⟩, ⟨[], [], .ln (.e 0) []⟩, ⟨[], [], .bi .lss (.e 3) (.e 6)⟩] [some 0, some 1, none, some 3, some 7, none])
   (.cond 4 (.skip) (.exit 0))))
   ((.seq (.block 1 ((.seq ((.seq (.reg [⟨[], [], .nop⟩, ⟨[], [], .nop⟩, ⟨[], [], .iy (.e 0) (.e 3)⟩, ⟨[], [], .nop⟩, ⟨[], [], .nop⟩, ⟨[], [], .ca 26 [(.e 1)] 1⟩, ⟨[], [], .bi .neq (.e 6) (.e 7)⟩] [some 0, some 1, none, some 3, none, some 8])
    (.cond 5 ((.seq (.reg [⟨[], [], .cs .v (.n (-1))⟩] [none, none, some 6, none, none, none])
     (.ret))) (.skip))))
    (.reg [⟨[], [], .nop⟩, ⟨[], [], .bi .add (.e 1) (.c (.n 1))⟩, ⟨[], [], .nop⟩] [some 0, some 6, none, some 3, none, none]))))
   (.reg [⟨[], [], .nop⟩, ⟨[], [], .bi .add (.e 3) (.c (.n 1))⟩, ⟨[], [], .nop⟩] [some 0, some 1, none, some 6, none, none])))))))))
 ((.seq (.reg [⟨[], [], .nop⟩, ⟨[], [], .nop⟩] [none, none, some 1, none, none, none])
 (.ret))))))⟩

/-- loop.example/g03401/spec.BallotByReflection -/
def ir_spec_BallotByReflection : IF := ⟨2, 5, [2],
 (.seq (.reg [⟨[], [], .cs .v (.n 0)⟩] [some 0, some 1, none, none, none])
 ((.seq ((.seq (.reg [⟨[], [], .nop⟩, ⟨[], [], .ca 22 [(.e 0), (.c (.n 0)), (.c (.n 14))] 1⟩, ⟨[], [], .un .not (.e 5)⟩, ⟨[], [], .nop⟩, ⟨[], [(6, false)], .cy (.e 1)⟩, ⟨[], [(6, false)], .cy (.e 0)⟩, ⟨[], [(6, false)], .ca 22 [(.e 7), (.e 8), (.c (.n 14))] 1⟩, ⟨[], [(6, false)], .un .not (.e 9)⟩, ⟨[], [], .pk (.e 6) (.c (.b true)) (.e 10)⟩] [some 0, some 1, none, some 11, none])
 (.cond 3 ((.seq (.reg [⟨[], [], .cs .v (.n 0)⟩] [none, none, some 5, none, none])
  (.ret))) (.skip))))
 ((.seq ((.seq (.reg [⟨[], [], .nop⟩, ⟨[], [], .bi .eql (.e 0) (.c (.n 0))⟩] [some 0, some 1, none, none, some 5])
 (.cond 4 ((.seq (.reg [⟨[], [], .cs .v (.n 1)⟩] [none, none, some 5, none, none])
  (.ret))) (.skip))))
 ((.seq (.reg [⟨[], [], .nop⟩, ⟨[], [], .nop⟩, ⟨[], [], .ca 9 [(.e 0), (.e 1)] 1⟩, ⟨[], [], .nop⟩, ⟨[], [], .bi .sub (.e 0) (.c (.n 1))⟩, ⟨[], [], .nop⟩, ⟨[], [], .bi .add (.e 1) (.c (.n 1))⟩, ⟨[], [], .ca 9 [(.e 6), (.e 7)] 1⟩, ⟨[], [], .bi .sub (.e 5) (.e 8)⟩, ⟨[], [], .nop⟩] [none, none, some 9, none, none])
 (.ret))))))))⟩

/-- loop.example/g03401/impl.BallotByReflection -/
def ir_impl_BallotByReflection : IF := ⟨2, 4, [2],
 (.seq (.reg [⟨[], [], .cs .v (.n 0)⟩] [some 0, some 1, none, none])
 ((.seq ((.seq (.reg [⟨[], [], .nop⟩, ⟨[], [], .ca 23 [(.e 0), (.c (.n 0)), (.c (.n 14))] 1⟩, ⟨[], [], .un .not (.e 4)⟩, ⟨[], [], .nop⟩, ⟨[], [(5, false)], .cy (.e 1)⟩, ⟨[], [(5, false)], .cy (.e 0)⟩, ⟨[], [(5, false)], .ca 23 [(.e 6), (.e 7), (.c (.n 14))] 1⟩, ⟨[], [(5, false)], .un .not (.e 8)⟩, ⟨[], [], .pk (.e 5) (.c (.b true)) (.e 9)⟩] [some 0, some 1, none, some 10])
 (.cond 3 ((.seq (.reg [⟨[], [], .cs .v (.n 0)⟩] [none, none, some 4, none])
  (.ret))) (.skip))))
 ((.seq (.reg [⟨[], [], .nop⟩, ⟨[], [], .nop⟩, ⟨[], [], .ca 27 [(.e 0), (.e 1)] 1⟩, ⟨[], [], .nop⟩] [none, none, some 4, none])
 (.ret))))))⟩

/-- loop.example/g03401/spec.CountBad -/
def ir_spec_CountBad : IF := ⟨1, 4, [1],
 (.seq (.reg [⟨[], [], .cs .v (.n 0)⟩] [some 0, none, none, none])
 ((.seq ((.seq (.reg [⟨[], [], .nop⟩, ⟨[], [], .ca 22 [(.e 0), (.c (.n 0)), (.c (.n 14))] 1⟩, ⟨[], [], .un .not (.e 4)⟩] [some 0, none, some 5, none])
 (.cond 2 ((.seq (.reg [⟨[], [], .cs .v (.n (-1))⟩] [none, some 4, none, none])
  (.ret))) (.skip))))
 ((.seq ((.seq (.reg [⟨[], [], .nop⟩, ⟨[], [], .bi .eql (.e 0) (.c (.n 0))⟩] [some 0, none, none, some 4])
 (.cond 3 ((.seq (.reg [⟨[], [], .cs .v (.n 0)⟩] [none, some 4, none, none])
  (.ret))) (.skip))))
 ((.seq (.reg [⟨[], [], .nop⟩, ⟨[], [], .bi .sub (.e 0) (.c (.n 1))⟩, ⟨[], [], .nop⟩, ⟨[], [], .bi .add (.e 0) (.c (.n 1))⟩, ⟨[], [], .ca 9 [(.e 4), (.e 5)] 1⟩, ⟨[], [], .nop⟩] [none, some 6, none, none])
 (.ret))))))))⟩

/-- loop.example/g03401/impl.CountBad -/
def ir_impl_CountBad : IF := ⟨1, 3, [1],
 (.seq (.reg [⟨[], [], .cs .v (.n 0)⟩] [some 0, none, none])
 ((.seq ((.seq (.reg [⟨[], [], .nop⟩, ⟨[], [], .ca 23 [(.e 0), (.c (.n 0)), (.c (.n 14))] 1⟩, ⟨[], [], .un .not (.e 3)⟩] [some 0, none, some 4])
 (.cond 2 ((.seq (.reg [⟨[], [], .cs .v (.n (-1))⟩] [none, some 3, none])
  (.ret))) (.skip))))
 ((.seq (.reg [⟨[], [], .nop⟩, ⟨[], [], .nop⟩, ⟨[], [], .ca 10 [(.e 0), (.e 0)] 1⟩, ⟨[], [], .nop⟩, ⟨[], [], .ca 28 [(.e 0)] 1⟩, ⟨[], [], .bi .sub (.e 3) (.e 4)⟩, ⟨[], [], .nop⟩] [none, some 5, none])
 (.ret))))))⟩

/-- loop.example/g03401/spec.l1In -/
def ir_spec_l1In : IF := ⟨3, 4, [3],
 (.seq (.reg [⟨[], [], .cs .v (.b false)⟩] [some 0, some 1, some 2, none])
 ((.seq (.reg [⟨[], [], .nop⟩, ⟨[], [], .nop⟩, ⟨[], [], .bi .geq (.e 0) (.e 1)⟩, ⟨[], [], .nop⟩, ⟨[], [(4, true)], .cy (.e 0)⟩, ⟨[], [(4, true)], .cy (.e 2)⟩, ⟨[], [(4, true)], .bi .leq (.e 5) (.e 6)⟩, ⟨[], [], .pk (.e 4) (.e 7) (.c (.b false))⟩, ⟨[], [], .nop⟩] [none, none, none, some 8])
 (.ret))))⟩

/-- loop.example/g03401/impl.within -/
def ir_impl_within : IF := ⟨3, 4, [3],
 (.seq (.reg [⟨[], [], .cs .v (.b false)⟩] [some 0, some 1, some 2, none])
 ((.seq (.reg [⟨[], [], .nop⟩, ⟨[], [], .nop⟩, ⟨[], [], .bi .geq (.e 0) (.e 1)⟩, ⟨[], [], .nop⟩, ⟨[], [(4, true)], .cy (.e 0)⟩, ⟨[], [(4, true)], .cy (.e 2)⟩, ⟨[], [(4, true)], .bi .leq (.e 5) (.e 6)⟩, ⟨[], [], .pk (.e 4) (.e 7) (.c (.b false))⟩, ⟨[], [], .nop⟩] [none, none, none, some 8])
 (.ret))))⟩

/-- loop.example/g03401/spec.l3Binomial -/
def ir_spec_l3Binomial : IF := ⟨2, 6, [2],
 (.seq (.reg [⟨[], [], .cs .v (.n 0)⟩] [some 0, some 1, none, none, none, none])
 ((.seq (.reg [⟨[], [], .cs .v (.n 1)⟩] [some 0, some 1, none, some 6, none, none])
 ((.seq ((.seq (.reg [⟨[], [], .cs .v (.n 0)⟩] [some 0, some 1, none, some 3, some 6, none])
 (.block 0 (.loop ((.seq ((.seq (.reg [⟨[], [], .nop⟩, ⟨[], [], .nop⟩, ⟨[], [], .bi .lss (.e 4) (.e 1)⟩] [some 0, some 1, none, some 3, some 4, some 6])
   (.cond 5 (.skip) (.exit 0))))
   ((.seq (.block 1 (.reg [⟨[], [], .nop⟩, ⟨[], [], .nop⟩, ⟨[], [], .nop⟩, ⟨[], [], .bi .sub (.e 0) (.e 4)⟩, ⟨[], [], .bi .mul (.e 3) (.e 6)⟩, ⟨[], [], .nop⟩, ⟨[], [], .bi .add (.e 4) (.c (.n 1))⟩, ⟨[], [], .bi .quo (.e 7) (.e 8)⟩, ⟨[], [], .nop⟩] [some 0, some 1, none, some 9, some 4, none]))
   (.reg [⟨[], [], .nop⟩, ⟨[], [], .bi .add (.e 4) (.c (.n 1))⟩, ⟨[], [], .nop⟩] [some 0, some 1, none, some 3, some 6, none])))))))))
 ((.seq (.reg [⟨[], [], .nop⟩, ⟨[], [], .nop⟩] [none, none, some 3, none, none, none])
 (.ret))))))))⟩

/-- loop.example/g03401/impl.choose -/
def ir_impl_choose : IF := ⟨2, 7, [2],
 (.seq (.reg [⟨[], [], .cs .v (.n 0)⟩] [some 0, some 1, none, none, none, none, none])
 ((.seq ((.seq (.reg [⟨[], [], .nop⟩, ⟨[], [], .bi .lss (.e 1) (.c (.n 0))⟩, ⟨[], [], .nop⟩, ⟨[], [(7, false)], .cy (.e 1)⟩, ⟨[], [(7, false)], .cy (.e 0)⟩, ⟨[], [(7, false)], .bi .gtr (.e 8) (.e 9)⟩, ⟨[], [], .pk (.e 7) (.c (.b true)) (.e 10)⟩] [some 0, some 1, none, none, none, some 11, none])
 (.cond 5 ((.seq (.reg [⟨[], [], .cs .v (.n 0)⟩] [none, none, some 7, none, none, none, none])
  (.ret))) (.skip))))
 ((.seq (.reg [⟨[], [], .cs .v (.n 1)⟩] [some 0, some 1, none, some 7, none, none, none])
 ((.seq ((.seq (.reg [⟨[], [], .cs .v (.n 1)⟩] [some 0, some 1, none, some 3, some 7, none, none])
 (.block 0 (.loop ((.seq ((.seq (.reg [⟨[], [], .nop⟩, ⟨[], [], .nop⟩, ⟨[], [], .bi .leq (.e 4) (.e 1)⟩] [some 0, some 1, none, some 3, some 4, none, some 7])
   (.cond 6 (.skip) (.exit 0))))
   ((.seq (.block 1 (.reg [⟨[], [], .nop⟩, ⟨[], [], .nop⟩, ⟨[], [], .nop⟩, ⟨[], [], .bi .sub (.e 0) (.e 1)⟩, ⟨[], [], .nop⟩, ⟨[], [], .bi .add (.e 7) (.e 4)⟩, ⟨[], [], .bi .mul (.e 3) (.e 8)⟩, ⟨[], [], .nop⟩, ⟨[], [], .bi .quo (.e 9) (.e 4)⟩, ⟨[], [], .nop⟩] [some 0, some 1, none, some 10, some 4, none, none]))
   (.reg [⟨[], [], .nop⟩, ⟨[], [], .bi .add (.e 4) (.c (.n 1))⟩, ⟨[], [], .nop⟩] [some 0, some 1, none, some 3, some 7, none, none])))))))))
 ((.seq (.reg [⟨[], [], .nop⟩, ⟨[], [], .nop⟩] [none, none, some 3, none, none, none, none])
 (.ret))))))))))⟩

/-- loop.example/g03401/laws.markText -/
def ir_laws_markText : IF := ⟨1, 5, [1],
 (.seq (.reg [⟨[], [], .cs .v (.s [])⟩] [some 0, none, none, none, none])
 ((.seq ((.seq (.reg [⟨[], [], .nop⟩, ⟨[], [], .bi .leq (.e 0) (.c (.n 0))⟩] [some 0, none, none, some 5, none])
 (.cond 3 ((.seq (.reg [⟨[], [], .cs .v (.s [109, 48])⟩] [none, some 5, none, none, none])
  (.ret))) (.skip))))
 ((.seq (.reg [⟨[], [], .cs .v (.s [])⟩] [some 0, none, some 5, none, none])
 ((.seq (.block 0 (.loop ((.seq ((.seq (.reg [⟨[], [], .nop⟩, ⟨[], [], .bi .gtr (.e 0) (.c (.n 0))⟩] [some 0, none, some 2, none, some 5])
   (.cond 4 (.skip) (.exit 0))))
   (.block 1 ((.seq (.reg [⟨[], [], .nop⟩, ⟨[], [], .bi .rem (.e 0) (.c (.n 10))⟩, ⟨[], [], .bi .add (.c (.n 48)) (.e 5)⟩, ⟨[], [], .cv .u8 (.e 6)⟩, ⟨[], [], .li (.o .v) [(.e 7)]⟩, ⟨[], [], .bs (.e 8)⟩, ⟨[], [], .nop⟩, ⟨[], [], .bi .add (.e 9) (.e 2)⟩, ⟨[], [], .nop⟩] [some 0, none, some 10, none, none])
    (.reg [⟨[], [], .nop⟩, ⟨[], [], .bi .quo (.e 0) (.c (.n 10))⟩, ⟨[], [], .nop⟩] [some 5, none, some 2, none, none]))))))))
 ((.seq (.reg [⟨[], [], .nop⟩, ⟨[], [], .bi .add (.c (.s [109])) (.e 2)⟩, ⟨[], [], .nop⟩] [none, some 5, none, none, none])
 (.ret))))))))))⟩

/-- loop.example/g03401/impl.BallotNumber -/
def ir_impl_BallotNumber : IF := ⟨2, 15, [2],
 (.seq (.reg [⟨[], [], .cs .v (.n 0)⟩] [some 0, some 1, none, none, none, none, none, none, none, none, none, none, none, none, none])
 ((.seq ((.seq (.reg [⟨[], [], .nop⟩, ⟨[], [], .ca 23 [(.e 0), (.c (.n 0)), (.c (.n 15))] 1⟩, ⟨[], [], .un .not (.e 15)⟩, ⟨[], [], .nop⟩, ⟨[], [(16, false)], .cy (.e 1)⟩, ⟨[], [(16, false)], .cy (.e 0)⟩, ⟨[], [(16, false)], .ca 23 [(.e 17), (.e 18), (.c (.n 15))] 1⟩, ⟨[], [(16, false)], .un .not (.e 19)⟩, ⟨[], [], .pk (.e 16) (.c (.b true)) (.e 20)⟩] [some 0, some 1, none, none, none, none, none, none, some 21, none, none, none, none, none, none])
 (.cond 8 ((.seq (.reg [⟨[], [], .cs .v (.n 0)⟩] [none, none, some 15, none, none, none, none, none, none, none, none, none, none, none, none])
  (.ret))) (.skip))))
 ((.seq (.reg [⟨[], [], .nop⟩, ⟨[], [], .bi .add (.e 1) (.c (.n 1))⟩, ⟨[], [], .mk (.n 0) (.e 15) (.e 15)⟩, ⟨[], [], .nop⟩] [some 0, some 1, none, some 16, none, none, none, none, none, none, none, none, none, none, none])
 ((.seq ((.seq (.reg [⟨[], [], .nop⟩, ⟨[], [], .ln (.e 3) []⟩, ⟨[], [], .cs .v (.n 0)⟩] [some 0, some 1, none, some 3, none, none, none, none, none, some 15, some 16, none, none, none, none])
 (.block 0 (.loop ((.seq (.reg [⟨[], [], .bi .lss (.e 10) (.e 9)⟩] [some 0, some 1, none, some 3, none, none, none, none, none, some 9, some 10, some 15, none, none, none])
   ((.seq (.cond 11 (.skip) (.exit 0))
   ((.seq (.block 1 ((.seq (.reg [⟨[], [], .nop⟩, ⟨[], [], .nop⟩] [some 0, some 1, none, some 3, some 10, none, none, none, none, some 9, some 10, none, none, none, none])
    (.reg [⟨[], [], .nop⟩, ⟨[], [], .nop⟩, ⟨[], [], .ix (.e 3) [] (.e 4)⟩, ⟨[], [], .up 3 [.e 4] (.c (.n 1))⟩] [some 0, some 1, none, some 16, none, none, none, none, none, some 9, some 10, none, none, none, none]))))
   (.reg [⟨[], [], .bi .add (.e 10) (.c (.n 1))⟩, ⟨[], [], .nop⟩] [some 0, some 1, none, some 3, none, none, none, none, none, some 9, some 15, none, none, none, none])))))))))))
 ((.seq ((.seq (.reg [⟨[], [], .cs .v (.n 1)⟩] [some 0, some 1, none, some 3, none, some 15, none, none, none, none, none, none, none, none, none])
 (.block 2 (.loop ((.seq ((.seq (.reg [⟨[], [], .nop⟩, ⟨[], [], .nop⟩, ⟨[], [], .bi .leq (.e 5) (.e 0)⟩] [some 0, some 1, none, some 3, none, some 5, none, none, none, none, none, none, some 15, none, none])
   (.cond 12 (.skip) (.exit 2))))
   ((.seq (.block 3 ((.seq (.reg [⟨[], [], .nop⟩, ⟨[], [], .bi .add (.e 1) (.c (.n 1))⟩, ⟨[], [], .mk (.n 0) (.e 15) (.e 15)⟩, ⟨[], [], .nop⟩] [some 0, some 1, none, some 3, none, some 5, some 16, none, none, none, none, none, none, none, none])
    ((.seq ((.seq (.reg [⟨[], [], .nop⟩, ⟨[], [], .nop⟩] [some 0, some 1, none, some 3, none, some 5, some 6, some 5, none, none, none, none, none, none, none])
    (.block 4 (.loop ((.seq ((.seq (.reg [⟨[], [], .nop⟩, ⟨[], [], .nop⟩, ⟨[], [], .bi .leq (.e 7) (.e 1)⟩] [some 0, some 1, none, some 3, none, some 5, some 6, some 7, none, none, none, none, none, some 15, none])
      (.cond 13 (.skip) (.exit 4))))
      ((.seq (.block 5 ((.seq (.reg [⟨[], [], .nop⟩, ⟨[], [], .nop⟩, ⟨[], [], .nop⟩, ⟨[], [], .nop⟩, ⟨[], [], .ix (.e 3) [] (.e 7)⟩, ⟨[], [], .nop⟩, ⟨[], [], .ix (.e 6) [] (.e 7)⟩, ⟨[], [], .up 6 [.e 7] (.e 15)⟩] [some 0, some 1, none, some 3, none, some 5, some 17, some 7, none, none, none, none, none, none, none])
       ((.seq (.reg [⟨[], [], .nop⟩, ⟨[], [], .nop⟩, ⟨[], [], .bi .gtr (.e 7) (.e 5)⟩] [some 0, some 1, none, some 3, none, some 5, some 6, some 7, none, none, none, none, none, none, some 15])
       (.cond 14 (.reg [⟨[], [], .nop⟩, ⟨[], [], .nop⟩, ⟨[], [], .nop⟩, ⟨[], [], .nop⟩, ⟨[], [], .ix (.e 6) [] (.e 7)⟩, ⟨[], [], .nop⟩, ⟨[], [], .nop⟩, ⟨[], [], .nop⟩, ⟨[], [], .bi .sub (.e 7) (.c (.n 1))⟩, ⟨[], [], .ix (.e 6) [] (.e 16)⟩, ⟨[], [], .nop⟩, ⟨[], [], .bi .add (.e 15) (.e 17)⟩, ⟨[], [], .ix (.e 6) [] (.e 7)⟩, ⟨[], [], .up 6 [.e 7] (.e 18)⟩] [some 0, some 1, none, some 3, none, some 5, some 20, some 7, none, none, none, none, none, none, none]) (.skip)))))))
      (.reg [⟨[], [], .nop⟩, ⟨[], [], .bi .add (.e 7) (.c (.n 1))⟩, ⟨[], [], .nop⟩] [some 0, some 1, none, some 3, none, some 5, some 6, some 15, none, none, none, none, none, none, none])))))))))
    (.reg [⟨[], [], .nop⟩, ⟨[], [], .nop⟩] [some 0, some 1, none, some 6, none, some 5, none, none, none, none, none, none, none, none, none]))))))
   (.reg [⟨[], [], .nop⟩, ⟨[], [], .bi .add (.e 5) (.c (.n 1))⟩, ⟨[], [], .nop⟩] [some 0, some 1, none, some 3, none, some 15, none, none, none, none, none, none, none, none, none])))))))))
 ((.seq (.reg [⟨[], [], .nop⟩, ⟨[], [], .nop⟩, ⟨[], [], .ix (.e 3) [] (.e 1)⟩, ⟨[], [], .nop⟩, ⟨[], [], .nop⟩] [none, none, some 15, none, none, none, none, none, none, none, none, none, none, none, none])
 (.ret))))))))))))⟩

/-- loop.example/g03401/impl.CatalanNumber -/
def ir_impl_CatalanNumber : IF := ⟨1, 3, [1],
 (.seq (.reg [⟨[], [], .cs .v (.n 0)⟩] [some 0, none, none])
 ((.seq ((.seq (.reg [⟨[], [], .nop⟩, ⟨[], [], .ca 23 [(.e 0), (.c (.n 0)), (.c (.n 15))] 1⟩, ⟨[], [], .un .not (.e 3)⟩] [some 0, none, some 4])
 (.cond 2 ((.seq (.reg [⟨[], [], .cs .v (.n (-1))⟩] [none, some 3, none])
  (.ret))) (.skip))))
 ((.seq (.reg [⟨[], [], .nop⟩, ⟨[], [], .nop⟩, ⟨[], [], .ca 27 [(.e 0), (.e 0)] 1⟩, ⟨[], [], .nop⟩] [none, some 3, none])
 (.ret))))))⟩

end Go.Cat
