import Derived.Test.YtddhlibpgnnanaaCatFun
namespace Go.Cat
/-- loop.example/g03401/spec.BubbleOnce -/
def ir_spec_BubbleOnce : IF := ⟨1, 9, [1, 2],
 (.seq (.reg [⟨[], [], .cs (.o .v) (.l [])⟩, ⟨[], [], .cs .v (.b false)⟩] [some 0, none, none, none, none, none, none, none, none])
 ((.seq ((.seq (.reg [⟨[], [], .nop⟩, ⟨[], [], .ca 73 [(.e 0)] 1⟩, ⟨[], [], .un .not (.e 9)⟩] [some 0, none, none, none, none, none, some 10, none, none])
 (.cond 6 ((.seq (.reg [⟨[], [], .li (.o .v) []⟩, ⟨[], [], .nop⟩, ⟨[], [], .cs .v (.b false)⟩] [none, some 9, some 10, none, none, none, none, none, none])
  (.ret))) (.skip))))
 ((.seq (.reg [⟨[], [], .li (.o .v) []⟩, ⟨[], [], .nop⟩, ⟨[], [], .ap true (.e 9) (.e 0)⟩, ⟨[], [], .nop⟩] [none, none, none, some 10, none, none, none, none, none])
 ((.seq ((.seq (.reg [⟨[], [], .cs .v (.n 1)⟩] [none, none, none, some 3, some 9, none, none, none, none])
 (.block 0 (.loop ((.seq ((.seq (.reg [⟨[], [], .nop⟩, ⟨[], [], .nop⟩, ⟨[], [], .ln (.e 3) []⟩, ⟨[], [], .bi .lss (.e 4) (.e 9)⟩] [none, none, none, some 3, some 4, none, none, some 10, none])
   (.cond 7 (.skip) (.exit 0))))
   ((.seq (.block 1 ((.seq (.reg [⟨[], [], .nop⟩, ⟨[], [], .nop⟩, ⟨[], [], .bi .sub (.e 4) (.c (.n 1))⟩, ⟨[], [], .ix (.e 3) [] (.e 9)⟩, ⟨[], [], .nop⟩, ⟨[], [], .nop⟩, ⟨[], [], .nop⟩, ⟨[], [], .ix (.e 3) [] (.e 4)⟩, ⟨[], [], .nop⟩, ⟨[], [], .bi .gtr (.e 10) (.e 11)⟩] [none, none, none, some 3, some 4, none, none, none, some 12])
    (.cond 8 ((.seq (.reg [⟨[], [], .nop⟩, ⟨[], [], .nop⟩, ⟨[], [], .ix (.e 3) [] (.e 4)⟩, ⟨[], [], .nop⟩, ⟨[], [], .nop⟩] [none, none, none, some 3, some 4, some 9, none, none, none])
     ((.seq (.reg [⟨[], [], .nop⟩, ⟨[], [], .nop⟩, ⟨[], [], .nop⟩, ⟨[], [], .nop⟩, ⟨[], [], .bi .sub (.e 4) (.c (.n 1))⟩, ⟨[], [], .ix (.e 3) [] (.e 9)⟩, ⟨[], [], .nop⟩, ⟨[], [], .ix (.e 3) [] (.e 4)⟩, ⟨[], [], .up 3 [.e 4] (.e 10)⟩] [none, none, none, some 12, some 4, some 5, none, none, none])
     (.reg [⟨[], [], .nop⟩, ⟨[], [], .nop⟩, ⟨[], [], .bi .sub (.e 4) (.c (.n 1))⟩, ⟨[], [], .nop⟩, ⟨[], [], .ix (.e 3) [] (.e 9)⟩, ⟨[], [], .up 3 [.e 9] (.e 5)⟩] [none, none, none, some 11, some 4, none, none, none, none]))))) (.skip)))))
   (.reg [⟨[], [], .nop⟩, ⟨[], [], .bi .add (.e 4) (.c (.n 1))⟩, ⟨[], [], .nop⟩] [none, none, none, some 3, some 9, none, none, none, none])))))))))
 ((.seq (.reg [⟨[], [], .nop⟩, ⟨[], [], .nop⟩, ⟨[], [], .cs .v (.b true)⟩] [none, some 3, some 9, none, none, none, none, none, none])
 (.ret))))))))))⟩

/-- loop.example/g03401/spec.IsSortable -/
def ir_spec_IsSortable : IF := ⟨1, 2, [1],
 (.seq (.reg [⟨[], [], .cs .v (.b false)⟩] [some 0, none])
 ((.seq (.reg [⟨[], [], .nop⟩, ⟨[], [], .ca 73 [(.e 0)] 1⟩, ⟨[], [], .nop⟩, ⟨[], [(2, true)], .nop⟩, ⟨[], [(2, true)], .ca 80 [(.e 0)] 1⟩, ⟨[], [(2, true)], .ca 130 [(.e 3)] 1⟩, ⟨[], [], .pk (.e 2) (.e 4) (.c (.b false))⟩, ⟨[], [], .nop⟩] [none, some 5])
 (.ret))))⟩

/-- loop.example/g03401/spec.OutputOf -/
def ir_spec_OutputOf : IF := ⟨2, 11, [2, 3],
 (.seq (.reg [⟨[], [], .cs (.o .v) (.l [])⟩, ⟨[], [], .cs .v (.b false)⟩] [some 0, some 1, none, none, none, none, none, none, none, none, none])
 ((.seq (.reg [⟨[], [], .li (.o .v) []⟩, ⟨[], [], .nop⟩] [some 0, some 1, none, none, some 11, none, none, none, none, none, none])
 ((.seq ((.seq (.reg [⟨[], [], .nop⟩, ⟨[], [], .ca 64 [(.e 0)] 1⟩, ⟨[], [], .un .not (.e 11)⟩, ⟨[], [], .nop⟩, ⟨[], [(12, false)], .nop⟩, ⟨[], [(12, false)], .ca 73 [(.e 1)] 1⟩, ⟨[], [(12, false)], .un .not (.e 13)⟩, ⟨[], [], .pk (.e 12) (.c (.b true)) (.e 14)⟩, ⟨[], [], .nop⟩, ⟨[], [(15, false)], .cy (.e 0)⟩, ⟨[], [(15, false)], .sn (.e 16)⟩, ⟨[], [(15, false)], .nop⟩, ⟨[], [(15, false)], .ln (.e 1) []⟩, ⟨[], [(15, false)], .bi .mul (.c (.n 2)) (.e 18)⟩, ⟨[], [(15, false)], .bi .neq (.e 17) (.e 19)⟩, ⟨[], [], .pk (.e 15) (.c (.b true)) (.e 20)⟩] [some 0, some 1, none, none, some 4, none, none, none, some 21, none, none])
 (.cond 8 ((.seq (.reg [⟨[], [], .nop⟩, ⟨[], [], .nop⟩, ⟨[], [], .cs .v (.b false)⟩] [none, none, some 4, some 11, none, none, none, none, none, none, none])
  (.ret))) (.skip))))
 ((.seq (.reg [⟨[], [], .li (.o .v) []⟩, ⟨[], [], .nop⟩] [some 0, some 1, none, none, some 4, some 11, none, none, none, none, none])
 ((.seq (.reg [⟨[], [], .cs .v (.n 0)⟩] [some 0, some 1, none, none, some 4, some 5, some 11, none, none, none, none])
 ((.seq ((.seq (.reg [⟨[], [], .cs .v (.n 0)⟩] [some 0, some 1, none, none, some 4, some 5, some 6, some 11, none, none, none])
 (.block 0 (.loop ((.seq ((.seq (.reg [⟨[], [], .nop⟩, ⟨[], [], .nop⟩, ⟨[], [], .sn (.e 0)⟩, ⟨[], [], .bi .lss (.e 7) (.e 11)⟩] [some 0, some 1, none, none, some 4, some 5, some 6, some 7, none, some 12, none])
   (.cond 9 (.skip) (.exit 0))))
   ((.seq (.block 1 ((.seq ((.seq (.reg [⟨[], [], .nop⟩, ⟨[], [], .nop⟩, ⟨[], [], .sx (.e 0) (.e 7)⟩, ⟨[], [], .bi .eql (.e 11) (.c (.y 117))⟩] [some 0, some 1, none, none, some 4, some 5, some 6, some 7, none, none, some 12])
    (.cond 10 ((.seq (.reg [⟨[], [], .nop⟩, ⟨[], [], .nop⟩, ⟨[], [], .nop⟩, ⟨[], [], .iy (.e 1) (.e 6)⟩, ⟨[], [], .nop⟩, ⟨[], [], .li (.o .v) [(.e 11)]⟩, ⟨[], [], .ap false (.e 5) (.e 12)⟩, ⟨[], [], .nop⟩] [some 0, some 1, none, none, some 4, some 13, some 6, some 7, none, none, none])
     ((.seq (.reg [⟨[], [], .nop⟩, ⟨[], [], .bi .add (.e 6) (.c (.n 1))⟩, ⟨[], [], .nop⟩] [some 0, some 1, none, none, some 4, some 5, some 11, some 7, none, none, none])
     (.exit 1))))) (.skip))))
    ((.seq (.reg [⟨[], [], .nop⟩, ⟨[], [], .nop⟩, ⟨[], [], .nop⟩, ⟨[], [], .ln (.e 5) []⟩, ⟨[], [], .bi .sub (.e 11) (.c (.n 1))⟩, ⟨[], [], .ix (.e 5) [] (.e 12)⟩, ⟨[], [], .nop⟩, ⟨[], [], .li (.o .v) [(.e 13)]⟩, ⟨[], [], .ap false (.e 4) (.e 14)⟩, ⟨[], [], .nop⟩] [some 0, some 1, none, none, some 15, some 5, some 6, some 7, none, none, none])
    (.reg [⟨[], [], .nop⟩, ⟨[], [], .nop⟩, ⟨[], [], .ln (.e 5) []⟩, ⟨[], [], .bi .sub (.e 11) (.c (.n 1))⟩, ⟨[], [], .sb true (.e 5) none (some (.e 12))⟩, ⟨[], [], .nop⟩] [some 0, some 1, none, none, some 4, some 13, some 6, some 7, none, none, none]))))))
   (.reg [⟨[], [], .nop⟩, ⟨[], [], .bi .add (.e 7) (.c (.n 1))⟩, ⟨[], [], .nop⟩] [some 0, some 1, none, none, some 4, some 5, some 6, some 11, none, none, none])))))))))
 ((.seq (.reg [⟨[], [], .nop⟩, ⟨[], [], .nop⟩, ⟨[], [], .cs .v (.b true)⟩] [none, none, some 4, some 11, none, none, none, none, none, none, none])
 (.ret))))))))))))))⟩

/-- loop.example/g03401/spec.PassesOf -/
def ir_spec_PassesOf : IF := ⟨1, 6, [1],
 (.seq (.reg [⟨[], [], .cs .v (.n 0)⟩] [some 0, none, none, none, none, none])
 ((.seq ((.seq (.reg [⟨[], [], .nop⟩, ⟨[], [], .ca 73 [(.e 0)] 1⟩, ⟨[], [], .un .not (.e 6)⟩] [some 0, none, none, none, some 7, none])
 (.cond 4 ((.seq (.reg [⟨[], [], .cs .v (.n (-1))⟩] [none, some 6, none, none, none, none])
  (.ret))) (.skip))))
 ((.seq (.reg [⟨[], [], .li (.o .v) []⟩, ⟨[], [], .nop⟩, ⟨[], [], .ap true (.e 6) (.e 0)⟩, ⟨[], [], .nop⟩] [none, none, some 7, none, none, none])
 ((.seq (.reg [⟨[], [], .cs .v (.n 0)⟩] [none, none, some 2, some 6, none, none])
 ((.seq (.block 0 (.loop ((.seq ((.seq (.reg [⟨[], [], .nop⟩, ⟨[], [], .ca 130 [(.e 2)] 1⟩, ⟨[], [], .un .not (.e 6)⟩] [none, none, some 2, some 3, none, some 7])
   (.cond 5 (.skip) (.exit 0))))
   (.block 1 ((.seq (.reg [⟨[], [], .nop⟩, ⟨[], [], .ca 80 [(.e 2)] 1⟩, ⟨[], [], .nop⟩] [none, none, some 6, some 3, none, none])
    (.reg [⟨[], [], .nop⟩, ⟨[], [], .bi .add (.e 3) (.c (.n 1))⟩, ⟨[], [], .nop⟩] [none, none, some 2, some 6, none, none]))))))))
 ((.seq (.reg [⟨[], [], .nop⟩, ⟨[], [], .nop⟩] [none, some 3, none, none, none, none])
 (.ret))))))))))))⟩

/-- loop.example/g03401/spec.PatternOf231 -/
def ir_spec_PatternOf231 : IF := ⟨1, 10, [1, 2],
 (.seq (.reg [⟨[], [], .cs (.o .v) (.l [])⟩, ⟨[], [], .cs .v (.b false)⟩] [some 0, none, none, none, none, none, none, none, none, none])
 ((.seq ((.seq (.reg [⟨[], [], .cs .v (.n 0)⟩] [some 0, none, none, some 10, none, none, none, none, none, none])
 (.block 0 (.loop ((.seq ((.seq (.reg [⟨[], [], .nop⟩, ⟨[], [], .nop⟩, ⟨[], [], .ln (.e 0) []⟩, ⟨[], [], .bi .lss (.e 3) (.e 10)⟩, ⟨[], [], .nop⟩, ⟨[], [(11, true)], .nop⟩, ⟨[], [(11, true)], .ca 73 [(.e 0)] 1⟩, ⟨[], [], .pk (.e 11) (.e 12) (.c (.b false))⟩] [some 0, none, none, some 3, none, none, some 13, none, none, none])
   (.cond 6 (.skip) (.exit 0))))
   ((.seq (.block 1 ((.seq (.reg [⟨[], [], .nop⟩, ⟨[], [], .bi .add (.e 3) (.c (.n 1))⟩, ⟨[], [], .nop⟩] [some 0, none, none, some 3, some 10, none, none, none, none, none])
    (.block 2 (.loop ((.seq ((.seq (.reg [⟨[], [], .nop⟩, ⟨[], [], .nop⟩, ⟨[], [], .ln (.e 0) []⟩, ⟨[], [], .bi .lss (.e 4) (.e 10)⟩] [some 0, none, none, some 3, some 4, none, none, some 11, none, none])
      (.cond 7 (.skip) (.exit 2))))
      ((.seq (.block 3 ((.seq (.reg [⟨[], [], .nop⟩, ⟨[], [], .bi .add (.e 4) (.c (.n 1))⟩, ⟨[], [], .nop⟩] [some 0, none, none, some 3, some 4, some 10, none, none, none, none])
       (.block 4 (.loop ((.seq ((.seq (.reg [⟨[], [], .nop⟩, ⟨[], [], .nop⟩, ⟨[], [], .ln (.e 0) []⟩, ⟨[], [], .bi .lss (.e 5) (.e 10)⟩] [some 0, none, none, some 3, some 4, some 5, none, none, some 11, none])
         (.cond 8 (.skip) (.exit 4))))
         ((.seq (.block 5 ((.seq (.reg [⟨[], [], .nop⟩, ⟨[], [], .nop⟩, ⟨[], [], .iy (.e 0) (.e 5)⟩, ⟨[], [], .nop⟩, ⟨[], [], .nop⟩, ⟨[], [], .nop⟩, ⟨[], [], .iy (.e 0) (.e 3)⟩, ⟨[], [], .nop⟩, ⟨[], [], .bi .lss (.e 10) (.e 11)⟩, ⟨[], [], .nop⟩, ⟨[], [(12, true)], .nop⟩, ⟨[], [(12, true)], .cy (.e 3)⟩, ⟨[], [(12, true)], .iy (.e 0) (.e 13)⟩, ⟨[], [(12, true)], .nop⟩, ⟨[], [(12, true)], .nop⟩, ⟨[], [(12, true)], .cy (.e 4)⟩, ⟨[], [(12, true)], .iy (.e 0) (.e 15)⟩, ⟨[], [(12, true)], .nop⟩, ⟨[], [(12, true)], .bi .lss (.e 14) (.e 16)⟩, ⟨[], [], .pk (.e 12) (.e 17) (.c (.b false))⟩] [some 0, none, none, some 3, some 4, some 5, none, none, none, some 18])
          (.cond 9 ((.seq (.reg [⟨[], [], .nop⟩, ⟨[], [], .nop⟩, ⟨[], [], .nop⟩, ⟨[], [], .li (.o .v) [(.e 3), (.e 4), (.e 5)]⟩, ⟨[], [], .nop⟩, ⟨[], [], .cs .v (.b true)⟩] [none, some 10, some 11, none, none, none, none, none, none, none])
           (.ret))) (.skip)))))
         (.reg [⟨[], [], .nop⟩, ⟨[], [], .bi .add (.e 5) (.c (.n 1))⟩, ⟨[], [], .nop⟩] [some 0, none, none, some 3, some 4, some 10, none, none, none, none]))))))))))
      (.reg [⟨[], [], .nop⟩, ⟨[], [], .bi .add (.e 4) (.c (.n 1))⟩, ⟨[], [], .nop⟩] [some 0, none, none, some 3, some 10, none, none, none, none, none]))))))))))
   (.reg [⟨[], [], .nop⟩, ⟨[], [], .bi .add (.e 3) (.c (.n 1))⟩, ⟨[], [], .nop⟩] [some 0, none, none, some 10, none, none, none, none, none, none])))))))))
 ((.seq (.reg [⟨[], [], .li (.o .v) []⟩, ⟨[], [], .nop⟩, ⟨[], [], .cs .v (.b false)⟩] [none, some 10, some 11, none, none, none, none, none, none, none])
 (.ret))))))⟩

/-- loop.example/g03401/spec.SortOnce -/
def ir_spec_SortOnce : IF := ⟨1, 4, [1, 2],
 (.seq (.reg [⟨[], [], .cs (.o .v) (.l [])⟩, ⟨[], [], .cs .v (.b false)⟩] [some 0, none, none, none])
 ((.seq ((.seq (.reg [⟨[], [], .nop⟩, ⟨[], [], .ca 73 [(.e 0)] 1⟩, ⟨[], [], .un .not (.e 4)⟩] [some 0, none, none, some 5])
 (.cond 3 ((.seq (.reg [⟨[], [], .li (.o .v) []⟩, ⟨[], [], .nop⟩, ⟨[], [], .cs .v (.b false)⟩] [none, some 4, some 5, none])
  (.ret))) (.skip))))
 ((.seq (.reg [⟨[], [], .nop⟩, ⟨[], [], .ca 80 [(.e 0)] 1⟩, ⟨[], [], .nop⟩, ⟨[], [], .cs .v (.b true)⟩] [none, some 4, some 5, none])
 (.ret))))))⟩

/-- loop.example/g03401/spec.l31Sort -/
def ir_spec_l31Sort : IF := ⟨1, 8, [1],
 (.seq (.reg [⟨[], [], .cs (.o .v) (.l [])⟩] [some 0, none, none, none, none, none, none, none])
 ((.seq (.reg [⟨[], [], .li (.o .v) []⟩, ⟨[], [], .nop⟩] [some 0, none, some 8, none, none, none, none, none])
 ((.seq (.reg [⟨[], [], .li (.o .v) []⟩, ⟨[], [], .nop⟩] [some 0, none, some 2, some 8, none, none, none, none])
 ((.seq ((.seq (.reg [⟨[], [], .cs .v (.n 0)⟩] [some 0, none, some 2, some 3, some 8, none, none, none])
 (.block 0 (.loop ((.seq ((.seq (.reg [⟨[], [], .nop⟩, ⟨[], [], .nop⟩, ⟨[], [], .ln (.e 0) []⟩, ⟨[], [], .bi .lss (.e 4) (.e 8)⟩] [some 0, none, some 2, some 3, some 4, some 9, none, none])
   (.cond 5 (.skip) (.exit 0))))
   ((.seq (.block 1 ((.seq (.block 2 (.loop ((.seq ((.seq (.reg [⟨[], [], .nop⟩, ⟨[], [], .ln (.e 3) []⟩, ⟨[], [], .bi .gtr (.e 8) (.c (.n 0))⟩, ⟨[], [], .nop⟩, ⟨[], [(9, true)], .nop⟩, ⟨[], [(9, true)], .nop⟩, ⟨[], [(9, true)], .ln (.e 3) []⟩, ⟨[], [(9, true)], .bi .sub (.e 10) (.c (.n 1))⟩, ⟨[], [(9, true)], .ix (.e 3) [] (.e 11)⟩, ⟨[], [(9, true)], .nop⟩, ⟨[], [(9, true)], .nop⟩, ⟨[], [(9, true)], .cy (.e 4)⟩, ⟨[], [(9, true)], .iy (.e 0) (.e 13)⟩, ⟨[], [(9, true)], .nop⟩, ⟨[], [(9, true)], .bi .lss (.e 12) (.e 14)⟩, ⟨[], [], .pk (.e 9) (.e 15) (.c (.b false))⟩] [some 0, none, some 2, some 3, some 4, none, some 16, none])
      (.cond 6 (.skip) (.exit 2))))
      (.block 3 ((.seq (.reg [⟨[], [], .nop⟩, ⟨[], [], .nop⟩, ⟨[], [], .nop⟩, ⟨[], [], .ln (.e 3) []⟩, ⟨[], [], .bi .sub (.e 8) (.c (.n 1))⟩, ⟨[], [], .ix (.e 3) [] (.e 9)⟩, ⟨[], [], .nop⟩, ⟨[], [], .li (.o .v) [(.e 10)]⟩, ⟨[], [], .ap false (.e 2) (.e 11)⟩, ⟨[], [], .nop⟩] [some 0, none, some 12, some 3, some 4, none, none, none])
       (.reg [⟨[], [], .nop⟩, ⟨[], [], .nop⟩, ⟨[], [], .ln (.e 3) []⟩, ⟨[], [], .bi .sub (.e 8) (.c (.n 1))⟩, ⟨[], [], .sb true (.e 3) none (some (.e 9))⟩, ⟨[], [], .nop⟩] [some 0, none, some 2, some 10, some 4, none, none, none]))))))))
    (.reg [⟨[], [], .nop⟩, ⟨[], [], .nop⟩, ⟨[], [], .nop⟩, ⟨[], [], .iy (.e 0) (.e 4)⟩, ⟨[], [], .nop⟩, ⟨[], [], .li (.o .v) [(.e 8)]⟩, ⟨[], [], .ap false (.e 3) (.e 9)⟩, ⟨[], [], .nop⟩] [some 0, none, some 2, some 10, some 4, none, none, none]))))
   (.reg [⟨[], [], .nop⟩, ⟨[], [], .bi .add (.e 4) (.c (.n 1))⟩, ⟨[], [], .nop⟩] [some 0, none, some 2, some 3, some 8, none, none, none])))))))))
 ((.seq (.block 4 (.loop ((.seq ((.seq (.reg [⟨[], [], .nop⟩, ⟨[], [], .ln (.e 3) []⟩, ⟨[], [], .bi .gtr (.e 8) (.c (.n 0))⟩] [none, none, some 2, some 3, none, none, none, some 9])
   (.cond 7 (.skip) (.exit 4))))
   (.block 5 ((.seq (.reg [⟨[], [], .nop⟩, ⟨[], [], .nop⟩, ⟨[], [], .nop⟩, ⟨[], [], .ln (.e 3) []⟩, ⟨[], [], .bi .sub (.e 8) (.c (.n 1))⟩, ⟨[], [], .ix (.e 3) [] (.e 9)⟩, ⟨[], [], .nop⟩, ⟨[], [], .li (.o .v) [(.e 10)]⟩, ⟨[], [], .ap false (.e 2) (.e 11)⟩, ⟨[], [], .nop⟩] [none, none, some 12, some 3, none, none, none, none])
    (.reg [⟨[], [], .nop⟩, ⟨[], [], .nop⟩, ⟨[], [], .ln (.e 3) []⟩, ⟨[], [], .bi .sub (.e 8) (.c (.n 1))⟩, ⟨[], [], .sb true (.e 3) none (some (.e 9))⟩, ⟨[], [], .nop⟩] [none, none, some 2, some 10, none, none, none, none]))))))))
 ((.seq (.reg [⟨[], [], .nop⟩, ⟨[], [], .nop⟩] [none, some 2, none, none, none, none, none, none])
 (.ret))))))))))))⟩

/-- loop.example/g03401/spec.l31Sorted -/
def ir_spec_l31Sorted : IF := ⟨1, 5, [1],
 (.seq (.reg [⟨[], [], .cs .v (.b false)⟩] [some 0, none, none, none, none])
 ((.seq ((.seq (.reg [⟨[], [], .cs .v (.n 0)⟩] [some 0, none, some 5, none, none])
 (.block 0 (.loop ((.seq ((.seq (.reg [⟨[], [], .nop⟩, ⟨[], [], .nop⟩, ⟨[], [], .ln (.e 0) []⟩, ⟨[], [], .bi .lss (.e 2) (.e 5)⟩] [some 0, none, some 2, some 6, none])
   (.cond 3 (.skip) (.exit 0))))
   ((.seq (.block 1 ((.seq (.reg [⟨[], [], .nop⟩, ⟨[], [], .nop⟩, ⟨[], [], .iy (.e 0) (.e 2)⟩, ⟨[], [], .nop⟩, ⟨[], [], .nop⟩, ⟨[], [], .bi .neq (.e 5) (.e 2)⟩] [some 0, none, some 2, none, some 6])
    (.cond 4 ((.seq (.reg [⟨[], [], .cs .v (.b false)⟩] [none, some 5, none, none, none])
     (.ret))) (.skip)))))
   (.reg [⟨[], [], .nop⟩, ⟨[], [], .bi .add (.e 2) (.c (.n 1))⟩, ⟨[], [], .nop⟩] [some 0, none, some 5, none, none])))))))))
 ((.seq (.reg [⟨[], [], .cs .v (.b true)⟩] [none, some 5, none, none, none])
 (.ret))))))⟩

end Go.Cat
