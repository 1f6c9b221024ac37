import Derived.Test.YtddhlibpgnnanaaCatFun
namespace Go.Cat
/-- loop.example/g03401/spec.BinomialTransform -/
def ir_spec_BinomialTransform : IF := ⟨1, 10, [1, 2],
 (.seq (.reg [⟨[], [], .cs (.o .v) (.l [])⟩, ⟨[], [], .cs .v (.b false)⟩] [some 0, none, none, none, none, none, none, none, none, none])
 ((.seq ((.seq (.reg [⟨[], [], .nop⟩, ⟨[], [], .ca 68 [(.e 0)] 1⟩, ⟨[], [], .un .not (.e 10)⟩] [some 0, none, none, none, none, none, none, some 11, none, none])
 (.cond 7 ((.seq (.reg [⟨[], [], .li (.o .v) []⟩, ⟨[], [], .nop⟩, ⟨[], [], .cs .v (.b false)⟩] [none, some 10, some 11, none, none, none, none, none, none, none])
  (.ret))) (.skip))))
 ((.seq (.reg [⟨[], [], .li (.o .v) []⟩, ⟨[], [], .nop⟩] [some 0, none, none, some 10, none, none, none, none, none, none])
 ((.seq ((.seq (.reg [⟨[], [], .cs .v (.n 0)⟩] [some 0, none, none, some 3, some 10, none, none, none, none, none])
 (.block 0 (.loop ((.seq ((.seq (.reg [⟨[], [], .nop⟩, ⟨[], [], .nop⟩, ⟨[], [], .ln (.e 0) []⟩, ⟨[], [], .bi .lss (.e 4) (.e 10)⟩] [some 0, none, none, some 3, some 4, none, none, none, some 11, none])
   (.cond 8 (.skip) (.exit 0))))
   ((.seq (.block 1 ((.seq (.reg [⟨[], [], .cs .v (.n 0)⟩] [some 0, none, none, some 3, some 4, some 10, none, none, none, none])
    ((.seq ((.seq (.reg [⟨[], [], .cs .v (.n 0)⟩] [some 0, none, none, some 3, some 4, some 5, some 10, none, none, none])
    (.block 2 (.loop ((.seq ((.seq (.reg [⟨[], [], .nop⟩, ⟨[], [], .nop⟩, ⟨[], [], .bi .leq (.e 6) (.e 4)⟩] [some 0, none, none, some 3, some 4, some 5, some 6, none, none, some 10])
      (.cond 9 (.skip) (.exit 2))))
      ((.seq (.block 3 (.reg [⟨[], [], .nop⟩, ⟨[], [], .nop⟩, ⟨[], [], .nop⟩, ⟨[], [], .ca 24 [(.e 4), (.e 6)] 1⟩, ⟨[], [], .nop⟩, ⟨[], [], .nop⟩, ⟨[], [], .iy (.e 0) (.e 6)⟩, ⟨[], [], .nop⟩, ⟨[], [], .bi .mul (.e 10) (.e 11)⟩, ⟨[], [], .bi .add (.e 5) (.e 12)⟩, ⟨[], [], .nop⟩] [some 0, none, none, some 3, some 4, some 13, some 6, none, none, none]))
      (.reg [⟨[], [], .nop⟩, ⟨[], [], .bi .add (.e 6) (.c (.n 1))⟩, ⟨[], [], .nop⟩] [some 0, none, none, some 3, some 4, some 5, some 10, none, none, none])))))))))
    (.reg [⟨[], [], .nop⟩, ⟨[], [], .nop⟩, ⟨[], [], .li (.o .v) [(.e 5)]⟩, ⟨[], [], .ap false (.e 3) (.e 10)⟩, ⟨[], [], .nop⟩] [some 0, none, none, some 11, some 4, none, none, none, none, none]))))))
   (.reg [⟨[], [], .nop⟩, ⟨[], [], .bi .add (.e 4) (.c (.n 1))⟩, ⟨[], [], .nop⟩] [some 0, none, none, some 3, some 10, none, none, none, none, none])))))))))
 ((.seq (.reg [⟨[], [], .nop⟩, ⟨[], [], .nop⟩, ⟨[], [], .cs .v (.b true)⟩] [none, some 3, some 10, none, none, none, none, none, none, none])
 (.ret))))))))))⟩

/-- loop.example/g03401/spec.CatalanSeries -/
def ir_spec_CatalanSeries : IF := ⟨1, 7, [1, 2],
 (.seq (.reg [⟨[], [], .cs (.o .v) (.l [])⟩, ⟨[], [], .cs .v (.b false)⟩] [some 0, none, none, none, none, none, none])
 ((.seq (.reg [⟨[], [], .li (.o .v) []⟩, ⟨[], [], .nop⟩] [some 0, none, none, some 7, none, none, none])
 ((.seq ((.seq (.reg [⟨[], [], .nop⟩, ⟨[], [], .ca 22 [(.e 0), (.c (.n 1)), (.c (.n 12))] 1⟩, ⟨[], [], .un .not (.e 7)⟩] [some 0, none, none, some 3, none, some 8, none])
 (.cond 5 ((.seq (.reg [⟨[], [], .nop⟩, ⟨[], [], .nop⟩, ⟨[], [], .cs .v (.b false)⟩] [none, some 3, some 7, none, none, none, none])
  (.ret))) (.skip))))
 ((.seq ((.seq (.reg [⟨[], [], .cs .v (.n 0)⟩] [some 0, none, none, some 3, some 7, none, none])
 (.block 0 (.loop ((.seq ((.seq (.reg [⟨[], [], .nop⟩, ⟨[], [], .nop⟩, ⟨[], [], .bi .lss (.e 4) (.e 0)⟩] [some 0, none, none, some 3, some 4, none, some 7])
   (.cond 6 (.skip) (.exit 0))))
   ((.seq (.block 1 (.reg [⟨[], [], .nop⟩, ⟨[], [], .nop⟩, ⟨[], [], .ca 79 [(.e 4)] 1⟩, ⟨[], [], .li (.o .v) [(.e 7)]⟩, ⟨[], [], .ap false (.e 3) (.e 8)⟩, ⟨[], [], .nop⟩] [some 0, none, none, some 9, some 4, none, none]))
   (.reg [⟨[], [], .nop⟩, ⟨[], [], .bi .add (.e 4) (.c (.n 1))⟩, ⟨[], [], .nop⟩] [some 0, none, none, some 3, some 7, none, none])))))))))
 ((.seq (.reg [⟨[], [], .nop⟩, ⟨[], [], .nop⟩, ⟨[], [], .cs .v (.b true)⟩] [none, some 3, some 7, none, none, none, none])
 (.ret))))))))))⟩

/-- loop.example/g03401/spec.InverseSeries -/
def ir_spec_InverseSeries : IF := ⟨1, 13, [1, 2],
 (.seq (.reg [⟨[], [], .cs (.o .v) (.l [])⟩, ⟨[], [], .cs .v (.b false)⟩] [some 0, none, none, none, none, none, none, none, none, none, none, none, none])
 ((.seq ((.seq (.reg [⟨[], [], .nop⟩, ⟨[], [], .ca 68 [(.e 0)] 1⟩, ⟨[], [], .un .not (.e 13)⟩, ⟨[], [], .nop⟩, ⟨[], [(14, false)], .nop⟩, ⟨[], [(14, false)], .iy (.e 0) (.c (.n 0))⟩, ⟨[], [(14, false)], .nop⟩, ⟨[], [(14, false)], .bi .neq (.e 15) (.c (.n 1))⟩, ⟨[], [(14, false)], .cy (.e 16)⟩, ⟨[], [(14, false), (17, true)], .nop⟩, ⟨[], [(14, false), (17, true)], .iy (.e 0) (.c (.n 0))⟩, ⟨[], [(14, false), (17, true)], .nop⟩, ⟨[], [(14, false), (17, true)], .bi .neq (.e 18) (.c (.n (-1)))⟩, ⟨[], [(14, false)], .pk (.e 17) (.e 19) (.c (.b false))⟩, ⟨[], [], .pk (.e 14) (.c (.b true)) (.e 20)⟩] [some 0, none, none, none, none, none, none, none, some 21, none, none, none, none])
 (.cond 8 ((.seq (.reg [⟨[], [], .li (.o .v) []⟩, ⟨[], [], .nop⟩, ⟨[], [], .cs .v (.b false)⟩] [none, some 13, some 14, none, none, none, none, none, none, none, none, none, none])
  (.ret))) (.skip))))
 ((.seq ((.seq (.reg [⟨[], [], .cs .v (.n 0)⟩] [some 0, none, none, some 13, none, none, none, none, none, none, none, none, none])
 (.block 0 (.loop ((.seq ((.seq (.reg [⟨[], [], .nop⟩, ⟨[], [], .nop⟩, ⟨[], [], .ln (.e 0) []⟩, ⟨[], [], .bi .lss (.e 3) (.e 13)⟩] [some 0, none, none, some 3, none, none, none, none, none, some 14, none, none, none])
   (.cond 9 (.skip) (.exit 0))))
   ((.seq (.block 1 ((.seq (.reg [⟨[], [], .nop⟩, ⟨[], [], .nop⟩, ⟨[], [], .iy (.e 0) (.e 3)⟩, ⟨[], [], .nop⟩, ⟨[], [], .ca 22 [(.e 13), (.c (.n (-10))), (.c (.n 10))] 1⟩, ⟨[], [], .un .not (.e 14)⟩] [some 0, none, none, some 3, none, none, none, none, none, none, some 15, none, none])
    (.cond 10 ((.seq (.reg [⟨[], [], .li (.o .v) []⟩, ⟨[], [], .nop⟩, ⟨[], [], .cs .v (.b false)⟩] [none, some 13, some 14, none, none, none, none, none, none, none, none, none, none])
     (.ret))) (.skip)))))
   (.reg [⟨[], [], .nop⟩, ⟨[], [], .bi .add (.e 3) (.c (.n 1))⟩, ⟨[], [], .nop⟩] [some 0, none, none, some 13, none, none, none, none, none, none, none, none, none])))))))))
 ((.seq (.reg [⟨[], [], .nop⟩, ⟨[], [], .iy (.e 0) (.c (.n 0))⟩, ⟨[], [], .nop⟩, ⟨[], [], .li (.o .v) [(.e 13)]⟩, ⟨[], [], .nop⟩] [some 0, none, none, none, some 14, none, none, none, none, none, none, none, none])
 ((.seq ((.seq (.reg [⟨[], [], .cs .v (.n 1)⟩] [some 0, none, none, none, some 4, some 13, none, none, none, none, none, none, none])
 (.block 2 (.loop ((.seq ((.seq (.reg [⟨[], [], .nop⟩, ⟨[], [], .nop⟩, ⟨[], [], .ln (.e 0) []⟩, ⟨[], [], .bi .lss (.e 5) (.e 13)⟩] [some 0, none, none, none, some 4, some 5, none, none, none, none, none, some 14, none])
   (.cond 11 (.skip) (.exit 2))))
   ((.seq (.block 3 ((.seq (.reg [⟨[], [], .cs .v (.n 0)⟩] [some 0, none, none, none, some 4, some 5, some 13, none, none, none, none, none, none])
    ((.seq ((.seq (.reg [⟨[], [], .cs .v (.n 1)⟩] [some 0, none, none, none, some 4, some 5, some 6, some 13, none, none, none, none, none])
    (.block 4 (.loop ((.seq ((.seq (.reg [⟨[], [], .nop⟩, ⟨[], [], .nop⟩, ⟨[], [], .bi .leq (.e 7) (.e 5)⟩] [some 0, none, none, none, some 4, some 5, some 6, some 7, none, none, none, none, some 13])
      (.cond 12 (.skip) (.exit 4))))
      ((.seq (.block 5 (.reg [⟨[], [], .nop⟩, ⟨[], [], .nop⟩, ⟨[], [], .nop⟩, ⟨[], [], .iy (.e 0) (.e 7)⟩, ⟨[], [], .nop⟩, ⟨[], [], .nop⟩, ⟨[], [], .nop⟩, ⟨[], [], .nop⟩, ⟨[], [], .bi .sub (.e 5) (.e 7)⟩, ⟨[], [], .ix (.e 4) [] (.e 14)⟩, ⟨[], [], .nop⟩, ⟨[], [], .bi .mul (.e 13) (.e 15)⟩, ⟨[], [], .bi .add (.e 6) (.e 16)⟩, ⟨[], [], .nop⟩] [some 0, none, none, none, some 4, some 5, some 17, some 7, none, none, none, none, none]))
      (.reg [⟨[], [], .nop⟩, ⟨[], [], .bi .add (.e 7) (.c (.n 1))⟩, ⟨[], [], .nop⟩] [some 0, none, none, none, some 4, some 5, some 6, some 13, none, none, none, none, none])))))))))
    (.reg [⟨[], [], .nop⟩, ⟨[], [], .nop⟩, ⟨[], [], .iy (.e 0) (.c (.n 0))⟩, ⟨[], [], .nop⟩, ⟨[], [], .un .neg (.e 13)⟩, ⟨[], [], .nop⟩, ⟨[], [], .bi .mul (.e 14) (.e 6)⟩, ⟨[], [], .li (.o .v) [(.e 15)]⟩, ⟨[], [], .ap false (.e 4) (.e 16)⟩, ⟨[], [], .nop⟩] [some 0, none, none, none, some 17, some 5, none, none, none, none, none, none, none]))))))
   (.reg [⟨[], [], .nop⟩, ⟨[], [], .bi .add (.e 5) (.c (.n 1))⟩, ⟨[], [], .nop⟩] [some 0, none, none, none, some 4, some 13, none, none, none, none, none, none, none])))))))))
 ((.seq (.reg [⟨[], [], .nop⟩, ⟨[], [], .nop⟩, ⟨[], [], .cs .v (.b true)⟩] [none, some 4, some 13, none, none, none, none, none, none, none, none, none, none])
 (.ret))))))))))))⟩

/-- loop.example/g03401/spec.MultiplySeries -/
def ir_spec_MultiplySeries : IF := ⟨2, 5, [2, 3],
 (.seq (.reg [⟨[], [], .cs (.o .v) (.l [])⟩, ⟨[], [], .cs .v (.b false)⟩] [some 0, some 1, none, none, none])
 ((.seq ((.seq (.reg [⟨[], [], .nop⟩, ⟨[], [], .ca 68 [(.e 0)] 1⟩, ⟨[], [], .un .not (.e 5)⟩, ⟨[], [], .nop⟩, ⟨[], [(6, false)], .nop⟩, ⟨[], [(6, false)], .ca 68 [(.e 1)] 1⟩, ⟨[], [(6, false)], .un .not (.e 7)⟩, ⟨[], [], .pk (.e 6) (.c (.b true)) (.e 8)⟩, ⟨[], [], .nop⟩, ⟨[], [(9, false)], .nop⟩, ⟨[], [(9, false)], .ln (.e 0) []⟩, ⟨[], [(9, false)], .nop⟩, ⟨[], [(9, false)], .ln (.e 1) []⟩, ⟨[], [(9, false)], .bi .neq (.e 10) (.e 11)⟩, ⟨[], [], .pk (.e 9) (.c (.b true)) (.e 12)⟩] [some 0, some 1, none, none, some 13])
 (.cond 4 ((.seq (.reg [⟨[], [], .li (.o .v) []⟩, ⟨[], [], .nop⟩, ⟨[], [], .cs .v (.b false)⟩] [none, none, some 5, some 6, none])
  (.ret))) (.skip))))
 ((.seq (.reg [⟨[], [], .nop⟩, ⟨[], [], .nop⟩, ⟨[], [], .ca 69 [(.e 0), (.e 1)] 1⟩, ⟨[], [], .nop⟩, ⟨[], [], .cs .v (.b true)⟩] [none, none, some 5, some 6, none])
 (.ret))))))⟩

/-- loop.example/g03401/spec.SatisfiesCatalan -/
def ir_spec_SatisfiesCatalan : IF := ⟨1, 7, [1],
 (.seq (.reg [⟨[], [], .cs .v (.b false)⟩] [some 0, none, none, none, none, none, none])
 ((.seq ((.seq (.reg [⟨[], [], .nop⟩, ⟨[], [], .ca 68 [(.e 0)] 1⟩, ⟨[], [], .un .not (.e 7)⟩, ⟨[], [], .nop⟩, ⟨[], [(8, false)], .nop⟩, ⟨[], [(8, false)], .iy (.e 0) (.c (.n 0))⟩, ⟨[], [(8, false)], .nop⟩, ⟨[], [(8, false)], .bi .neq (.e 9) (.c (.n 1))⟩, ⟨[], [], .pk (.e 8) (.c (.b true)) (.e 10)⟩] [some 0, none, none, none, some 11, none, none])
 (.cond 4 ((.seq (.reg [⟨[], [], .cs .v (.b false)⟩] [none, some 7, none, none, none, none, none])
  (.ret))) (.skip))))
 ((.seq (.reg [⟨[], [], .nop⟩, ⟨[], [], .nop⟩, ⟨[], [], .ca 69 [(.e 0), (.e 0)] 1⟩, ⟨[], [], .nop⟩] [some 0, none, some 7, none, none, none, none])
 ((.seq ((.seq (.reg [⟨[], [], .cs .v (.n 1)⟩] [some 0, none, some 2, some 7, none, none, none])
 (.block 0 (.loop ((.seq ((.seq (.reg [⟨[], [], .nop⟩, ⟨[], [], .nop⟩, ⟨[], [], .ln (.e 0) []⟩, ⟨[], [], .bi .lss (.e 3) (.e 7)⟩] [some 0, none, some 2, some 3, none, some 8, none])
   (.cond 5 (.skip) (.exit 0))))
   ((.seq (.block 1 ((.seq (.reg [⟨[], [], .nop⟩, ⟨[], [], .nop⟩, ⟨[], [], .iy (.e 0) (.e 3)⟩, ⟨[], [], .nop⟩, ⟨[], [], .nop⟩, ⟨[], [], .nop⟩, ⟨[], [], .bi .sub (.e 3) (.c (.n 1))⟩, ⟨[], [], .ix (.e 2) [] (.e 8)⟩, ⟨[], [], .nop⟩, ⟨[], [], .bi .neq (.e 7) (.e 9)⟩] [some 0, none, some 2, some 3, none, none, some 10])
    (.cond 6 ((.seq (.reg [⟨[], [], .cs .v (.b false)⟩] [none, some 7, none, none, none, none, none])
     (.ret))) (.skip)))))
   (.reg [⟨[], [], .nop⟩, ⟨[], [], .bi .add (.e 3) (.c (.n 1))⟩, ⟨[], [], .nop⟩] [some 0, none, some 2, some 7, none, none, none])))))))))
 ((.seq (.reg [⟨[], [], .cs .v (.b true)⟩] [none, some 7, none, none, none, none, none])
 (.ret))))))))))⟩

/-- loop.example/g03401/spec.l30Fine -/
def ir_spec_l30Fine : IF := ⟨1, 5, [1],
 (.seq (.reg [⟨[], [], .cs .v (.b false)⟩] [some 0, none, none, none, none])
 ((.seq ((.seq (.reg [⟨[], [], .cs .v (.n 0)⟩] [some 0, none, some 5, none, none])
 (.block 0 (.loop ((.seq ((.seq (.reg [⟨[], [], .nop⟩, ⟨[], [], .nop⟩, ⟨[], [], .ln (.e 0) []⟩, ⟨[], [], .bi .lss (.e 2) (.e 5)⟩] [some 0, none, some 2, some 6, none])
   (.cond 3 (.skip) (.exit 0))))
   ((.seq (.block 1 ((.seq (.reg [⟨[], [], .nop⟩, ⟨[], [], .nop⟩, ⟨[], [], .iy (.e 0) (.e 2)⟩, ⟨[], [], .nop⟩, ⟨[], [], .ca 22 [(.e 5), (.c (.n (-1000000))), (.c (.n 1000000))] 1⟩, ⟨[], [], .un .not (.e 6)⟩] [some 0, none, some 2, none, some 7])
    (.cond 4 ((.seq (.reg [⟨[], [], .cs .v (.b false)⟩] [none, some 5, none, none, none])
     (.ret))) (.skip)))))
   (.reg [⟨[], [], .nop⟩, ⟨[], [], .bi .add (.e 2) (.c (.n 1))⟩, ⟨[], [], .nop⟩] [some 0, none, some 5, none, none])))))))))
 ((.seq (.reg [⟨[], [], .nop⟩, ⟨[], [], .ln (.e 0) []⟩, ⟨[], [], .ca 22 [(.e 5), (.c (.n 1)), (.c (.n 12))] 1⟩, ⟨[], [], .nop⟩] [none, some 6, none, none, none])
 (.ret))))))⟩

/-- loop.example/g03401/spec.l30Times -/
def ir_spec_l30Times : IF := ⟨2, 9, [2],
 (.seq (.reg [⟨[], [], .cs (.o .v) (.l [])⟩] [some 0, some 1, none, none, none, none, none, none, none])
 ((.seq (.reg [⟨[], [], .nop⟩, ⟨[], [], .ln (.e 0) []⟩, ⟨[], [], .nop⟩, ⟨[], [], .ln (.e 1) []⟩, ⟨[], [], .mn (.e 9) (.e 10)⟩, ⟨[], [], .nop⟩] [some 0, some 1, none, some 11, none, none, none, none, none])
 ((.seq (.reg [⟨[], [], .nop⟩, ⟨[], [], .mk (.n 0) (.e 3) (.e 3)⟩, ⟨[], [], .nop⟩] [some 0, some 1, none, some 3, some 9, none, none, none, none])
 ((.seq ((.seq (.reg [⟨[], [], .cs .v (.n 0)⟩] [some 0, some 1, none, some 3, some 4, some 9, none, none, none])
 (.block 0 (.loop ((.seq ((.seq (.reg [⟨[], [], .nop⟩, ⟨[], [], .nop⟩, ⟨[], [], .bi .lss (.e 5) (.e 3)⟩] [some 0, some 1, none, some 3, some 4, some 5, none, some 9, none])
   (.cond 7 (.skip) (.exit 0))))
   ((.seq (.block 1 ((.seq (.reg [⟨[], [], .cs .v (.n 0)⟩] [some 0, some 1, none, some 3, some 4, some 5, some 9, none, none])
    (.block 2 (.loop ((.seq ((.seq (.reg [⟨[], [], .nop⟩, ⟨[], [], .nop⟩, ⟨[], [], .bi .leq (.e 6) (.e 5)⟩] [some 0, some 1, none, some 3, some 4, some 5, some 6, none, some 9])
      (.cond 8 (.skip) (.exit 2))))
      ((.seq (.block 3 (.reg [⟨[], [], .nop⟩, ⟨[], [], .nop⟩, ⟨[], [], .nop⟩, ⟨[], [], .nop⟩, ⟨[], [], .ix (.e 4) [] (.e 5)⟩, ⟨[], [], .nop⟩, ⟨[], [], .nop⟩, ⟨[], [], .nop⟩, ⟨[], [], .iy (.e 0) (.e 6)⟩, ⟨[], [], .nop⟩, ⟨[], [], .nop⟩, ⟨[], [], .nop⟩, ⟨[], [], .nop⟩, ⟨[], [], .bi .sub (.e 5) (.e 6)⟩, ⟨[], [], .iy (.e 1) (.e 11)⟩, ⟨[], [], .nop⟩, ⟨[], [], .bi .mul (.e 10) (.e 12)⟩, ⟨[], [], .bi .add (.e 9) (.e 13)⟩, ⟨[], [], .ix (.e 4) [] (.e 5)⟩, ⟨[], [], .up 4 [.e 5] (.e 14)⟩] [some 0, some 1, none, some 3, some 16, some 5, some 6, none, none]))
      (.reg [⟨[], [], .nop⟩, ⟨[], [], .bi .add (.e 6) (.c (.n 1))⟩, ⟨[], [], .nop⟩] [some 0, some 1, none, some 3, some 4, some 5, some 9, none, none]))))))))))
   (.reg [⟨[], [], .nop⟩, ⟨[], [], .bi .add (.e 5) (.c (.n 1))⟩, ⟨[], [], .nop⟩] [some 0, some 1, none, some 3, some 4, some 9, none, none, none])))))))))
 ((.seq (.reg [⟨[], [], .nop⟩, ⟨[], [], .nop⟩] [none, none, some 4, none, none, none, none, none, none])
 (.ret))))))))))⟩

end Go.Cat
