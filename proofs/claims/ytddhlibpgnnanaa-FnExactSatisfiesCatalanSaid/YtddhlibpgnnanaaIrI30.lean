import Derived.Test.YtddhlibpgnnanaaCatFun
namespace Go.Cat
/-- loop.example/g03401/impl.BinomialTransform -/
def ir_impl_BinomialTransform : IF := ⟨1, 12, [1, 2],
 (.seq (.reg [⟨[], [], .cs (.o .v) (.l [])⟩, ⟨[], [], .cs .v (.b false)⟩] [some 0, none, none, none, none, none, none, none, none, none, none, none])
 ((.seq (.reg [⟨[], [], .li (.o .v) []⟩, ⟨[], [], .nop⟩] [some 0, none, none, some 12, none, none, none, none, none, none, none, none])
 ((.seq ((.seq (.reg [⟨[], [], .nop⟩, ⟨[], [], .ca 70 [(.e 0)] 1⟩, ⟨[], [], .un .not (.e 12)⟩] [some 0, none, none, some 3, none, none, none, some 13, none, none, none, none])
 (.cond 7 ((.seq (.reg [⟨[], [], .nop⟩, ⟨[], [], .nop⟩, ⟨[], [], .cs .v (.b false)⟩] [none, some 3, some 12, none, none, none, none, none, none, none, none, none])
  (.ret))) (.skip))))
 ((.seq ((.seq (.reg [⟨[], [], .nop⟩, ⟨[], [], .ln (.e 0) []⟩, ⟨[], [], .cs .v (.n 0)⟩] [some 0, none, none, some 3, none, none, none, none, some 12, some 13, none, none])
 (.block 0 (.loop ((.seq (.reg [⟨[], [], .bi .lss (.e 9) (.e 8)⟩] [some 0, none, none, some 3, none, none, none, none, some 8, some 9, some 12, none])
   ((.seq (.cond 10 (.skip) (.exit 0))
   ((.seq (.block 1 ((.seq (.reg [⟨[], [], .nop⟩, ⟨[], [], .nop⟩] [some 0, none, none, some 3, some 9, none, none, none, some 8, some 9, none, none])
    ((.seq (.reg [⟨[], [], .cs .v (.n 0)⟩] [some 0, none, none, some 3, some 4, some 12, none, none, some 8, some 9, none, none])
    ((.seq ((.seq (.reg [⟨[], [], .cs .v (.n 0)⟩] [some 0, none, none, some 3, some 4, some 5, some 12, none, some 8, some 9, none, none])
    (.block 2 (.loop ((.seq ((.seq (.reg [⟨[], [], .nop⟩, ⟨[], [], .nop⟩, ⟨[], [], .bi .leq (.e 6) (.e 4)⟩] [some 0, none, none, some 3, some 4, some 5, some 6, none, some 8, some 9, none, some 12])
      (.cond 11 (.skip) (.exit 2))))
      ((.seq (.block 3 (.reg [⟨[], [], .nop⟩, ⟨[], [], .nop⟩, ⟨[], [], .nop⟩, ⟨[], [], .ca 25 [(.e 4), (.e 6)] 1⟩, ⟨[], [], .nop⟩, ⟨[], [], .nop⟩, ⟨[], [], .iy (.e 0) (.e 6)⟩, ⟨[], [], .nop⟩, ⟨[], [], .bi .mul (.e 12) (.e 13)⟩, ⟨[], [], .bi .add (.e 5) (.e 14)⟩, ⟨[], [], .nop⟩] [some 0, none, none, some 3, some 4, some 15, some 6, none, some 8, some 9, none, none]))
      (.reg [⟨[], [], .nop⟩, ⟨[], [], .bi .add (.e 6) (.c (.n 1))⟩, ⟨[], [], .nop⟩] [some 0, none, none, some 3, some 4, some 5, some 12, none, some 8, some 9, none, none])))))))))
    (.reg [⟨[], [], .nop⟩, ⟨[], [], .nop⟩, ⟨[], [], .li (.o .v) [(.e 5)]⟩, ⟨[], [], .ap false (.e 3) (.e 12)⟩, ⟨[], [], .nop⟩] [some 0, none, none, some 13, none, none, none, none, some 8, some 9, none, none]))))))))
   (.reg [⟨[], [], .bi .add (.e 9) (.c (.n 1))⟩, ⟨[], [], .nop⟩] [some 0, none, none, some 3, none, none, none, none, some 8, some 12, none, none])))))))))))
 ((.seq (.reg [⟨[], [], .nop⟩, ⟨[], [], .nop⟩, ⟨[], [], .cs .v (.b true)⟩] [none, some 3, some 12, none, none, none, none, none, none, none, none, none])
 (.ret))))))))))⟩

/-- loop.example/g03401/impl.CatalanSeries -/
def ir_impl_CatalanSeries : IF := ⟨1, 9, [1, 2],
 (.seq (.reg [⟨[], [], .cs (.o .v) (.l [])⟩, ⟨[], [], .cs .v (.b false)⟩] [some 0, none, none, none, none, none, none, none, none])
 ((.seq (.reg [⟨[], [], .li (.o .v) []⟩, ⟨[], [], .nop⟩] [some 0, none, none, some 9, none, none, none, none, none])
 ((.seq ((.seq (.reg [⟨[], [], .nop⟩, ⟨[], [], .ca 23 [(.e 0), (.c (.n 1)), (.c (.n 12))] 1⟩, ⟨[], [], .un .not (.e 9)⟩] [some 0, none, none, some 3, none, some 10, none, none, none])
 (.cond 5 ((.seq (.reg [⟨[], [], .nop⟩, ⟨[], [], .nop⟩, ⟨[], [], .cs .v (.b false)⟩] [none, some 3, some 9, none, none, none, none, none, none])
  (.ret))) (.skip))))
 ((.seq ((.seq (.reg [⟨[], [], .nop⟩, ⟨[], [], .cs .v (.n 0)⟩] [none, none, none, some 3, none, none, some 0, some 9, none])
 (.block 0 (.loop ((.seq (.reg [⟨[], [], .bi .lss (.e 7) (.e 6)⟩] [none, none, none, some 3, none, none, some 6, some 7, some 9])
   ((.seq (.cond 8 (.skip) (.exit 0))
   ((.seq (.block 1 ((.seq (.reg [⟨[], [], .nop⟩, ⟨[], [], .nop⟩] [none, none, none, some 3, some 7, none, some 6, some 7, none])
    (.reg [⟨[], [], .nop⟩, ⟨[], [], .nop⟩, ⟨[], [], .ca 28 [(.e 4)] 1⟩, ⟨[], [], .li (.o .v) [(.e 9)]⟩, ⟨[], [], .ap false (.e 3) (.e 10)⟩, ⟨[], [], .nop⟩] [none, none, none, some 11, none, none, some 6, some 7, none]))))
   (.reg [⟨[], [], .bi .add (.e 7) (.c (.n 1))⟩, ⟨[], [], .nop⟩] [none, none, none, some 3, none, none, some 6, some 9, none])))))))))))
 ((.seq (.reg [⟨[], [], .nop⟩, ⟨[], [], .nop⟩, ⟨[], [], .cs .v (.b true)⟩] [none, some 3, some 9, none, none, none, none, none, none])
 (.ret))))))))))⟩

/-- loop.example/g03401/impl.InverseSeries -/
def ir_impl_InverseSeries : IF := ⟨1, 10, [1, 2],
 (.seq (.reg [⟨[], [], .cs (.o .v) (.l [])⟩, ⟨[], [], .cs .v (.b false)⟩] [some 0, none, none, none, none, none, none, none, none, none])
 ((.seq ((.seq (.reg [⟨[], [], .nop⟩, ⟨[], [], .ca 70 [(.e 0)] 1⟩, ⟨[], [], .un .not (.e 10)⟩, ⟨[], [], .nop⟩, ⟨[], [(11, false)], .nop⟩, ⟨[], [(11, false)], .iy (.e 0) (.c (.n 0))⟩, ⟨[], [(11, false)], .nop⟩, ⟨[], [(11, false)], .bi .neq (.e 12) (.c (.n 1))⟩, ⟨[], [(11, false)], .cy (.e 13)⟩, ⟨[], [(11, false), (14, true)], .nop⟩, ⟨[], [(11, false), (14, true)], .iy (.e 0) (.c (.n 0))⟩, ⟨[], [(11, false), (14, true)], .nop⟩, ⟨[], [(11, false), (14, true)], .bi .neq (.e 15) (.c (.n (-1)))⟩, ⟨[], [(11, false)], .pk (.e 14) (.e 16) (.c (.b false))⟩, ⟨[], [], .pk (.e 11) (.c (.b true)) (.e 17)⟩, ⟨[], [], .nop⟩, ⟨[], [(18, false)], .nop⟩, ⟨[], [(18, false)], .ca 78 [(.e 0), (.c (.n (-10))), (.c (.n 10))] 1⟩, ⟨[], [(18, false)], .un .not (.e 19)⟩, ⟨[], [], .pk (.e 18) (.c (.b true)) (.e 20)⟩] [some 0, none, none, none, none, none, none, some 21, none, none])
 (.cond 7 ((.seq (.reg [⟨[], [], .li (.o .v) []⟩, ⟨[], [], .nop⟩, ⟨[], [], .cs .v (.b false)⟩] [none, some 10, some 11, none, none, none, none, none, none, none])
  (.ret))) (.skip))))
 ((.seq (.reg [⟨[], [], .nop⟩, ⟨[], [], .iy (.e 0) (.c (.n 0))⟩, ⟨[], [], .nop⟩, ⟨[], [], .li (.o .v) [(.e 10)]⟩, ⟨[], [], .nop⟩] [some 0, none, none, some 11, none, none, none, none, none, none])
 ((.seq ((.seq (.reg [⟨[], [], .cs .v (.n 1)⟩] [some 0, none, none, some 3, some 10, none, none, none, none, none])
 (.block 0 (.loop ((.seq ((.seq (.reg [⟨[], [], .nop⟩, ⟨[], [], .nop⟩, ⟨[], [], .ln (.e 0) []⟩, ⟨[], [], .bi .lss (.e 4) (.e 10)⟩] [some 0, none, none, some 3, some 4, none, none, none, some 11, none])
   (.cond 8 (.skip) (.exit 0))))
   ((.seq (.block 1 ((.seq (.reg [⟨[], [], .cs .v (.n 0)⟩] [some 0, none, none, some 3, some 4, some 10, none, none, none, none])
    ((.seq ((.seq (.reg [⟨[], [], .cs .v (.n 1)⟩] [some 0, none, none, some 3, some 4, some 5, some 10, none, none, none])
    (.block 2 (.loop ((.seq ((.seq (.reg [⟨[], [], .nop⟩, ⟨[], [], .nop⟩, ⟨[], [], .bi .leq (.e 6) (.e 4)⟩] [some 0, none, none, some 3, some 4, some 5, some 6, none, none, some 10])
      (.cond 9 (.skip) (.exit 2))))
      ((.seq (.block 3 (.reg [⟨[], [], .nop⟩, ⟨[], [], .nop⟩, ⟨[], [], .nop⟩, ⟨[], [], .iy (.e 0) (.e 6)⟩, ⟨[], [], .nop⟩, ⟨[], [], .nop⟩, ⟨[], [], .nop⟩, ⟨[], [], .nop⟩, ⟨[], [], .bi .sub (.e 4) (.e 6)⟩, ⟨[], [], .ix (.e 3) [] (.e 11)⟩, ⟨[], [], .nop⟩, ⟨[], [], .bi .mul (.e 10) (.e 12)⟩, ⟨[], [], .bi .sub (.e 5) (.e 13)⟩, ⟨[], [], .nop⟩] [some 0, none, none, some 3, some 4, some 14, some 6, none, none, none]))
      (.reg [⟨[], [], .nop⟩, ⟨[], [], .bi .add (.e 6) (.c (.n 1))⟩, ⟨[], [], .nop⟩] [some 0, none, none, some 3, some 4, some 5, some 10, none, none, none])))))))))
    (.reg [⟨[], [], .nop⟩, ⟨[], [], .nop⟩, ⟨[], [], .nop⟩, ⟨[], [], .iy (.e 0) (.c (.n 0))⟩, ⟨[], [], .nop⟩, ⟨[], [], .bi .mul (.e 5) (.e 10)⟩, ⟨[], [], .li (.o .v) [(.e 11)]⟩, ⟨[], [], .ap false (.e 3) (.e 12)⟩, ⟨[], [], .nop⟩] [some 0, none, none, some 13, some 4, none, none, none, none, none]))))))
   (.reg [⟨[], [], .nop⟩, ⟨[], [], .bi .add (.e 4) (.c (.n 1))⟩, ⟨[], [], .nop⟩] [some 0, none, none, some 3, some 10, none, none, none, none, none])))))))))
 ((.seq (.reg [⟨[], [], .nop⟩, ⟨[], [], .nop⟩, ⟨[], [], .cs .v (.b true)⟩] [none, some 3, some 10, none, none, none, none, none, none, none])
 (.ret))))))))))⟩

/-- loop.example/g03401/impl.MultiplySeries -/
def ir_impl_MultiplySeries : IF := ⟨2, 5, [2, 3],
 (.seq (.reg [⟨[], [], .cs (.o .v) (.l [])⟩, ⟨[], [], .cs .v (.b false)⟩] [some 0, some 1, none, none, none])
 ((.seq ((.seq (.reg [⟨[], [], .nop⟩, ⟨[], [], .ca 70 [(.e 0)] 1⟩, ⟨[], [], .un .not (.e 5)⟩, ⟨[], [], .nop⟩, ⟨[], [(6, false)], .nop⟩, ⟨[], [(6, false)], .ca 70 [(.e 1)] 1⟩, ⟨[], [(6, false)], .un .not (.e 7)⟩, ⟨[], [], .pk (.e 6) (.c (.b true)) (.e 8)⟩, ⟨[], [], .nop⟩, ⟨[], [(9, false)], .nop⟩, ⟨[], [(9, false)], .ln (.e 0) []⟩, ⟨[], [(9, false)], .nop⟩, ⟨[], [(9, false)], .ln (.e 1) []⟩, ⟨[], [(9, false)], .bi .neq (.e 10) (.e 11)⟩, ⟨[], [], .pk (.e 9) (.c (.b true)) (.e 12)⟩] [some 0, some 1, none, none, some 13])
 (.cond 4 ((.seq (.reg [⟨[], [], .li (.o .v) []⟩, ⟨[], [], .nop⟩, ⟨[], [], .cs .v (.b false)⟩] [none, none, some 5, some 6, none])
  (.ret))) (.skip))))
 ((.seq (.reg [⟨[], [], .nop⟩, ⟨[], [], .nop⟩, ⟨[], [], .ca 71 [(.e 0), (.e 1)] 1⟩, ⟨[], [], .nop⟩, ⟨[], [], .cs .v (.b true)⟩] [none, none, some 5, some 6, none])
 (.ret))))))⟩

/-- loop.example/g03401/impl.SatisfiesCatalan -/
def ir_impl_SatisfiesCatalan : IF := ⟨1, 4, [1],
 (.seq (.reg [⟨[], [], .cs .v (.b false)⟩] [some 0, none, none, none])
 ((.seq ((.seq (.reg [⟨[], [], .nop⟩, ⟨[], [], .ca 70 [(.e 0)] 1⟩, ⟨[], [], .un .not (.e 4)⟩, ⟨[], [], .nop⟩, ⟨[], [(5, false)], .nop⟩, ⟨[], [(5, false)], .iy (.e 0) (.c (.n 0))⟩, ⟨[], [(5, false)], .nop⟩, ⟨[], [(5, false)], .bi .neq (.e 6) (.c (.n 1))⟩, ⟨[], [], .pk (.e 5) (.c (.b true)) (.e 7)⟩] [some 0, none, none, some 8])
 (.cond 3 ((.seq (.reg [⟨[], [], .cs .v (.b false)⟩] [none, some 4, none, none])
  (.ret))) (.skip))))
 ((.seq (.reg [⟨[], [], .nop⟩, ⟨[], [], .nop⟩, ⟨[], [], .ca 71 [(.e 0), (.e 0)] 1⟩, ⟨[], [], .nop⟩] [some 0, none, some 4, none])
 ((.seq (.reg [⟨[], [], .nop⟩, ⟨[], [], .sb false (.e 0) (some (.c (.n 1))) none⟩, ⟨[], [], .nop⟩, ⟨[], [], .nop⟩, ⟨[], [], .ln (.e 0) []⟩, ⟨[], [], .bi .sub (.e 5) (.c (.n 1))⟩, ⟨[], [], .sb false (.e 2) none (some (.e 6))⟩, ⟨[], [], .ca 72 [(.e 4), (.e 7)] 1⟩, ⟨[], [], .nop⟩] [none, some 8, none, none])
 (.ret))))))))⟩

/-- loop.example/g03401/impl.areTerms -/
def ir_impl_areTerms : IF := ⟨1, 8, [1],
 (.seq (.reg [⟨[], [], .cs .v (.b false)⟩] [some 0, none, none, none, none, none, none, none])
 ((.seq ((.seq (.reg [⟨[], [], .nop⟩, ⟨[], [], .ln (.e 0) []⟩, ⟨[], [], .cs .v (.n 0)⟩] [some 0, none, none, some 0, some 8, some 9, none, none])
 (.block 0 (.loop ((.seq (.reg [⟨[], [], .bi .lss (.e 5) (.e 4)⟩] [some 0, none, none, some 3, some 4, some 5, some 8, none])
   ((.seq (.cond 6 (.skip) (.exit 0))
   ((.seq (.block 1 ((.seq (.reg [⟨[], [], .iy (.e 3) (.e 5)⟩, ⟨[], [], .nop⟩, ⟨[], [], .nop⟩] [some 0, none, some 8, some 3, some 4, some 5, none, none])
    ((.seq (.reg [⟨[], [], .nop⟩, ⟨[], [], .ca 23 [(.e 2), (.c (.n (-1000000))), (.c (.n 1000000))] 1⟩, ⟨[], [], .un .not (.e 8)⟩] [some 0, none, none, some 3, some 4, some 5, none, some 9])
    (.cond 7 ((.seq (.reg [⟨[], [], .cs .v (.b false)⟩] [none, some 8, none, none, none, none, none, none])
     (.ret))) (.skip)))))))
   (.reg [⟨[], [], .bi .add (.e 5) (.c (.n 1))⟩, ⟨[], [], .nop⟩] [some 0, none, none, some 3, some 4, some 8, none, none])))))))))))
 ((.seq (.reg [⟨[], [], .nop⟩, ⟨[], [], .ln (.e 0) []⟩, ⟨[], [], .ca 23 [(.e 8), (.c (.n 1)), (.c (.n 12))] 1⟩, ⟨[], [], .nop⟩] [none, some 9, none, none, none, none, none, none])
 (.ret))))))⟩

/-- loop.example/g03401/impl.areWithin -/
def ir_impl_areWithin : IF := ⟨3, 10, [3],
 (.seq (.reg [⟨[], [], .cs .v (.b false)⟩] [some 0, some 1, some 2, none, none, none, none, none, none, none])
 ((.seq ((.seq (.reg [⟨[], [], .nop⟩, ⟨[], [], .ln (.e 0) []⟩, ⟨[], [], .cs .v (.n 0)⟩] [none, some 1, some 2, none, none, some 0, some 10, some 11, none, none])
 (.block 0 (.loop ((.seq (.reg [⟨[], [], .bi .lss (.e 7) (.e 6)⟩] [none, some 1, some 2, none, none, some 5, some 6, some 7, some 10, none])
   ((.seq (.cond 8 (.skip) (.exit 0))
   ((.seq (.block 1 ((.seq (.reg [⟨[], [], .iy (.e 5) (.e 7)⟩, ⟨[], [], .nop⟩, ⟨[], [], .nop⟩] [none, some 1, some 2, none, some 10, some 5, some 6, some 7, none, none])
    ((.seq (.reg [⟨[], [], .nop⟩, ⟨[], [], .nop⟩, ⟨[], [], .nop⟩, ⟨[], [], .ca 23 [(.e 4), (.e 1), (.e 2)] 1⟩, ⟨[], [], .un .not (.e 10)⟩] [none, some 1, some 2, none, none, some 5, some 6, some 7, none, some 11])
    (.cond 9 ((.seq (.reg [⟨[], [], .cs .v (.b false)⟩] [none, none, none, some 10, none, none, none, none, none, none])
     (.ret))) (.skip)))))))
   (.reg [⟨[], [], .bi .add (.e 7) (.c (.n 1))⟩, ⟨[], [], .nop⟩] [none, some 1, some 2, none, none, some 5, some 6, some 10, none, none])))))))))))
 ((.seq (.reg [⟨[], [], .cs .v (.b true)⟩] [none, none, none, some 10, none, none, none, none, none, none])
 (.ret))))))⟩

/-- loop.example/g03401/impl.times -/
def ir_impl_times : IF := ⟨2, 10, [2],
 (.seq (.reg [⟨[], [], .cs (.o .v) (.l [])⟩] [some 0, some 1, none, none, none, none, none, none, none, none])
 ((.seq (.reg [⟨[], [], .nop⟩, ⟨[], [], .ln (.e 0) []⟩, ⟨[], [], .mk (.n 0) (.e 10) (.e 10)⟩, ⟨[], [], .nop⟩] [some 0, some 1, none, some 11, none, none, none, none, none, none])
 ((.seq ((.seq (.reg [⟨[], [], .nop⟩, ⟨[], [], .ln (.e 0) []⟩, ⟨[], [], .cs .v (.n 0)⟩] [some 0, some 1, none, some 3, none, none, some 10, some 11, none, none])
 (.block 0 (.loop ((.seq (.reg [⟨[], [], .bi .lss (.e 7) (.e 6)⟩] [some 0, some 1, none, some 3, none, none, some 6, some 7, some 10, none])
   ((.seq (.cond 8 (.skip) (.exit 0))
   ((.seq (.block 1 ((.seq (.reg [⟨[], [], .nop⟩, ⟨[], [], .nop⟩] [some 0, some 1, none, some 3, some 7, none, some 6, some 7, none, none])
    ((.seq (.reg [⟨[], [], .cs .v (.n 0)⟩] [some 0, some 1, none, some 3, some 4, some 10, some 6, some 7, none, none])
    (.block 2 (.loop ((.seq ((.seq (.reg [⟨[], [], .nop⟩, ⟨[], [], .nop⟩, ⟨[], [], .bi .leq (.e 5) (.e 4)⟩] [some 0, some 1, none, some 3, some 4, some 5, some 6, some 7, none, some 10])
      (.cond 9 (.skip) (.exit 2))))
      ((.seq (.block 3 (.reg [⟨[], [], .nop⟩, ⟨[], [], .nop⟩, ⟨[], [], .nop⟩, ⟨[], [], .nop⟩, ⟨[], [], .ix (.e 3) [] (.e 4)⟩, ⟨[], [], .nop⟩, ⟨[], [], .nop⟩, ⟨[], [], .nop⟩, ⟨[], [], .iy (.e 0) (.e 5)⟩, ⟨[], [], .nop⟩, ⟨[], [], .nop⟩, ⟨[], [], .nop⟩, ⟨[], [], .nop⟩, ⟨[], [], .bi .sub (.e 4) (.e 5)⟩, ⟨[], [], .iy (.e 1) (.e 12)⟩, ⟨[], [], .nop⟩, ⟨[], [], .bi .mul (.e 11) (.e 13)⟩, ⟨[], [], .bi .add (.e 10) (.e 14)⟩, ⟨[], [], .ix (.e 3) [] (.e 4)⟩, ⟨[], [], .up 3 [.e 4] (.e 15)⟩] [some 0, some 1, none, some 17, some 4, some 5, some 6, some 7, none, none]))
      (.reg [⟨[], [], .nop⟩, ⟨[], [], .bi .add (.e 5) (.c (.n 1))⟩, ⟨[], [], .nop⟩] [some 0, some 1, none, some 3, some 4, some 10, some 6, some 7, none, none]))))))))))))
   (.reg [⟨[], [], .bi .add (.e 7) (.c (.n 1))⟩, ⟨[], [], .nop⟩] [some 0, some 1, none, some 3, none, none, some 6, some 10, none, none])))))))))))
 ((.seq (.reg [⟨[], [], .nop⟩, ⟨[], [], .nop⟩] [none, none, some 3, none, none, none, none, none, none, none])
 (.ret))))))))⟩

end Go.Cat
