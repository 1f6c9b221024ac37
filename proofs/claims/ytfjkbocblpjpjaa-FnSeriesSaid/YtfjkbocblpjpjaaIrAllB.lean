/-
  Texts of the little language.
-/
import Derived.Test.YtfjkbocblpjpjaaCatTwo
namespace Go.Cat
/-- loop.example/g03401/spec.Contains231 -/
def ir_spec_Contains231 : IF := ⟨[], 1, 9, [1],
 (.seq (.reg [⟨[], [], .cs .v (.b false)⟩] [some 0, none, none, none, none, none, none, none, none])
 ((.seq ((.seq (.reg [⟨[], [], .cs .v (.n 0)⟩] [some 0, none, some 9, none, none, none, none, none, none])
 (.block 0 (.loop ((.seq ((.seq (.reg [⟨[], [], .nop⟩, ⟨[], [], .nop⟩, ⟨[], [], .ln (.e 0) []⟩, ⟨[], [], .bi .lss (.e 2) (.e 9)⟩, ⟨[], [], .nop⟩, ⟨[], [(10, true)], .nop⟩, ⟨[], [(10, true)], .ca 73 [(.e 0)] 1⟩, ⟨[], [], .pk (.e 10) (.e 11) (.c (.b false))⟩] [some 0, none, some 2, none, none, some 12, none, none, none])
   (.cond 5 (.skip) (.exit 0))))
   ((.seq (.block 1 ((.seq (.reg [⟨[], [], .nop⟩, ⟨[], [], .bi .add (.e 2) (.c (.n 1))⟩, ⟨[], [], .nop⟩] [some 0, none, some 2, some 9, none, none, none, none, none])
    (.block 2 (.loop ((.seq ((.seq (.reg [⟨[], [], .nop⟩, ⟨[], [], .nop⟩, ⟨[], [], .ln (.e 0) []⟩, ⟨[], [], .bi .lss (.e 3) (.e 9)⟩] [some 0, none, some 2, some 3, none, none, some 10, none, none])
      (.cond 6 (.skip) (.exit 2))))
      ((.seq (.block 3 ((.seq (.reg [⟨[], [], .nop⟩, ⟨[], [], .bi .add (.e 3) (.c (.n 1))⟩, ⟨[], [], .nop⟩] [some 0, none, some 2, some 3, some 9, none, none, none, none])
       (.block 4 (.loop ((.seq ((.seq (.reg [⟨[], [], .nop⟩, ⟨[], [], .nop⟩, ⟨[], [], .ln (.e 0) []⟩, ⟨[], [], .bi .lss (.e 4) (.e 9)⟩] [some 0, none, some 2, some 3, some 4, none, none, some 10, none])
         (.cond 7 (.skip) (.exit 4))))
         ((.seq (.block 5 ((.seq (.reg [⟨[], [], .nop⟩, ⟨[], [], .nop⟩, ⟨[], [], .iy (.e 0) (.e 4)⟩, ⟨[], [], .nop⟩, ⟨[], [], .nop⟩, ⟨[], [], .nop⟩, ⟨[], [], .iy (.e 0) (.e 2)⟩, ⟨[], [], .nop⟩, ⟨[], [], .bi .lss (.e 9) (.e 10)⟩, ⟨[], [], .nop⟩, ⟨[], [(11, true)], .nop⟩, ⟨[], [(11, true)], .cy (.e 2)⟩, ⟨[], [(11, true)], .iy (.e 0) (.e 12)⟩, ⟨[], [(11, true)], .nop⟩, ⟨[], [(11, true)], .nop⟩, ⟨[], [(11, true)], .cy (.e 3)⟩, ⟨[], [(11, true)], .iy (.e 0) (.e 14)⟩, ⟨[], [(11, true)], .nop⟩, ⟨[], [(11, true)], .bi .lss (.e 13) (.e 15)⟩, ⟨[], [], .pk (.e 11) (.e 16) (.c (.b false))⟩] [some 0, none, some 2, some 3, some 4, none, none, none, some 17])
          (.cond 8 ((.seq (.reg [⟨[], [], .cs .v (.b true)⟩] [none, some 9, none, none, none, none, none, none, none])
           (.ret))) (.skip)))))
         (.reg [⟨[], [], .nop⟩, ⟨[], [], .bi .add (.e 4) (.c (.n 1))⟩, ⟨[], [], .nop⟩] [some 0, none, some 2, some 3, some 9, none, none, none, none]))))))))))
      (.reg [⟨[], [], .nop⟩, ⟨[], [], .bi .add (.e 3) (.c (.n 1))⟩, ⟨[], [], .nop⟩] [some 0, none, some 2, some 9, none, none, none, none, none]))))))))))
   (.reg [⟨[], [], .nop⟩, ⟨[], [], .bi .add (.e 2) (.c (.n 1))⟩, ⟨[], [], .nop⟩] [some 0, none, some 9, none, none, none, none, none, none])))))))))
 ((.seq (.reg [⟨[], [], .cs .v (.b false)⟩] [none, some 9, none, none, none, none, none, none, none])
 (.ret))))))⟩

/-- loop.example/g03401/spec.IsPermutation -/
def ir_spec_IsPermutation : IF := ⟨[], 1, 8, [1],
 (.seq (.reg [⟨[], [], .cs .v (.b false)⟩] [some 0, none, none, none, none, none, none, none])
 ((.seq ((.seq (.reg [⟨[], [], .cs .v (.n 0)⟩] [some 0, none, some 8, none, none, none, none, none])
 (.block 0 (.loop ((.seq ((.seq (.reg [⟨[], [], .nop⟩, ⟨[], [], .nop⟩, ⟨[], [], .ln (.e 0) []⟩, ⟨[], [], .bi .lss (.e 2) (.e 8)⟩] [some 0, none, some 2, none, some 9, none, none, none])
   (.cond 4 (.skip) (.exit 0))))
   ((.seq (.block 1 ((.seq ((.seq (.reg [⟨[], [], .nop⟩, ⟨[], [], .nop⟩, ⟨[], [], .iy (.e 0) (.e 2)⟩, ⟨[], [], .nop⟩, ⟨[], [], .nop⟩, ⟨[], [], .ln (.e 0) []⟩, ⟨[], [], .bi .sub (.e 9) (.c (.n 1))⟩, ⟨[], [], .ca 22 [(.e 8), (.c (.n 0)), (.e 10)] 1⟩, ⟨[], [], .un .not (.e 11)⟩] [some 0, none, some 2, none, none, some 12, none, none])
    (.cond 5 ((.seq (.reg [⟨[], [], .cs .v (.b false)⟩] [none, some 8, none, none, none, none, none, none])
     (.ret))) (.skip))))
    ((.seq (.reg [⟨[], [], .cs .v (.n 0)⟩] [some 0, none, some 2, some 8, none, none, none, none])
    (.block 2 (.loop ((.seq ((.seq (.reg [⟨[], [], .nop⟩, ⟨[], [], .nop⟩, ⟨[], [], .bi .lss (.e 3) (.e 2)⟩] [some 0, none, some 2, some 3, none, none, some 8, none])
      (.cond 6 (.skip) (.exit 2))))
      ((.seq (.block 3 ((.seq (.reg [⟨[], [], .nop⟩, ⟨[], [], .nop⟩, ⟨[], [], .iy (.e 0) (.e 3)⟩, ⟨[], [], .nop⟩, ⟨[], [], .nop⟩, ⟨[], [], .nop⟩, ⟨[], [], .iy (.e 0) (.e 2)⟩, ⟨[], [], .nop⟩, ⟨[], [], .bi .eql (.e 8) (.e 9)⟩] [some 0, none, some 2, some 3, none, none, none, some 10])
       (.cond 7 ((.seq (.reg [⟨[], [], .cs .v (.b false)⟩] [none, some 8, none, none, none, none, none, none])
        (.ret))) (.skip)))))
      (.reg [⟨[], [], .nop⟩, ⟨[], [], .bi .add (.e 3) (.c (.n 1))⟩, ⟨[], [], .nop⟩] [some 0, none, some 2, some 8, none, none, none, none]))))))))))))
   (.reg [⟨[], [], .nop⟩, ⟨[], [], .bi .add (.e 2) (.c (.n 1))⟩, ⟨[], [], .nop⟩] [some 0, none, some 8, none, none, none, none, none])))))))))
 ((.seq (.reg [⟨[], [], .nop⟩, ⟨[], [], .ln (.e 0) []⟩, ⟨[], [], .bi .leq (.e 8) (.c (.n 8))⟩, ⟨[], [], .nop⟩] [none, some 9, none, none, none, none, none, none])
 (.ret))))))⟩

/-- loop.example/g03401/spec.PathOfPermutation -/
def ir_spec_PathOfPermutation : IF := ⟨[], 1, 10, [1, 2],
 (.seq (.reg [⟨[], [], .cs .v (.s [])⟩, ⟨[], [], .cs .v (.b false)⟩] [some 0, none, none, none, none, none, none, none, none, none])
 ((.seq ((.seq (.reg [⟨[], [], .nop⟩, ⟨[], [], .ca 73 [(.e 0)] 1⟩, ⟨[], [], .un .not (.e 10)⟩, ⟨[], [], .nop⟩, ⟨[], [(11, false)], .nop⟩, ⟨[], [(11, false)], .ca 186 [(.e 0)] 1⟩, ⟨[], [], .pk (.e 11) (.c (.b true)) (.e 12)⟩] [some 0, none, none, none, none, none, none, some 13, none, none])
 (.cond 7 ((.seq (.reg [⟨[], [], .cs .v (.s [])⟩, ⟨[], [], .cs .v (.b false)⟩] [none, some 10, some 11, none, none, none, none, none, none, none])
  (.ret))) (.skip))))
 ((.seq (.reg [⟨[], [], .cs .v (.s [])⟩] [some 0, none, none, some 10, none, none, none, none, none, none])
 ((.seq (.reg [⟨[], [], .li (.o .v) []⟩, ⟨[], [], .nop⟩] [some 0, none, none, some 3, some 10, none, none, none, none, none])
 ((.seq (.reg [⟨[], [], .cs .v (.n 0)⟩] [some 0, none, none, some 3, some 4, some 10, none, none, none, none])
 ((.seq ((.seq (.reg [⟨[], [], .cs .v (.n 0)⟩] [some 0, none, none, some 3, some 4, some 5, some 10, none, none, none])
 (.block 0 (.loop ((.seq ((.seq (.reg [⟨[], [], .nop⟩, ⟨[], [], .nop⟩, ⟨[], [], .ln (.e 0) []⟩, ⟨[], [], .bi .lss (.e 6) (.e 10)⟩] [some 0, none, none, some 3, some 4, some 5, some 6, none, some 11, none])
   (.cond 8 (.skip) (.exit 0))))
   ((.seq (.block 1 ((.seq (.reg [⟨[], [], .nop⟩, ⟨[], [], .bi .add (.e 3) (.c (.s [117]))⟩, ⟨[], [], .nop⟩] [some 0, none, none, some 10, some 4, some 5, some 6, none, none, none])
    ((.seq (.reg [⟨[], [], .nop⟩, ⟨[], [], .nop⟩, ⟨[], [], .nop⟩, ⟨[], [], .iy (.e 0) (.e 6)⟩, ⟨[], [], .nop⟩, ⟨[], [], .li (.o .v) [(.e 10)]⟩, ⟨[], [], .ap false (.e 4) (.e 11)⟩, ⟨[], [], .nop⟩] [some 0, none, none, some 3, some 12, some 5, some 6, none, none, none])
    (.block 2 (.loop ((.seq ((.seq (.reg [⟨[], [], .nop⟩, ⟨[], [], .ln (.e 4) []⟩, ⟨[], [], .bi .gtr (.e 10) (.c (.n 0))⟩, ⟨[], [], .nop⟩, ⟨[], [(11, true)], .nop⟩, ⟨[], [(11, true)], .nop⟩, ⟨[], [(11, true)], .ln (.e 4) []⟩, ⟨[], [(11, true)], .bi .sub (.e 12) (.c (.n 1))⟩, ⟨[], [(11, true)], .ix (.e 4) [] (.e 13)⟩, ⟨[], [(11, true)], .nop⟩, ⟨[], [(11, true)], .cy (.e 5)⟩, ⟨[], [(11, true)], .bi .eql (.e 14) (.e 15)⟩, ⟨[], [], .pk (.e 11) (.e 16) (.c (.b false))⟩] [some 0, none, none, some 3, some 4, some 5, some 6, none, none, some 17])
      (.cond 9 (.skip) (.exit 2))))
      (.block 3 ((.seq (.reg [⟨[], [], .nop⟩, ⟨[], [], .bi .add (.e 3) (.c (.s [100]))⟩, ⟨[], [], .nop⟩] [some 0, none, none, some 10, some 4, some 5, some 6, none, none, none])
       ((.seq (.reg [⟨[], [], .nop⟩, ⟨[], [], .nop⟩, ⟨[], [], .ln (.e 4) []⟩, ⟨[], [], .bi .sub (.e 10) (.c (.n 1))⟩, ⟨[], [], .sb true (.e 4) none (some (.e 11))⟩, ⟨[], [], .nop⟩] [some 0, none, none, some 3, some 12, some 5, some 6, none, none, none])
       (.reg [⟨[], [], .nop⟩, ⟨[], [], .bi .add (.e 5) (.c (.n 1))⟩, ⟨[], [], .nop⟩] [some 0, none, none, some 3, some 4, some 10, some 6, none, none, none])))))))))))))))
   (.reg [⟨[], [], .nop⟩, ⟨[], [], .bi .add (.e 6) (.c (.n 1))⟩, ⟨[], [], .nop⟩] [some 0, none, none, some 3, some 4, some 5, some 10, none, none, none])))))))))
 ((.seq (.reg [⟨[], [], .nop⟩, ⟨[], [], .nop⟩, ⟨[], [], .cs .v (.b true)⟩] [none, some 3, some 10, none, none, none, none, none, none, none])
 (.ret))))))))))))))⟩

/-- loop.example/g03401/spec.PermutationOf -/
def ir_spec_PermutationOf : IF := ⟨[], 1, 11, [1, 2],
 (.seq (.reg [⟨[], [], .cs (.o .v) (.l [])⟩, ⟨[], [], .cs .v (.b false)⟩] [some 0, none, none, none, none, none, none, none, none, none, none])
 ((.seq ((.seq (.reg [⟨[], [], .nop⟩, ⟨[], [], .ca 64 [(.e 0)] 1⟩, ⟨[], [], .un .not (.e 11)⟩] [some 0, none, none, none, none, none, none, none, some 12, none, none])
 (.cond 8 ((.seq (.reg [⟨[], [], .li (.o .v) []⟩, ⟨[], [], .nop⟩, ⟨[], [], .cs .v (.b false)⟩] [none, some 11, some 12, none, none, none, none, none, none, none, none])
  (.ret))) (.skip))))
 ((.seq (.reg [⟨[], [], .nop⟩, ⟨[], [], .sn (.e 0)⟩, ⟨[], [], .bi .quo (.e 11) (.c (.n 2))⟩, ⟨[], [], .mk (.n 0) (.e 12) (.e 12)⟩, ⟨[], [], .nop⟩] [some 0, none, none, some 13, none, none, none, none, none, none, none])
 ((.seq (.reg [⟨[], [], .li (.o .v) []⟩, ⟨[], [], .nop⟩] [some 0, none, none, some 3, some 11, none, none, none, none, none, none])
 ((.seq (.reg [⟨[], [], .cs .v (.n 0)⟩] [some 0, none, none, some 3, some 4, some 11, none, none, none, none, none])
 ((.seq (.reg [⟨[], [], .cs .v (.n 0)⟩] [some 0, none, none, some 3, some 4, some 5, some 11, none, none, none, none])
 ((.seq ((.seq (.reg [⟨[], [], .cs .v (.n 0)⟩] [some 0, none, none, some 3, some 4, some 5, some 6, some 11, none, none, none])
 (.block 0 (.loop ((.seq ((.seq (.reg [⟨[], [], .nop⟩, ⟨[], [], .nop⟩, ⟨[], [], .sn (.e 0)⟩, ⟨[], [], .bi .lss (.e 7) (.e 11)⟩] [some 0, none, none, some 3, some 4, some 5, some 6, some 7, none, some 12, none])
   (.cond 9 (.skip) (.exit 0))))
   ((.seq (.block 1 ((.seq ((.seq (.reg [⟨[], [], .nop⟩, ⟨[], [], .nop⟩, ⟨[], [], .sx (.e 0) (.e 7)⟩, ⟨[], [], .bi .eql (.e 11) (.c (.y 117))⟩] [some 0, none, none, some 3, some 4, some 5, some 6, some 7, none, none, some 12])
    (.cond 10 ((.seq (.reg [⟨[], [], .nop⟩, ⟨[], [], .nop⟩, ⟨[], [], .li (.o .v) [(.e 5)]⟩, ⟨[], [], .ap false (.e 4) (.e 11)⟩, ⟨[], [], .nop⟩] [some 0, none, none, some 3, some 12, some 5, some 6, some 7, none, none, none])
     ((.seq (.reg [⟨[], [], .nop⟩, ⟨[], [], .bi .add (.e 5) (.c (.n 1))⟩, ⟨[], [], .nop⟩] [some 0, none, none, some 3, some 4, some 11, some 6, some 7, none, none, none])
     (.exit 1))))) (.skip))))
    ((.seq (.reg [⟨[], [], .nop⟩, ⟨[], [], .nop⟩, ⟨[], [], .nop⟩, ⟨[], [], .ln (.e 4) []⟩, ⟨[], [], .bi .sub (.e 11) (.c (.n 1))⟩, ⟨[], [], .ix (.e 4) [] (.e 12)⟩, ⟨[], [], .nop⟩, ⟨[], [], .nop⟩, ⟨[], [], .ix (.e 3) [] (.e 13)⟩, ⟨[], [], .up 3 [.e 13] (.e 6)⟩] [some 0, none, none, some 15, some 4, some 5, some 6, some 7, none, none, none])
    ((.seq (.reg [⟨[], [], .nop⟩, ⟨[], [], .nop⟩, ⟨[], [], .ln (.e 4) []⟩, ⟨[], [], .bi .sub (.e 11) (.c (.n 1))⟩, ⟨[], [], .sb true (.e 4) none (some (.e 12))⟩, ⟨[], [], .nop⟩] [some 0, none, none, some 3, some 13, some 5, some 6, some 7, none, none, none])
    (.reg [⟨[], [], .nop⟩, ⟨[], [], .bi .add (.e 6) (.c (.n 1))⟩, ⟨[], [], .nop⟩] [some 0, none, none, some 3, some 4, some 5, some 11, some 7, none, none, none]))))))))
   (.reg [⟨[], [], .nop⟩, ⟨[], [], .bi .add (.e 7) (.c (.n 1))⟩, ⟨[], [], .nop⟩] [some 0, none, none, some 3, some 4, some 5, some 6, some 11, none, none, none])))))))))
 ((.seq (.reg [⟨[], [], .nop⟩, ⟨[], [], .nop⟩, ⟨[], [], .cs .v (.b true)⟩] [none, some 3, some 11, none, none, none, none, none, none, none, none])
 (.ret))))))))))))))))⟩

/-- loop.example/g03401/spec.l10All -/
def ir_spec_l10All : IF := ⟨[], 2, 11, [2],
 (.seq (.reg [⟨[], [], .cs (.o .v) (.l [])⟩] [some 0, some 1, none, none, none, none, none, none, none, none, none])
 ((.seq ((.seq (.reg [⟨[], [], .nop⟩, ⟨[], [], .ln (.e 1) []⟩, ⟨[], [], .nop⟩, ⟨[], [], .bi .eql (.e 11) (.e 0)⟩] [some 0, some 1, none, none, none, none, none, some 12, none, none, none])
 (.cond 7 ((.seq (.reg [⟨[], [], .nop⟩, ⟨[], [], .li (.o .v) [(.e 1)]⟩, ⟨[], [], .nop⟩] [none, none, some 11, none, none, none, none, none, none, none, none])
  (.ret))) (.skip))))
 ((.seq (.reg [⟨[], [], .li (.o .v) []⟩, ⟨[], [], .nop⟩] [some 0, some 1, none, some 11, none, none, none, none, none, none, none])
 ((.seq ((.seq (.reg [⟨[], [], .cs .v (.n 0)⟩] [some 0, some 1, none, some 3, some 11, none, none, none, none, none, none])
 (.block 0 (.loop ((.seq ((.seq (.reg [⟨[], [], .nop⟩, ⟨[], [], .nop⟩, ⟨[], [], .bi .lss (.e 4) (.e 0)⟩] [some 0, some 1, none, some 3, some 4, none, none, none, some 11, none, none])
   (.cond 8 (.skip) (.exit 0))))
   ((.seq (.block 1 ((.seq (.reg [⟨[], [], .cs .v (.b false)⟩] [some 0, some 1, none, some 3, some 4, some 11, none, none, none, none, none])
    ((.seq ((.seq (.reg [⟨[], [], .cs .v (.n 0)⟩] [some 0, some 1, none, some 3, some 4, some 5, some 11, none, none, none, none])
    (.block 2 (.loop ((.seq ((.seq (.reg [⟨[], [], .nop⟩, ⟨[], [], .nop⟩, ⟨[], [], .ln (.e 1) []⟩, ⟨[], [], .bi .lss (.e 6) (.e 11)⟩] [some 0, some 1, none, some 3, some 4, some 5, some 6, none, none, some 12, none])
      (.cond 9 (.skip) (.exit 2))))
      ((.seq (.block 3 (.reg [⟨[], [], .nop⟩, ⟨[], [], .nop⟩, ⟨[], [(5, false)], .cy (.e 1)⟩, ⟨[], [(5, false)], .cy (.e 6)⟩, ⟨[], [(5, false)], .ix (.e 11) [] (.e 12)⟩, ⟨[], [(5, false)], .nop⟩, ⟨[], [(5, false)], .cy (.e 4)⟩, ⟨[], [(5, false)], .bi .eql (.e 13) (.e 14)⟩, ⟨[], [], .pk (.e 5) (.c (.b true)) (.e 15)⟩, ⟨[], [], .nop⟩] [some 0, some 1, none, some 3, some 4, some 16, some 6, none, none, none, none]))
      (.reg [⟨[], [], .nop⟩, ⟨[], [], .bi .add (.e 6) (.c (.n 1))⟩, ⟨[], [], .nop⟩] [some 0, some 1, none, some 3, some 4, some 5, some 11, none, none, none, none])))))))))
    ((.seq (.reg [⟨[], [], .nop⟩, ⟨[], [], .un .not (.e 5)⟩] [some 0, some 1, none, some 3, some 4, none, none, none, none, none, some 11])
    (.cond 10 (.reg [⟨[], [], .nop⟩, ⟨[], [], .nop⟩, ⟨[], [], .li (.o .v) []⟩, ⟨[], [], .nop⟩, ⟨[], [], .ap false (.e 11) (.e 1)⟩, ⟨[], [], .nop⟩, ⟨[], [], .li (.o .v) [(.e 4)]⟩, ⟨[], [], .ap false (.e 12) (.e 13)⟩, ⟨[], [], .ca 133 [(.e 0), (.e 14)] 1⟩, ⟨[], [], .ap false (.e 3) (.e 15)⟩, ⟨[], [], .nop⟩] [some 0, some 1, none, some 16, some 4, none, none, none, none, none, none]) (.skip)))))))))
   (.reg [⟨[], [], .nop⟩, ⟨[], [], .bi .add (.e 4) (.c (.n 1))⟩, ⟨[], [], .nop⟩] [some 0, some 1, none, some 3, some 11, none, none, none, none, none, none])))))))))
 ((.seq (.reg [⟨[], [], .nop⟩, ⟨[], [], .nop⟩] [none, none, some 3, none, none, none, none, none, none, none, none])
 (.ret))))))))))⟩

end Go.Cat

namespace Go.Cat
/-- loop.example/g03401/laws.FnExactHankelOf -/
def ir_laws_FnExactHankelOf : IF := ⟨[], 3, 12, [3],
 (.seq (.reg [⟨[], [], .cs .v (.b false)⟩] [some 0, some 1, some 2, none, none, none, none, none, none, none, none, none])
 ((.seq ((.seq (.reg [⟨[], [], .nop⟩, ⟨[], [], .ln (.e 0) []⟩, ⟨[], [], .bi .gtr (.e 12) (.c (.n 1048576))⟩] [some 0, some 1, some 2, none, none, none, none, none, none, some 13, none, none])
 (.cond 9 ((.seq (.reg [⟨[], [], .cs .v (.b true)⟩] [none, none, none, some 12, none, none, none, none, none, none, none, none])
  (.ret))) (.skip))))
 ((.seq (.reg [⟨[], [], .nop⟩, ⟨[], [], .ca 42 [(.e 0)] 1⟩, ⟨[], [], .nop⟩, ⟨[], [], .nop⟩, ⟨[], [], .ca 97 [(.e 12), (.e 1), (.e 2)] 2⟩, ⟨[], [], .nop⟩, ⟨[], [], .nop⟩, ⟨[], [], .nop⟩, ⟨[], [], .nop⟩, ⟨[], [], .nop⟩] [some 0, some 1, some 2, none, some 13, some 14, none, none, none, none, none, none])
 ((.seq (.reg [⟨[], [], .nop⟩, ⟨[], [], .ca 42 [(.e 0)] 1⟩, ⟨[], [], .nop⟩] [some 0, some 1, some 2, none, some 4, some 5, some 12, none, none, none, none, none])
 ((.seq (.reg [⟨[], [], .nop⟩, ⟨[], [], .nop⟩, ⟨[], [], .nop⟩, ⟨[], [], .ca 98 [(.e 6), (.e 1), (.e 2)] 2⟩, ⟨[], [], .nop⟩, ⟨[], [], .nop⟩, ⟨[], [], .nop⟩, ⟨[], [], .nop⟩, ⟨[], [], .nop⟩] [some 0, none, none, none, some 4, some 5, some 6, some 12, some 13, none, none, none])
 ((.seq ((.seq (.reg [⟨[], [], .nop⟩, ⟨[], [], .nop⟩, ⟨[], [], .bi .neq (.e 7) (.e 4)⟩, ⟨[], [], .nop⟩, ⟨[], [(12, false)], .cy (.e 8)⟩, ⟨[], [(12, false)], .cy (.e 5)⟩, ⟨[], [(12, false)], .bb .neq (.e 13) (.e 14)⟩, ⟨[], [], .pk (.e 12) (.c (.b true)) (.e 15)⟩] [some 0, none, none, none, none, none, some 6, none, none, none, some 16, none])
 (.cond 10 ((.seq (.reg [⟨[], [], .cs .v (.b false)⟩] [none, none, none, some 12, none, none, none, none, none, none, none, none])
  (.ret))) (.skip))))
 ((.seq ((.seq (.reg [⟨[], [], .nop⟩, ⟨[], [], .nop⟩, ⟨[], [], .ca 42 [(.e 0)] 1⟩, ⟨[], [], .ca 44 [(.e 6), (.e 12)] 1⟩, ⟨[], [], .un .not (.e 13)⟩] [none, none, none, none, none, none, none, none, none, none, none, some 14])
 (.cond 11 ((.seq (.reg [⟨[], [], .cs .v (.b false)⟩] [none, none, none, some 12, none, none, none, none, none, none, none, none])
  (.ret))) (.skip))))
 ((.seq (.reg [⟨[], [], .cs .v (.b true)⟩] [none, none, none, some 12, none, none, none, none, none, none, none, none])
 (.ret))))))))))))))))⟩

end Go.Cat

