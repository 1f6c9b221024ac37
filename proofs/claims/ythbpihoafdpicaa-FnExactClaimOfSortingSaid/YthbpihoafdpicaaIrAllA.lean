/-
  Texts of the little language.
-/
import Derived.Test.YthbpihoafdpicaaCatThree
namespace Go.Cat
/-- loop.example/g03401/laws.big -/
def ir_laws_big : IF := ⟨[], 1, 2, [1],
 (.seq (.reg [⟨[], [], .cs .v (.b false)⟩] [some 0, none])
 ((.seq (.reg [⟨[], [], .nop⟩, ⟨[], [], .ln (.e 0) []⟩, ⟨[], [], .bi .gtr (.e 2) (.c (.n 1048576))⟩, ⟨[], [], .nop⟩] [none, some 3])
 (.ret))))⟩

/-- loop.example/g03401/laws.eqClaim -/
def ir_laws_eqClaim : IF := ⟨[], 2, 12, [4],
 (.seq (.reg [⟨[], [], .bp (.e 0)⟩, ⟨[], [], .bp (.e 1)⟩, ⟨[], [], .cs .v (.b false)⟩] [none, none, some 12, some 13, none, none, none, none, none, none, none, none])
 ((.seq ((.seq (.reg [⟨[], [], .fp true (.e 2) 0⟩, ⟨[], [], .nop⟩, ⟨[], [], .fp true (.e 3) 0⟩, ⟨[], [], .nop⟩, ⟨[], [], .bi .neq (.e 12) (.e 13)⟩] [none, none, some 2, some 3, none, some 14, none, none, none, none, none, none])
 (.cond 5 ((.seq (.reg [⟨[], [], .cs .v (.b false)⟩] [none, none, none, none, some 12, none, none, none, none, none, none, none])
  (.ret))) (.skip))))
 ((.seq ((.seq (.reg [⟨[], [], .fp true (.e 2) 1⟩, ⟨[], [], .nop⟩, ⟨[], [], .fp true (.e 3) 1⟩, ⟨[], [], .nop⟩, ⟨[], [], .bi .neq (.e 12) (.e 13)⟩] [none, none, some 2, some 3, none, none, some 14, none, none, none, none, none])
 (.cond 6 ((.seq (.reg [⟨[], [], .cs .v (.b false)⟩] [none, none, none, none, some 12, none, none, none, none, none, none, none])
  (.ret))) (.skip))))
 ((.seq ((.seq (.reg [⟨[], [], .fp true (.e 2) 2⟩, ⟨[], [], .nop⟩, ⟨[], [], .fp true (.e 3) 2⟩, ⟨[], [], .nop⟩, ⟨[], [], .bi .neq (.e 12) (.e 13)⟩] [none, none, some 2, some 3, none, none, none, some 14, none, none, none, none])
 (.cond 7 ((.seq (.reg [⟨[], [], .cs .v (.b false)⟩] [none, none, none, none, some 12, none, none, none, none, none, none, none])
  (.ret))) (.skip))))
 ((.seq ((.seq (.reg [⟨[], [], .fp false (.e 2) 3⟩, ⟨[], [], .nop⟩, ⟨[], [], .fp false (.e 3) 3⟩, ⟨[], [], .nop⟩, ⟨[], [], .ca 15 [(.e 12), (.e 13)] 1⟩, ⟨[], [], .un .not (.e 14)⟩] [none, none, some 2, some 3, none, none, none, none, some 15, none, none, none])
 (.cond 8 ((.seq (.reg [⟨[], [], .cs .v (.b false)⟩] [none, none, none, none, some 12, none, none, none, none, none, none, none])
  (.ret))) (.skip))))
 ((.seq ((.seq (.reg [⟨[], [], .fp false (.e 2) 4⟩, ⟨[], [], .nop⟩, ⟨[], [], .fp false (.e 3) 4⟩, ⟨[], [], .nop⟩, ⟨[], [], .ca 44 [(.e 12), (.e 13)] 1⟩, ⟨[], [], .un .not (.e 14)⟩] [none, none, some 2, some 3, none, none, none, none, none, some 15, none, none])
 (.cond 9 ((.seq (.reg [⟨[], [], .cs .v (.b false)⟩] [none, none, none, none, some 12, none, none, none, none, none, none, none])
  (.ret))) (.skip))))
 ((.seq ((.seq (.reg [⟨[], [], .fp false (.e 2) 5⟩, ⟨[], [], .nop⟩, ⟨[], [], .fp false (.e 3) 5⟩, ⟨[], [], .nop⟩, ⟨[], [], .ca 44 [(.e 12), (.e 13)] 1⟩, ⟨[], [], .un .not (.e 14)⟩] [none, none, some 2, some 3, none, none, none, none, none, none, some 15, none])
 (.cond 10 ((.seq (.reg [⟨[], [], .cs .v (.b false)⟩] [none, none, none, none, some 12, none, none, none, none, none, none, none])
  (.ret))) (.skip))))
 ((.seq ((.seq (.reg [⟨[], [], .fp false (.e 2) 6⟩, ⟨[], [], .nop⟩, ⟨[], [], .fp false (.e 3) 6⟩, ⟨[], [], .nop⟩, ⟨[], [], .ca 155 [(.e 12), (.e 13)] 1⟩, ⟨[], [], .un .not (.e 14)⟩] [none, none, none, none, none, none, none, none, none, none, none, some 15])
 (.cond 11 ((.seq (.reg [⟨[], [], .cs .v (.b false)⟩] [none, none, none, none, some 12, none, none, none, none, none, none, none])
  (.ret))) (.skip))))
 ((.seq (.reg [⟨[], [], .cs .v (.b true)⟩] [none, none, none, none, some 12, none, none, none, none, none, none, none])
 (.ret))))))))))))))))))⟩

/-- loop.example/g03401/laws.eqIntS -/
def ir_laws_eqIntS : IF := ⟨[], 2, 7, [2],
 (.seq (.reg [⟨[], [], .cs .v (.b false)⟩] [some 0, some 1, none, none, none, none, none])
 ((.seq ((.seq (.reg [⟨[], [], .nop⟩, ⟨[], [], .ln (.e 0) []⟩, ⟨[], [], .nop⟩, ⟨[], [], .ln (.e 1) []⟩, ⟨[], [], .bi .neq (.e 7) (.e 8)⟩] [some 0, some 1, none, none, some 9, none, none])
 (.cond 4 ((.seq (.reg [⟨[], [], .cs .v (.b false)⟩] [none, none, some 7, none, none, none, none])
  (.ret))) (.skip))))
 ((.seq ((.seq (.reg [⟨[], [], .cs .v (.n 0)⟩] [some 0, some 1, none, some 7, none, none, none])
 (.block 0 (.loop ((.seq ((.seq (.reg [⟨[], [], .nop⟩, ⟨[], [], .nop⟩, ⟨[], [], .ln (.e 0) []⟩, ⟨[], [], .bi .lss (.e 3) (.e 7)⟩] [some 0, some 1, none, some 3, none, some 8, none])
   (.cond 5 (.skip) (.exit 0))))
   ((.seq (.block 1 ((.seq (.reg [⟨[], [], .nop⟩, ⟨[], [], .nop⟩, ⟨[], [], .iy (.e 0) (.e 3)⟩, ⟨[], [], .nop⟩, ⟨[], [], .nop⟩, ⟨[], [], .nop⟩, ⟨[], [], .iy (.e 1) (.e 3)⟩, ⟨[], [], .nop⟩, ⟨[], [], .bi .neq (.e 7) (.e 8)⟩] [some 0, some 1, none, some 3, none, none, some 9])
    (.cond 6 ((.seq (.reg [⟨[], [], .cs .v (.b false)⟩] [none, none, some 7, none, none, none, none])
     (.ret))) (.skip)))))
   (.reg [⟨[], [], .nop⟩, ⟨[], [], .bi .add (.e 3) (.c (.n 1))⟩, ⟨[], [], .nop⟩] [some 0, some 1, none, some 7, none, none, none])))))))))
 ((.seq (.reg [⟨[], [], .cs .v (.b true)⟩] [none, none, some 7, none, none, none, none])
 (.ret))))))))⟩

/-- loop.example/g03401/laws.eqIntSS -/
def ir_laws_eqIntSS : IF := ⟨[], 2, 7, [2],
 (.seq (.reg [⟨[], [], .cs .v (.b false)⟩] [some 0, some 1, none, none, none, none, none])
 ((.seq ((.seq (.reg [⟨[], [], .nop⟩, ⟨[], [], .ln (.e 0) []⟩, ⟨[], [], .nop⟩, ⟨[], [], .ln (.e 1) []⟩, ⟨[], [], .bi .neq (.e 7) (.e 8)⟩] [some 0, some 1, none, none, some 9, none, none])
 (.cond 4 ((.seq (.reg [⟨[], [], .cs .v (.b false)⟩] [none, none, some 7, none, none, none, none])
  (.ret))) (.skip))))
 ((.seq ((.seq (.reg [⟨[], [], .cs .v (.n 0)⟩] [some 0, some 1, none, some 7, none, none, none])
 (.block 0 (.loop ((.seq ((.seq (.reg [⟨[], [], .nop⟩, ⟨[], [], .nop⟩, ⟨[], [], .ln (.e 0) []⟩, ⟨[], [], .bi .lss (.e 3) (.e 7)⟩] [some 0, some 1, none, some 3, none, some 8, none])
   (.cond 5 (.skip) (.exit 0))))
   ((.seq (.block 1 ((.seq (.reg [⟨[], [], .nop⟩, ⟨[], [], .nop⟩, ⟨[], [], .ix (.e 0) [] (.e 3)⟩, ⟨[], [], .nop⟩, ⟨[], [], .nop⟩, ⟨[], [], .nop⟩, ⟨[], [], .ix (.e 1) [] (.e 3)⟩, ⟨[], [], .nop⟩, ⟨[], [], .ca 44 [(.e 7), (.e 8)] 1⟩, ⟨[], [], .un .not (.e 9)⟩] [some 0, some 1, none, some 3, none, none, some 10])
    (.cond 6 ((.seq (.reg [⟨[], [], .cs .v (.b false)⟩] [none, none, some 7, none, none, none, none])
     (.ret))) (.skip)))))
   (.reg [⟨[], [], .nop⟩, ⟨[], [], .bi .add (.e 3) (.c (.n 1))⟩, ⟨[], [], .nop⟩] [some 0, some 1, none, some 7, none, none, none])))))))))
 ((.seq (.reg [⟨[], [], .cs .v (.b true)⟩] [none, none, some 7, none, none, none, none])
 (.ret))))))))⟩

/-- loop.example/g03401/laws.eqStringS -/
def ir_laws_eqStringS : IF := ⟨[], 2, 7, [2],
 (.seq (.reg [⟨[], [], .cs .v (.b false)⟩] [some 0, some 1, none, none, none, none, none])
 ((.seq ((.seq (.reg [⟨[], [], .nop⟩, ⟨[], [], .ln (.e 0) []⟩, ⟨[], [], .nop⟩, ⟨[], [], .ln (.e 1) []⟩, ⟨[], [], .bi .neq (.e 7) (.e 8)⟩] [some 0, some 1, none, none, some 9, none, none])
 (.cond 4 ((.seq (.reg [⟨[], [], .cs .v (.b false)⟩] [none, none, some 7, none, none, none, none])
  (.ret))) (.skip))))
 ((.seq ((.seq (.reg [⟨[], [], .cs .v (.n 0)⟩] [some 0, some 1, none, some 7, none, none, none])
 (.block 0 (.loop ((.seq ((.seq (.reg [⟨[], [], .nop⟩, ⟨[], [], .nop⟩, ⟨[], [], .ln (.e 0) []⟩, ⟨[], [], .bi .lss (.e 3) (.e 7)⟩] [some 0, some 1, none, some 3, none, some 8, none])
   (.cond 5 (.skip) (.exit 0))))
   ((.seq (.block 1 ((.seq (.reg [⟨[], [], .nop⟩, ⟨[], [], .nop⟩, ⟨[], [], .iy (.e 0) (.e 3)⟩, ⟨[], [], .nop⟩, ⟨[], [], .nop⟩, ⟨[], [], .nop⟩, ⟨[], [], .iy (.e 1) (.e 3)⟩, ⟨[], [], .nop⟩, ⟨[], [], .bi .neq (.e 7) (.e 8)⟩] [some 0, some 1, none, some 3, none, none, some 9])
    (.cond 6 ((.seq (.reg [⟨[], [], .cs .v (.b false)⟩] [none, none, some 7, none, none, none, none])
     (.ret))) (.skip)))))
   (.reg [⟨[], [], .nop⟩, ⟨[], [], .bi .add (.e 3) (.c (.n 1))⟩, ⟨[], [], .nop⟩] [some 0, some 1, none, some 7, none, none, none])))))))))
 ((.seq (.reg [⟨[], [], .cs .v (.b true)⟩] [none, none, some 7, none, none, none, none])
 (.ret))))))))⟩

/-- loop.example/g03401/laws.heldClaim -/
def ir_laws_heldClaim : IF := ⟨[], 2, 8, [3],
 (.seq (.reg [⟨[], [], .bp (.e 0)⟩, ⟨[], [], .cs .v (.n 0)⟩] [none, some 1, some 8, none, none, none, none, none])
 ((.seq (.reg [⟨[], [], .fp false (.e 2) 3⟩, ⟨[], [], .nop⟩, ⟨[], [], .nop⟩, ⟨[], [], .ca 17 [(.e 8), (.e 1)] 1⟩, ⟨[], [], .nop⟩] [none, some 9, some 2, none, none, none, none, none])
 ((.seq ((.seq (.reg [⟨[], [], .nop⟩, ⟨[], [], .bi .lss (.e 1) (.c (.n 0))⟩] [none, some 1, some 2, none, some 8, none, none, none])
 (.cond 4 ((.seq (.reg [⟨[], [], .cs .v (.n (-1))⟩] [none, none, none, some 8, none, none, none, none])
  (.ret))) (.skip))))
 ((.seq (.reg [⟨[], [], .fp false (.e 2) 4⟩, ⟨[], [], .nop⟩, ⟨[], [], .nop⟩, ⟨[], [], .ca 46 [(.e 8), (.e 1)] 1⟩, ⟨[], [], .nop⟩] [none, some 9, some 2, none, none, none, none, none])
 ((.seq ((.seq (.reg [⟨[], [], .nop⟩, ⟨[], [], .bi .lss (.e 1) (.c (.n 0))⟩] [none, some 1, some 2, none, none, some 8, none, none])
 (.cond 5 ((.seq (.reg [⟨[], [], .cs .v (.n (-1))⟩] [none, none, none, some 8, none, none, none, none])
  (.ret))) (.skip))))
 ((.seq (.reg [⟨[], [], .fp false (.e 2) 5⟩, ⟨[], [], .nop⟩, ⟨[], [], .nop⟩, ⟨[], [], .ca 46 [(.e 8), (.e 1)] 1⟩, ⟨[], [], .nop⟩] [none, some 9, some 2, none, none, none, none, none])
 ((.seq ((.seq (.reg [⟨[], [], .nop⟩, ⟨[], [], .bi .lss (.e 1) (.c (.n 0))⟩] [none, some 1, some 2, none, none, none, some 8, none])
 (.cond 6 ((.seq (.reg [⟨[], [], .cs .v (.n (-1))⟩] [none, none, none, some 8, none, none, none, none])
  (.ret))) (.skip))))
 ((.seq (.reg [⟨[], [], .fp false (.e 2) 6⟩, ⟨[], [], .nop⟩, ⟨[], [], .nop⟩, ⟨[], [], .ca 159 [(.e 8), (.e 1)] 1⟩, ⟨[], [], .nop⟩] [none, some 9, none, none, none, none, none, none])
 ((.seq ((.seq (.reg [⟨[], [], .nop⟩, ⟨[], [], .bi .lss (.e 1) (.c (.n 0))⟩] [none, some 1, none, none, none, none, none, some 8])
 (.cond 7 ((.seq (.reg [⟨[], [], .cs .v (.n (-1))⟩] [none, none, none, some 8, none, none, none, none])
  (.ret))) (.skip))))
 ((.seq (.reg [⟨[], [], .nop⟩, ⟨[], [], .nop⟩] [none, none, none, some 1, none, none, none, none])
 (.ret))))))))))))))))))))⟩

/-- loop.example/g03401/laws.heldIntS -/
def ir_laws_heldIntS : IF := ⟨[], 2, 6, [2],
 (.seq (.reg [⟨[], [], .cs .v (.n 0)⟩] [some 0, some 1, none, none, none, none])
 ((.seq ((.seq (.reg [⟨[], [], .cs .v (.n 0)⟩] [some 0, some 1, none, some 6, none, none])
 (.block 0 (.loop ((.seq ((.seq (.reg [⟨[], [], .nop⟩, ⟨[], [], .nop⟩, ⟨[], [], .ln (.e 0) []⟩, ⟨[], [], .bi .lss (.e 3) (.e 6)⟩] [some 0, some 1, none, some 3, some 7, none])
   (.cond 4 (.skip) (.exit 0))))
   ((.seq (.block 1 ((.seq ((.seq (.reg [⟨[], [], .nop⟩, ⟨[], [], .nop⟩, ⟨[], [], .iy (.e 0) (.e 3)⟩, ⟨[], [], .nop⟩, ⟨[], [], .nop⟩, ⟨[], [], .bi .neq (.e 6) (.e 1)⟩] [some 0, some 1, none, some 3, none, some 7])
    (.cond 5 ((.seq (.reg [⟨[], [], .cs .v (.n (-1))⟩] [none, none, some 6, none, none, none])
     (.ret))) (.skip))))
    (.reg [⟨[], [], .nop⟩, ⟨[], [], .bi .add (.e 1) (.c (.n 1))⟩, ⟨[], [], .nop⟩] [some 0, some 6, none, some 3, none, none]))))
   (.reg [⟨[], [], .nop⟩, ⟨[], [], .bi .add (.e 3) (.c (.n 1))⟩, ⟨[], [], .nop⟩] [some 0, some 1, none, some 6, none, none])))))))))
 ((.seq (.reg [⟨[], [], .nop⟩, ⟨[], [], .nop⟩] [none, none, some 1, none, none, none])
 (.ret))))))⟩

/-- loop.example/g03401/laws.heldIntSS -/
def ir_laws_heldIntSS : IF := ⟨[], 2, 6, [2],
 (.seq (.reg [⟨[], [], .cs .v (.n 0)⟩] [some 0, some 1, none, none, none, none])
 ((.seq ((.seq (.reg [⟨[], [], .cs .v (.n 0)⟩] [some 0, some 1, none, some 6, none, none])
 (.block 0 (.loop ((.seq ((.seq (.reg [⟨[], [], .nop⟩, ⟨[], [], .nop⟩, ⟨[], [], .ln (.e 0) []⟩, ⟨[], [], .bi .lss (.e 3) (.e 6)⟩] [some 0, some 1, none, some 3, some 7, none])
   (.cond 4 (.skip) (.exit 0))))
   ((.seq (.block 1 ((.seq (.reg [⟨[], [], .nop⟩, ⟨[], [], .nop⟩, ⟨[], [], .ix (.e 0) [] (.e 3)⟩, ⟨[], [], .nop⟩, ⟨[], [], .nop⟩, ⟨[], [], .ca 46 [(.e 6), (.e 1)] 1⟩, ⟨[], [], .nop⟩] [some 0, some 7, none, some 3, none, none])
    ((.seq (.reg [⟨[], [], .nop⟩, ⟨[], [], .bi .lss (.e 1) (.c (.n 0))⟩] [some 0, some 1, none, some 3, none, some 6])
    (.cond 5 ((.seq (.reg [⟨[], [], .cs .v (.n (-1))⟩] [none, none, some 6, none, none, none])
     (.ret))) (.skip)))))))
   (.reg [⟨[], [], .nop⟩, ⟨[], [], .bi .add (.e 3) (.c (.n 1))⟩, ⟨[], [], .nop⟩] [some 0, some 1, none, some 6, none, none])))))))))
 ((.seq (.reg [⟨[], [], .nop⟩, ⟨[], [], .nop⟩] [none, none, some 1, none, none, none])
 (.ret))))))⟩

/-- loop.example/g03401/laws.heldStringS -/
def ir_laws_heldStringS : IF := ⟨[], 2, 6, [2],
 (.seq (.reg [⟨[], [], .cs .v (.n 0)⟩] [some 0, some 1, none, none, none, none])
 ((.seq ((.seq (.reg [⟨[], [], .cs .v (.n 0)⟩] [some 0, some 1, none, some 6, none, none])
 (.block 0 (.loop ((.seq ((.seq (.reg [⟨[], [], .nop⟩, ⟨[], [], .nop⟩, ⟨[], [], .ln (.e 0) []⟩, ⟨[], [], .bi .lss (.e 3) (.e 6)⟩] [some 0, some 1, none, some 3, some 7, none])
   (.cond 4 (.skip) (.exit 0))))
   ((.seq (.block 1 ((.seq ((.seq (.reg [⟨[], [], .nop⟩, ⟨[], [], .nop⟩, ⟨[], [], .iy (.e 0) (.e 3)⟩, ⟨[], [], .nop⟩, ⟨[], [], .nop⟩, ⟨[], [], .ca 26 [(.e 1)] 1⟩, ⟨[], [], .bi .neq (.e 6) (.e 7)⟩] [some 0, some 1, none, some 3, none, some 8])
    (.cond 5 ((.seq (.reg [⟨[], [], .cs .v (.n (-1))⟩] [none, none, some 6, none, none, none])
     (.ret))) (.skip))))
    (.reg [⟨[], [], .nop⟩, ⟨[], [], .bi .add (.e 1) (.c (.n 1))⟩, ⟨[], [], .nop⟩] [some 0, some 6, none, some 3, none, none]))))
   (.reg [⟨[], [], .nop⟩, ⟨[], [], .bi .add (.e 3) (.c (.n 1))⟩, ⟨[], [], .nop⟩] [some 0, some 1, none, some 6, none, none])))))))))
 ((.seq (.reg [⟨[], [], .nop⟩, ⟨[], [], .nop⟩] [none, none, some 1, none, none, none])
 (.ret))))))⟩

/-- loop.example/g03401/laws.markClaim -/
def ir_laws_markClaim : IF := ⟨[], 2, 4, [3, 0],
 (.seq (.reg [⟨[], [], .wl 7 (.e 0)⟩, ⟨[], [], .cs .v (.n 0)⟩, ⟨[], [], .gt (.e 4) [.k 3]⟩, ⟨[], [], .nop⟩, ⟨[], [], .nop⟩, ⟨[], [], .sp 4 [.k 3] 1⟩, ⟨[], [], .ca 16 [(.e 7), (.e 1)] 2⟩, ⟨[], [], .jn 8 [.k 3] (.e 10) 1⟩, ⟨[], [], .nop⟩, ⟨[], [], .gt (.e 11) [.k 4]⟩, ⟨[], [], .nop⟩, ⟨[], [], .nop⟩, ⟨[], [], .sp 11 [.k 4] 1⟩, ⟨[], [], .ca 45 [(.e 13), (.e 9)] 2⟩, ⟨[], [], .jn 14 [.k 4] (.e 16) 1⟩, ⟨[], [], .nop⟩, ⟨[], [], .gt (.e 17) [.k 5]⟩, ⟨[], [], .nop⟩, ⟨[], [], .nop⟩, ⟨[], [], .sp 17 [.k 5] 1⟩, ⟨[], [], .ca 45 [(.e 19), (.e 15)] 2⟩, ⟨[], [], .jn 20 [.k 5] (.e 22) 1⟩, ⟨[], [], .nop⟩, ⟨[], [], .gt (.e 23) [.k 6]⟩, ⟨[], [], .nop⟩, ⟨[], [], .nop⟩, ⟨[], [], .sp 23 [.k 6] 2⟩, ⟨[], [], .ca 158 [(.e 25), (.e 21)] 2⟩, ⟨[], [], .jn 26 [.k 6] (.e 28) 2⟩, ⟨[], [], .nop⟩, ⟨[], [], .nop⟩, ⟨[], [], .nop⟩, ⟨[], [], .sw 29⟩] [some 30, none, none, some 27])
 (.ret))⟩

/-- loop.example/g03401/laws.markIntS -/
def ir_laws_markIntS : IF := ⟨[], 2, 5, [2, 0],
 (.seq (.reg [⟨[], [], .cs .v (.n 0)⟩] [some 0, some 1, none, none, none])
 ((.seq ((.seq (.reg [⟨[], [], .cs .v (.n 0)⟩] [some 0, some 1, none, some 5, none])
 (.block 0 (.loop ((.seq ((.seq (.reg [⟨[], [], .nop⟩, ⟨[], [], .nop⟩, ⟨[], [], .ln (.e 0) []⟩, ⟨[], [], .bi .lss (.e 3) (.e 5)⟩] [some 0, some 1, none, some 3, some 6])
   (.cond 4 (.skip) (.exit 0))))
   ((.seq (.block 1 ((.seq (.reg [⟨[], [], .nop⟩, ⟨[], [], .nop⟩, ⟨[], [], .nop⟩, ⟨[], [], .ix (.e 0) [] (.e 3)⟩, ⟨[], [], .up 0 [.e 3] (.e 1)⟩] [some 6, some 1, none, some 3, none])
    (.reg [⟨[], [], .nop⟩, ⟨[], [], .bi .add (.e 1) (.c (.n 1))⟩, ⟨[], [], .nop⟩] [some 0, some 5, none, some 3, none]))))
   (.reg [⟨[], [], .nop⟩, ⟨[], [], .bi .add (.e 3) (.c (.n 1))⟩, ⟨[], [], .nop⟩] [some 0, some 1, none, some 5, none])))))))))
 ((.seq (.reg [⟨[], [], .nop⟩, ⟨[], [], .nop⟩] [some 0, none, some 1, none, none])
 (.ret))))))⟩

/-- loop.example/g03401/laws.markIntSS -/
def ir_laws_markIntSS : IF := ⟨[], 2, 5, [2, 0],
 (.seq (.reg [⟨[], [], .cs .v (.n 0)⟩] [some 0, some 1, none, none, none])
 ((.seq ((.seq (.reg [⟨[], [], .cs .v (.n 0)⟩] [some 0, some 1, none, some 5, none])
 (.block 0 (.loop ((.seq ((.seq (.reg [⟨[], [], .nop⟩, ⟨[], [], .nop⟩, ⟨[], [], .ln (.e 0) []⟩, ⟨[], [], .bi .lss (.e 3) (.e 5)⟩] [some 0, some 1, none, some 3, some 6])
   (.cond 4 (.skip) (.exit 0))))
   ((.seq (.block 1 (.reg [⟨[], [], .nop⟩, ⟨[], [], .nop⟩, ⟨[], [], .ix (.e 0) [] (.e 3)⟩, ⟨[], [], .nop⟩, ⟨[], [], .nop⟩, ⟨[], [], .sp 0 [.e 3] 1⟩, ⟨[], [], .ca 45 [(.e 6), (.e 1)] 2⟩, ⟨[], [], .jn 7 [.e 3] (.e 9) 1⟩, ⟨[], [], .nop⟩] [some 10, some 8, none, some 3, none]))
   (.reg [⟨[], [], .nop⟩, ⟨[], [], .bi .add (.e 3) (.c (.n 1))⟩, ⟨[], [], .nop⟩] [some 0, some 1, none, some 5, none])))))))))
 ((.seq (.reg [⟨[], [], .nop⟩, ⟨[], [], .nop⟩] [some 0, none, some 1, none, none])
 (.ret))))))⟩

/-- loop.example/g03401/laws.markStringS -/
def ir_laws_markStringS : IF := ⟨[], 2, 5, [2, 0],
 (.seq (.reg [⟨[], [], .cs .v (.n 0)⟩] [some 0, some 1, none, none, none])
 ((.seq ((.seq (.reg [⟨[], [], .cs .v (.n 0)⟩] [some 0, some 1, none, some 5, none])
 (.block 0 (.loop ((.seq ((.seq (.reg [⟨[], [], .nop⟩, ⟨[], [], .nop⟩, ⟨[], [], .ln (.e 0) []⟩, ⟨[], [], .bi .lss (.e 3) (.e 5)⟩] [some 0, some 1, none, some 3, some 6])
   (.cond 4 (.skip) (.exit 0))))
   ((.seq (.block 1 ((.seq (.reg [⟨[], [], .nop⟩, ⟨[], [], .nop⟩, ⟨[], [], .nop⟩, ⟨[], [], .ca 26 [(.e 1)] 1⟩, ⟨[], [], .ix (.e 0) [] (.e 3)⟩, ⟨[], [], .up 0 [.e 3] (.e 5)⟩] [some 7, some 1, none, some 3, none])
    (.reg [⟨[], [], .nop⟩, ⟨[], [], .bi .add (.e 1) (.c (.n 1))⟩, ⟨[], [], .nop⟩] [some 0, some 5, none, some 3, none]))))
   (.reg [⟨[], [], .nop⟩, ⟨[], [], .bi .add (.e 3) (.c (.n 1))⟩, ⟨[], [], .nop⟩] [some 0, some 1, none, some 5, none])))))))))
 ((.seq (.reg [⟨[], [], .nop⟩, ⟨[], [], .nop⟩] [some 0, none, some 1, none, none])
 (.ret))))))⟩

/-- loop.example/g03401/laws.markText -/
def ir_laws_markText : IF := ⟨[], 1, 5, [1],
 (.seq (.reg [⟨[], [], .cs .v (.s [])⟩] [some 0, none, none, none, none])
 ((.seq ((.seq (.reg [⟨[], [], .nop⟩, ⟨[], [], .bi .leq (.e 0) (.c (.n 0))⟩] [some 0, none, none, some 5, none])
 (.cond 3 ((.seq (.reg [⟨[], [], .cs .v (.s [109, 48])⟩] [none, some 5, none, none, none])
  (.ret))) (.skip))))
 ((.seq (.reg [⟨[], [], .cs .v (.s [])⟩] [some 0, none, some 5, none, none])
 ((.seq (.block 0 (.loop ((.seq ((.seq (.reg [⟨[], [], .nop⟩, ⟨[], [], .bi .gtr (.e 0) (.c (.n 0))⟩] [some 0, none, some 2, none, some 5])
   (.cond 4 (.skip) (.exit 0))))
   (.block 1 ((.seq (.reg [⟨[], [], .nop⟩, ⟨[], [], .bi .rem (.e 0) (.c (.n 10))⟩, ⟨[], [], .bi .add (.c (.n 48)) (.e 5)⟩, ⟨[], [], .cv .u8 (.e 6)⟩, ⟨[], [], .li (.o .v) [(.e 7)]⟩, ⟨[], [], .bs (.e 8)⟩, ⟨[], [], .nop⟩, ⟨[], [], .bi .add (.e 9) (.e 2)⟩, ⟨[], [], .nop⟩] [some 0, none, some 10, none, none])
    (.reg [⟨[], [], .nop⟩, ⟨[], [], .bi .quo (.e 0) (.c (.n 10))⟩, ⟨[], [], .nop⟩] [some 5, none, some 2, none, none]))))))))
 ((.seq (.reg [⟨[], [], .nop⟩, ⟨[], [], .bi .add (.c (.s [109])) (.e 2)⟩, ⟨[], [], .nop⟩] [none, some 5, none, none, none])
 (.ret))))))))))⟩

/-- loop.example/g03401/laws.sameInts -/
def ir_laws_sameInts : IF := ⟨[], 2, 7, [2],
 (.seq (.reg [⟨[], [], .cs .v (.b false)⟩] [some 0, some 1, none, none, none, none, none])
 ((.seq ((.seq (.reg [⟨[], [], .nop⟩, ⟨[], [], .ln (.e 0) []⟩, ⟨[], [], .nop⟩, ⟨[], [], .ln (.e 1) []⟩, ⟨[], [], .bi .neq (.e 7) (.e 8)⟩] [some 0, some 1, none, none, some 9, none, none])
 (.cond 4 ((.seq (.reg [⟨[], [], .cs .v (.b false)⟩] [none, none, some 7, none, none, none, none])
  (.ret))) (.skip))))
 ((.seq ((.seq (.reg [⟨[], [], .cs .v (.n 0)⟩] [some 0, some 1, none, some 7, none, none, none])
 (.block 0 (.loop ((.seq ((.seq (.reg [⟨[], [], .nop⟩, ⟨[], [], .nop⟩, ⟨[], [], .ln (.e 0) []⟩, ⟨[], [], .bi .lss (.e 3) (.e 7)⟩] [some 0, some 1, none, some 3, none, some 8, none])
   (.cond 5 (.skip) (.exit 0))))
   ((.seq (.block 1 ((.seq (.reg [⟨[], [], .nop⟩, ⟨[], [], .nop⟩, ⟨[], [], .iy (.e 0) (.e 3)⟩, ⟨[], [], .nop⟩, ⟨[], [], .nop⟩, ⟨[], [], .nop⟩, ⟨[], [], .iy (.e 1) (.e 3)⟩, ⟨[], [], .nop⟩, ⟨[], [], .bi .neq (.e 7) (.e 8)⟩] [some 0, some 1, none, some 3, none, none, some 9])
    (.cond 6 ((.seq (.reg [⟨[], [], .cs .v (.b false)⟩] [none, none, some 7, none, none, none, none])
     (.ret))) (.skip)))))
   (.reg [⟨[], [], .nop⟩, ⟨[], [], .bi .add (.e 3) (.c (.n 1))⟩, ⟨[], [], .nop⟩] [some 0, some 1, none, some 7, none, none, none])))))))))
 ((.seq (.reg [⟨[], [], .cs .v (.b true)⟩] [none, none, some 7, none, none, none, none])
 (.ret))))))))⟩

/-- loop.example/g03401/laws.sameWords -/
def ir_laws_sameWords : IF := ⟨[], 2, 7, [2],
 (.seq (.reg [⟨[], [], .cs .v (.b false)⟩] [some 0, some 1, none, none, none, none, none])
 ((.seq ((.seq (.reg [⟨[], [], .nop⟩, ⟨[], [], .ln (.e 0) []⟩, ⟨[], [], .nop⟩, ⟨[], [], .ln (.e 1) []⟩, ⟨[], [], .bi .neq (.e 7) (.e 8)⟩] [some 0, some 1, none, none, some 9, none, none])
 (.cond 4 ((.seq (.reg [⟨[], [], .cs .v (.b false)⟩] [none, none, some 7, none, none, none, none])
  (.ret))) (.skip))))
 ((.seq ((.seq (.reg [⟨[], [], .cs .v (.n 0)⟩] [some 0, some 1, none, some 7, none, none, none])
 (.block 0 (.loop ((.seq ((.seq (.reg [⟨[], [], .nop⟩, ⟨[], [], .nop⟩, ⟨[], [], .ln (.e 0) []⟩, ⟨[], [], .bi .lss (.e 3) (.e 7)⟩] [some 0, some 1, none, some 3, none, some 8, none])
   (.cond 5 (.skip) (.exit 0))))
   ((.seq (.block 1 ((.seq (.reg [⟨[], [], .nop⟩, ⟨[], [], .nop⟩, ⟨[], [], .iy (.e 0) (.e 3)⟩, ⟨[], [], .nop⟩, ⟨[], [], .nop⟩, ⟨[], [], .nop⟩, ⟨[], [], .iy (.e 1) (.e 3)⟩, ⟨[], [], .nop⟩, ⟨[], [], .bi .neq (.e 7) (.e 8)⟩] [some 0, some 1, none, some 3, none, none, some 9])
    (.cond 6 ((.seq (.reg [⟨[], [], .cs .v (.b false)⟩] [none, none, some 7, none, none, none, none])
     (.ret))) (.skip)))))
   (.reg [⟨[], [], .nop⟩, ⟨[], [], .bi .add (.e 3) (.c (.n 1))⟩, ⟨[], [], .nop⟩] [some 0, some 1, none, some 7, none, none, none])))))))))
 ((.seq (.reg [⟨[], [], .cs .v (.b true)⟩] [none, none, some 7, none, none, none, none])
 (.ret))))))))⟩

/-- loop.example/g03401/laws.szClaim -/
def ir_laws_szClaim : IF := ⟨[], 2, 10, [3],
 (.seq (.reg [⟨[], [], .bp (.e 0)⟩, ⟨[], [], .cs .v (.n 0)⟩] [none, some 1, some 10, none, none, none, none, none, none, none])
 ((.seq (.reg [⟨[], [], .nop⟩, ⟨[], [], .fp true (.e 2) 1⟩, ⟨[], [], .nop⟩, ⟨[], [], .sn (.e 10)⟩, ⟨[], [], .bi .sub (.e 1) (.e 11)⟩, ⟨[], [], .nop⟩] [none, some 12, some 2, none, none, none, none, none, none, none])
 ((.seq ((.seq (.reg [⟨[], [], .nop⟩, ⟨[], [], .bi .lss (.e 1) (.c (.n 0))⟩] [none, some 1, some 2, none, some 10, none, none, none, none, none])
 (.cond 4 ((.seq (.reg [⟨[], [], .cs .v (.n (-1))⟩] [none, none, none, some 10, none, none, none, none, none, none])
  (.ret))) (.skip))))
 ((.seq (.reg [⟨[], [], .nop⟩, ⟨[], [], .fp true (.e 2) 2⟩, ⟨[], [], .nop⟩, ⟨[], [], .sn (.e 10)⟩, ⟨[], [], .bi .sub (.e 1) (.e 11)⟩, ⟨[], [], .nop⟩] [none, some 12, some 2, none, none, none, none, none, none, none])
 ((.seq ((.seq (.reg [⟨[], [], .nop⟩, ⟨[], [], .bi .lss (.e 1) (.c (.n 0))⟩] [none, some 1, some 2, none, none, some 10, none, none, none, none])
 (.cond 5 ((.seq (.reg [⟨[], [], .cs .v (.n (-1))⟩] [none, none, none, some 10, none, none, none, none, none, none])
  (.ret))) (.skip))))
 ((.seq (.reg [⟨[], [], .fp false (.e 2) 3⟩, ⟨[], [], .nop⟩, ⟨[], [], .nop⟩, ⟨[], [], .ca 145 [(.e 10), (.e 1)] 1⟩, ⟨[], [], .nop⟩] [none, some 11, some 2, none, none, none, none, none, none, none])
 ((.seq ((.seq (.reg [⟨[], [], .nop⟩, ⟨[], [], .bi .lss (.e 1) (.c (.n 0))⟩] [none, some 1, some 2, none, none, none, some 10, none, none, none])
 (.cond 6 ((.seq (.reg [⟨[], [], .cs .v (.n (-1))⟩] [none, none, none, some 10, none, none, none, none, none, none])
  (.ret))) (.skip))))
 ((.seq (.reg [⟨[], [], .fp false (.e 2) 4⟩, ⟨[], [], .nop⟩, ⟨[], [], .nop⟩, ⟨[], [], .ca 146 [(.e 10), (.e 1)] 1⟩, ⟨[], [], .nop⟩] [none, some 11, some 2, none, none, none, none, none, none, none])
 ((.seq ((.seq (.reg [⟨[], [], .nop⟩, ⟨[], [], .bi .lss (.e 1) (.c (.n 0))⟩] [none, some 1, some 2, none, none, none, none, some 10, none, none])
 (.cond 7 ((.seq (.reg [⟨[], [], .cs .v (.n (-1))⟩] [none, none, none, some 10, none, none, none, none, none, none])
  (.ret))) (.skip))))
 ((.seq (.reg [⟨[], [], .fp false (.e 2) 5⟩, ⟨[], [], .nop⟩, ⟨[], [], .nop⟩, ⟨[], [], .ca 146 [(.e 10), (.e 1)] 1⟩, ⟨[], [], .nop⟩] [none, some 11, some 2, none, none, none, none, none, none, none])
 ((.seq ((.seq (.reg [⟨[], [], .nop⟩, ⟨[], [], .bi .lss (.e 1) (.c (.n 0))⟩] [none, some 1, some 2, none, none, none, none, none, some 10, none])
 (.cond 8 ((.seq (.reg [⟨[], [], .cs .v (.n (-1))⟩] [none, none, none, some 10, none, none, none, none, none, none])
  (.ret))) (.skip))))
 ((.seq (.reg [⟨[], [], .fp false (.e 2) 6⟩, ⟨[], [], .nop⟩, ⟨[], [], .nop⟩, ⟨[], [], .ca 147 [(.e 10), (.e 1)] 1⟩, ⟨[], [], .nop⟩] [none, some 11, none, none, none, none, none, none, none, none])
 ((.seq ((.seq (.reg [⟨[], [], .nop⟩, ⟨[], [], .bi .lss (.e 1) (.c (.n 0))⟩] [none, some 1, none, none, none, none, none, none, none, some 10])
 (.cond 9 ((.seq (.reg [⟨[], [], .cs .v (.n (-1))⟩] [none, none, none, some 10, none, none, none, none, none, none])
  (.ret))) (.skip))))
 ((.seq (.reg [⟨[], [], .nop⟩, ⟨[], [], .nop⟩] [none, none, none, some 1, none, none, none, none, none, none])
 (.ret))))))))))))))))))))))))))))⟩

/-- loop.example/g03401/laws.szIntS -/
def ir_laws_szIntS : IF := ⟨[], 2, 4, [2],
 (.seq (.reg [⟨[], [], .cs .v (.n 0)⟩] [some 0, some 1, none, none])
 ((.seq (.reg [⟨[], [], .nop⟩, ⟨[], [], .nop⟩, ⟨[], [], .ln (.e 0) []⟩, ⟨[], [], .bi .sub (.e 1) (.e 4)⟩, ⟨[], [], .nop⟩] [none, some 5, none, none])
 ((.seq ((.seq (.reg [⟨[], [], .nop⟩, ⟨[], [], .bi .lss (.e 1) (.c (.n 0))⟩] [none, some 1, none, some 4])
 (.cond 3 ((.seq (.reg [⟨[], [], .cs .v (.n (-1))⟩] [none, none, some 4, none])
  (.ret))) (.skip))))
 ((.seq (.reg [⟨[], [], .nop⟩, ⟨[], [], .nop⟩] [none, none, some 1, none])
 (.ret))))))))⟩

/-- loop.example/g03401/laws.szIntSS -/
def ir_laws_szIntSS : IF := ⟨[], 2, 7, [2],
 (.seq (.reg [⟨[], [], .cs .v (.n 0)⟩] [some 0, some 1, none, none, none, none, none])
 ((.seq (.reg [⟨[], [], .nop⟩, ⟨[], [], .nop⟩, ⟨[], [], .ln (.e 0) []⟩, ⟨[], [], .bi .sub (.e 1) (.e 7)⟩, ⟨[], [], .nop⟩] [some 0, some 8, none, none, none, none, none])
 ((.seq ((.seq (.reg [⟨[], [], .nop⟩, ⟨[], [], .bi .lss (.e 1) (.c (.n 0))⟩] [some 0, some 1, none, none, some 7, none, none])
 (.cond 4 ((.seq (.reg [⟨[], [], .cs .v (.n (-1))⟩] [none, none, some 7, none, none, none, none])
  (.ret))) (.skip))))
 ((.seq ((.seq (.reg [⟨[], [], .cs .v (.n 0)⟩] [some 0, some 1, none, some 7, none, none, none])
 (.block 0 (.loop ((.seq ((.seq (.reg [⟨[], [], .nop⟩, ⟨[], [], .nop⟩, ⟨[], [], .ln (.e 0) []⟩, ⟨[], [], .bi .lss (.e 3) (.e 7)⟩] [some 0, some 1, none, some 3, none, some 8, none])
   (.cond 5 (.skip) (.exit 0))))
   ((.seq (.block 1 ((.seq (.reg [⟨[], [], .nop⟩, ⟨[], [], .nop⟩, ⟨[], [], .ix (.e 0) [] (.e 3)⟩, ⟨[], [], .nop⟩, ⟨[], [], .nop⟩, ⟨[], [], .ca 146 [(.e 7), (.e 1)] 1⟩, ⟨[], [], .nop⟩] [some 0, some 8, none, some 3, none, none, none])
    ((.seq (.reg [⟨[], [], .nop⟩, ⟨[], [], .bi .lss (.e 1) (.c (.n 0))⟩] [some 0, some 1, none, some 3, none, none, some 7])
    (.cond 6 ((.seq (.reg [⟨[], [], .cs .v (.n (-1))⟩] [none, none, some 7, none, none, none, none])
     (.ret))) (.skip)))))))
   (.reg [⟨[], [], .nop⟩, ⟨[], [], .bi .add (.e 3) (.c (.n 1))⟩, ⟨[], [], .nop⟩] [some 0, some 1, none, some 7, none, none, none])))))))))
 ((.seq (.reg [⟨[], [], .nop⟩, ⟨[], [], .nop⟩] [none, none, some 1, none, none, none, none])
 (.ret))))))))))⟩

/-- loop.example/g03401/laws.szStringS -/
def ir_laws_szStringS : IF := ⟨[], 2, 7, [2],
 (.seq (.reg [⟨[], [], .cs .v (.n 0)⟩] [some 0, some 1, none, none, none, none, none])
 ((.seq (.reg [⟨[], [], .nop⟩, ⟨[], [], .nop⟩, ⟨[], [], .ln (.e 0) []⟩, ⟨[], [], .bi .sub (.e 1) (.e 7)⟩, ⟨[], [], .nop⟩] [some 0, some 8, none, none, none, none, none])
 ((.seq ((.seq (.reg [⟨[], [], .nop⟩, ⟨[], [], .bi .lss (.e 1) (.c (.n 0))⟩] [some 0, some 1, none, none, some 7, none, none])
 (.cond 4 ((.seq (.reg [⟨[], [], .cs .v (.n (-1))⟩] [none, none, some 7, none, none, none, none])
  (.ret))) (.skip))))
 ((.seq ((.seq (.reg [⟨[], [], .cs .v (.n 0)⟩] [some 0, some 1, none, some 7, none, none, none])
 (.block 0 (.loop ((.seq ((.seq (.reg [⟨[], [], .nop⟩, ⟨[], [], .nop⟩, ⟨[], [], .ln (.e 0) []⟩, ⟨[], [], .bi .lss (.e 3) (.e 7)⟩] [some 0, some 1, none, some 3, none, some 8, none])
   (.cond 5 (.skip) (.exit 0))))
   ((.seq (.block 1 ((.seq (.reg [⟨[], [], .nop⟩, ⟨[], [], .nop⟩, ⟨[], [], .nop⟩, ⟨[], [], .iy (.e 0) (.e 3)⟩, ⟨[], [], .nop⟩, ⟨[], [], .sn (.e 7)⟩, ⟨[], [], .bi .sub (.e 1) (.e 8)⟩, ⟨[], [], .nop⟩] [some 0, some 9, none, some 3, none, none, none])
    ((.seq (.reg [⟨[], [], .nop⟩, ⟨[], [], .bi .lss (.e 1) (.c (.n 0))⟩] [some 0, some 1, none, some 3, none, none, some 7])
    (.cond 6 ((.seq (.reg [⟨[], [], .cs .v (.n (-1))⟩] [none, none, some 7, none, none, none, none])
     (.ret))) (.skip)))))))
   (.reg [⟨[], [], .nop⟩, ⟨[], [], .bi .add (.e 3) (.c (.n 1))⟩, ⟨[], [], .nop⟩] [some 0, some 1, none, some 7, none, none, none])))))))))
 ((.seq (.reg [⟨[], [], .nop⟩, ⟨[], [], .nop⟩] [none, none, some 1, none, none, none, none])
 (.ret))))))))))⟩

/-- loop.example/g03401/laws.toClaim -/
def ir_laws_toClaim : IF := ⟨[(0, 7)], 1, 4, [2],
 (.seq (.reg [⟨[], [], .bp (.e 0)⟩, ⟨[], [], .cs (.b (.o (.o (.o .v)))) (.g [(.n 0), (.s []), (.s []), (.l []), (.l []), (.l []), (.l [])])⟩] [none, some 4, some 5, none])
 ((.seq (.reg [⟨[], [], .cs (.b (.o (.o (.o .v)))) (.g [(.n 0), (.s []), (.s []), (.l []), (.l []), (.l []), (.l [])])⟩] [none, some 1, some 2, some 4])
 ((.seq (.reg [⟨[], [], .fp true (.e 1) 0⟩, ⟨[], [], .nop⟩, ⟨[], [], .gt (.e 3) [.k 0]⟩, ⟨[], [], .uq 3 [.k 0] (.e 4) 0 3⟩] [none, some 1, some 2, some 6])
 ((.seq (.reg [⟨[], [], .fp true (.e 1) 1⟩, ⟨[], [], .nop⟩, ⟨[], [], .gt (.e 3) [.k 1]⟩, ⟨[], [], .uq 3 [.k 1] (.e 4) 0 3⟩] [none, some 1, some 2, some 6])
 ((.seq (.reg [⟨[], [], .fp true (.e 1) 2⟩, ⟨[], [], .nop⟩, ⟨[], [], .gt (.e 3) [.k 2]⟩, ⟨[], [], .uq 3 [.k 2] (.e 4) 0 3⟩] [none, some 1, some 2, some 6])
 ((.seq (.reg [⟨[], [], .fp false (.e 1) 3⟩, ⟨[], [], .nop⟩, ⟨[], [], .ca 151 [(.e 4)] 1⟩, ⟨[], [], .gt (.e 3) [.k 3]⟩, ⟨[], [], .uq 3 [.k 3] (.e 5) 1 3⟩] [none, some 1, some 2, some 7])
 ((.seq (.reg [⟨[], [], .fp false (.e 1) 4⟩, ⟨[], [], .nop⟩, ⟨[], [], .ca 42 [(.e 4)] 1⟩, ⟨[], [], .gt (.e 3) [.k 4]⟩, ⟨[], [], .uq 3 [.k 4] (.e 5) 1 3⟩] [none, some 1, some 2, some 7])
 ((.seq (.reg [⟨[], [], .fp false (.e 1) 5⟩, ⟨[], [], .nop⟩, ⟨[], [], .ca 42 [(.e 4)] 1⟩, ⟨[], [], .gt (.e 3) [.k 5]⟩, ⟨[], [], .uq 3 [.k 5] (.e 5) 1 3⟩] [none, some 1, some 2, some 7])
 ((.seq (.reg [⟨[], [], .fp false (.e 1) 6⟩, ⟨[], [], .nop⟩, ⟨[], [], .ca 152 [(.e 4)] 1⟩, ⟨[], [], .gt (.e 3) [.k 6]⟩, ⟨[], [], .uq 3 [.k 6] (.e 5) 2 3⟩] [none, none, some 2, some 7])
 ((.seq (.reg [⟨[], [], .wl 7 (.e 3)⟩, ⟨[], [], .ws 2 7 (.e 4)⟩] [none, none, some 5, none])
 (.ret))))))))))))))))))))⟩

/-- loop.example/g03401/laws.toIntS -/
def ir_laws_toIntS : IF := ⟨[], 1, 5, [1],
 (.seq (.reg [⟨[], [], .cs (.o .v) (.l [])⟩] [some 0, none, none, none, none])
 ((.seq (.reg [⟨[], [], .nop⟩, ⟨[], [], .ln (.e 0) []⟩, ⟨[], [], .mk (.n 0) (.e 5) (.e 5)⟩, ⟨[], [], .nop⟩] [some 0, none, some 6, none, none])
 ((.seq ((.seq (.reg [⟨[], [], .cs .v (.n 0)⟩] [some 0, none, some 2, some 5, none])
 (.block 0 (.loop ((.seq ((.seq (.reg [⟨[], [], .nop⟩, ⟨[], [], .nop⟩, ⟨[], [], .ln (.e 0) []⟩, ⟨[], [], .bi .lss (.e 3) (.e 5)⟩] [some 0, none, some 2, some 3, some 6])
   (.cond 4 (.skip) (.exit 0))))
   ((.seq (.block 1 (.reg [⟨[], [], .nop⟩, ⟨[], [], .nop⟩, ⟨[], [], .nop⟩, ⟨[], [], .nop⟩, ⟨[], [], .iy (.e 0) (.e 3)⟩, ⟨[], [], .nop⟩, ⟨[], [], .ix (.e 2) [] (.e 3)⟩, ⟨[], [], .up 2 [.e 3] (.e 5)⟩] [some 0, none, some 7, some 3, none]))
   (.reg [⟨[], [], .nop⟩, ⟨[], [], .bi .add (.e 3) (.c (.n 1))⟩, ⟨[], [], .nop⟩] [some 0, none, some 2, some 5, none])))))))))
 ((.seq (.reg [⟨[], [], .nop⟩, ⟨[], [], .nop⟩] [none, some 2, none, none, none])
 (.ret))))))))⟩

/-- loop.example/g03401/laws.toIntSS -/
def ir_laws_toIntSS : IF := ⟨[], 1, 5, [1],
 (.seq (.reg [⟨[], [], .cs (.o (.o .v)) (.l [])⟩] [some 0, none, none, none, none])
 ((.seq (.reg [⟨[], [], .nop⟩, ⟨[], [], .ln (.e 0) []⟩, ⟨[], [], .mk (.l []) (.e 5) (.e 5)⟩, ⟨[], [], .nop⟩] [some 0, none, some 6, none, none])
 ((.seq ((.seq (.reg [⟨[], [], .cs .v (.n 0)⟩] [some 0, none, some 2, some 5, none])
 (.block 0 (.loop ((.seq ((.seq (.reg [⟨[], [], .nop⟩, ⟨[], [], .nop⟩, ⟨[], [], .ln (.e 0) []⟩, ⟨[], [], .bi .lss (.e 3) (.e 5)⟩] [some 0, none, some 2, some 3, some 6])
   (.cond 4 (.skip) (.exit 0))))
   ((.seq (.block 1 (.reg [⟨[], [], .nop⟩, ⟨[], [], .nop⟩, ⟨[], [], .nop⟩, ⟨[], [], .nop⟩, ⟨[], [], .ix (.e 0) [] (.e 3)⟩, ⟨[], [], .nop⟩, ⟨[], [], .ca 42 [(.e 5)] 1⟩, ⟨[], [], .ix (.e 2) [] (.e 3)⟩, ⟨[], [], .up 2 [.e 3] (.e 6)⟩] [some 0, none, some 8, some 3, none]))
   (.reg [⟨[], [], .nop⟩, ⟨[], [], .bi .add (.e 3) (.c (.n 1))⟩, ⟨[], [], .nop⟩] [some 0, none, some 2, some 5, none])))))))))
 ((.seq (.reg [⟨[], [], .nop⟩, ⟨[], [], .nop⟩] [none, some 2, none, none, none])
 (.ret))))))))⟩

/-- loop.example/g03401/laws.toStringS -/
def ir_laws_toStringS : IF := ⟨[], 1, 5, [1],
 (.seq (.reg [⟨[], [], .cs (.o .v) (.l [])⟩] [some 0, none, none, none, none])
 ((.seq (.reg [⟨[], [], .nop⟩, ⟨[], [], .ln (.e 0) []⟩, ⟨[], [], .mk (.s []) (.e 5) (.e 5)⟩, ⟨[], [], .nop⟩] [some 0, none, some 6, none, none])
 ((.seq ((.seq (.reg [⟨[], [], .cs .v (.n 0)⟩] [some 0, none, some 2, some 5, none])
 (.block 0 (.loop ((.seq ((.seq (.reg [⟨[], [], .nop⟩, ⟨[], [], .nop⟩, ⟨[], [], .ln (.e 0) []⟩, ⟨[], [], .bi .lss (.e 3) (.e 5)⟩] [some 0, none, some 2, some 3, some 6])
   (.cond 4 (.skip) (.exit 0))))
   ((.seq (.block 1 (.reg [⟨[], [], .nop⟩, ⟨[], [], .nop⟩, ⟨[], [], .nop⟩, ⟨[], [], .nop⟩, ⟨[], [], .iy (.e 0) (.e 3)⟩, ⟨[], [], .nop⟩, ⟨[], [], .ix (.e 2) [] (.e 3)⟩, ⟨[], [], .up 2 [.e 3] (.e 5)⟩] [some 0, none, some 7, some 3, none]))
   (.reg [⟨[], [], .nop⟩, ⟨[], [], .bi .add (.e 3) (.c (.n 1))⟩, ⟨[], [], .nop⟩] [some 0, none, some 2, some 5, none])))))))))
 ((.seq (.reg [⟨[], [], .nop⟩, ⟨[], [], .nop⟩] [none, some 2, none, none, none])
 (.ret))))))))⟩

end Go.Cat

namespace Go.Cat
/-- loop.example/g03401/impl.FormatInt -/
def ir_impl_FormatInt : IF := ⟨[], 1, 12, [1],
 (.seq (.reg [⟨[], [], .cs .v (.s [])⟩] [some 0, none, none, none, none, none, none, none, none, none, none, none])
 ((.seq ((.seq (.reg [⟨[], [], .nop⟩, ⟨[], [], .bi .eql (.e 0) (.c (.n 0))⟩] [some 0, none, none, none, none, none, none, some 12, none, none, none, none])
 (.cond 7 ((.seq (.reg [⟨[], [], .cs .v (.s [48])⟩] [none, some 12, none, none, none, none, none, none, none, none, none, none])
  (.ret))) (.skip))))
 ((.seq (.reg [⟨[], [], .li (.o .v) []⟩, ⟨[], [], .nop⟩] [some 0, none, some 12, none, none, none, none, none, none, none, none, none])
 ((.seq ((.seq (.reg [⟨[], [], .nop⟩, ⟨[], [], .nop⟩] [some 0, none, some 2, some 0, none, none, none, none, none, none, none, none])
 (.block 0 (.loop ((.seq ((.seq (.reg [⟨[], [], .nop⟩, ⟨[], [], .bi .neq (.e 3) (.c (.n 0))⟩] [some 0, none, some 2, some 3, none, none, none, none, some 12, none, none, none])
   (.cond 8 (.skip) (.exit 0))))
   ((.seq (.block 1 ((.seq (.reg [⟨[], [], .nop⟩, ⟨[], [], .bi .rem (.e 3) (.c (.n 10))⟩, ⟨[], [], .nop⟩] [some 0, none, some 2, some 3, some 12, none, none, none, none, none, none, none])
    ((.seq ((.seq (.reg [⟨[], [], .nop⟩, ⟨[], [], .bi .lss (.e 4) (.c (.n 0))⟩] [some 0, none, some 2, some 3, some 4, none, none, none, none, some 12, none, none])
    (.cond 9 (.reg [⟨[], [], .nop⟩, ⟨[], [], .un .neg (.e 4)⟩, ⟨[], [], .nop⟩] [some 0, none, some 2, some 3, some 12, none, none, none, none, none, none, none]) (.skip))))
    (.reg [⟨[], [], .nop⟩, ⟨[], [], .nop⟩, ⟨[], [], .bi .add (.c (.n 48)) (.e 4)⟩, ⟨[], [], .cv .u8 (.e 12)⟩, ⟨[], [], .li (.o .v) [(.e 13)]⟩, ⟨[], [], .ap false (.e 2) (.e 14)⟩, ⟨[], [], .nop⟩] [some 0, none, some 15, some 3, none, none, none, none, none, none, none, none]))))))
   (.reg [⟨[], [], .nop⟩, ⟨[], [], .bi .quo (.e 3) (.c (.n 10))⟩, ⟨[], [], .nop⟩] [some 0, none, some 2, some 12, none, none, none, none, none, none, none, none])))))))))
 ((.seq ((.seq (.reg [⟨[], [], .nop⟩, ⟨[], [], .bi .lss (.e 0) (.c (.n 0))⟩] [none, none, some 2, none, none, none, none, none, none, none, some 12, none])
 (.cond 10 (.reg [⟨[], [], .nop⟩, ⟨[], [], .li (.o .v) [(.c (.y 45))]⟩, ⟨[], [], .ap false (.e 2) (.e 12)⟩, ⟨[], [], .nop⟩] [none, none, some 13, none, none, none, none, none, none, none, none, none]) (.skip))))
 ((.seq ((.seq (.reg [⟨[], [], .nop⟩, ⟨[], [], .ln (.e 2) []⟩, ⟨[], [], .bi .sub (.e 12) (.c (.n 1))⟩, ⟨[], [], .cs .v (.n 0)⟩, ⟨[], [], .nop⟩] [none, none, some 2, none, none, some 14, some 13, none, none, none, none, none])
 (.block 2 (.loop ((.seq ((.seq (.reg [⟨[], [], .nop⟩, ⟨[], [], .nop⟩, ⟨[], [], .bi .lss (.e 5) (.e 6)⟩] [none, none, some 2, none, none, some 5, some 6, none, none, none, none, some 12])
   (.cond 11 (.skip) (.exit 2))))
   ((.seq (.block 3 (.reg [⟨[], [], .nop⟩, ⟨[], [], .nop⟩, ⟨[], [], .nop⟩, ⟨[], [], .nop⟩, ⟨[], [], .nop⟩, ⟨[], [], .nop⟩, ⟨[], [], .ix (.e 2) [] (.e 6)⟩, ⟨[], [], .nop⟩, ⟨[], [], .nop⟩, ⟨[], [], .nop⟩, ⟨[], [], .ix (.e 2) [] (.e 5)⟩, ⟨[], [], .nop⟩, ⟨[], [], .ix (.e 2) [] (.e 5)⟩, ⟨[], [], .up 2 [.e 5] (.e 12)⟩, ⟨[], [], .ix (.e 15) [] (.e 6)⟩, ⟨[], [], .up 15 [.e 6] (.e 13)⟩] [none, none, some 17, none, none, some 5, some 6, none, none, none, none, none]))
   (.reg [⟨[], [], .nop⟩, ⟨[], [], .bi .add (.e 5) (.c (.n 1))⟩, ⟨[], [], .nop⟩, ⟨[], [], .bi .sub (.e 6) (.c (.n 1))⟩, ⟨[], [], .nop⟩, ⟨[], [], .nop⟩] [none, none, some 2, none, none, some 12, some 13, none, none, none, none, none])))))))))
 ((.seq (.reg [⟨[], [], .nop⟩, ⟨[], [], .bs (.e 2)⟩, ⟨[], [], .nop⟩] [none, some 12, none, none, none, none, none, none, none, none, none, none])
 (.ret))))))))))))))⟩

/-- loop.example/g03401/impl.within -/
def ir_impl_within : IF := ⟨[], 3, 4, [3],
 (.seq (.reg [⟨[], [], .cs .v (.b false)⟩] [some 0, some 1, some 2, none])
 ((.seq (.reg [⟨[], [], .nop⟩, ⟨[], [], .nop⟩, ⟨[], [], .bi .geq (.e 0) (.e 1)⟩, ⟨[], [], .nop⟩, ⟨[], [(4, true)], .cy (.e 0)⟩, ⟨[], [(4, true)], .cy (.e 2)⟩, ⟨[], [(4, true)], .bi .leq (.e 5) (.e 6)⟩, ⟨[], [], .pk (.e 4) (.e 7) (.c (.b false))⟩, ⟨[], [], .nop⟩] [none, none, none, some 8])
 (.ret))))⟩

end Go.Cat

namespace Go.Cat
/-- loop.example/g03401/impl.IsDyck -/
def ir_impl_IsDyck : IF := ⟨[], 1, 4, [1],
 (.seq (.reg [⟨[], [], .cs .v (.b false)⟩] [some 0, none, none, none])
 ((.seq ((.seq (.reg [⟨[], [], .nop⟩, ⟨[], [], .sn (.e 0)⟩, ⟨[], [], .bi .gtr (.e 4) (.c (.n 16))⟩] [some 0, none, none, some 5])
 (.cond 3 ((.seq (.reg [⟨[], [], .cs .v (.b false)⟩] [none, some 4, none, none])
  (.ret))) (.skip))))
 ((.seq (.reg [⟨[], [], .nop⟩, ⟨[], [], .ca 82 [(.e 0)] 2⟩, ⟨[], [], .nop⟩, ⟨[], [], .nop⟩, ⟨[], [], .nop⟩, ⟨[], [], .nop⟩, ⟨[], [], .nop⟩] [none, none, some 5, none])
 ((.seq (.reg [⟨[], [], .nop⟩, ⟨[], [], .nop⟩] [none, some 2, none, none])
 (.ret))))))))⟩

/-- loop.example/g03401/impl.PeaksOf -/
def ir_impl_PeaksOf : IF := ⟨[], 1, 7, [1],
 (.seq (.reg [⟨[], [], .cs .v (.n 0)⟩] [some 0, none, none, none, none, none, none])
 ((.seq ((.seq (.reg [⟨[], [], .nop⟩, ⟨[], [], .ca 67 [(.e 0)] 1⟩, ⟨[], [], .un .not (.e 7)⟩] [some 0, none, none, none, some 8, none, none])
 (.cond 4 ((.seq (.reg [⟨[], [], .cs .v (.n (-1))⟩] [none, some 7, none, none, none, none, none])
  (.ret))) (.skip))))
 ((.seq (.reg [⟨[], [], .cs .v (.n 0)⟩] [some 0, none, some 7, none, none, none, none])
 ((.seq ((.seq (.reg [⟨[], [], .cs .v (.n 1)⟩] [some 0, none, some 2, some 7, none, none, none])
 (.block 0 (.loop ((.seq ((.seq (.reg [⟨[], [], .nop⟩, ⟨[], [], .nop⟩, ⟨[], [], .sn (.e 0)⟩, ⟨[], [], .bi .lss (.e 3) (.e 7)⟩] [some 0, none, some 2, some 3, none, some 8, none])
   (.cond 5 (.skip) (.exit 0))))
   ((.seq (.block 1 ((.seq (.reg [⟨[], [], .nop⟩, ⟨[], [], .nop⟩, ⟨[], [], .bi .sub (.e 3) (.c (.n 1))⟩, ⟨[], [], .sx (.e 0) (.e 7)⟩, ⟨[], [], .bi .eql (.e 8) (.c (.y 117))⟩, ⟨[], [], .nop⟩, ⟨[], [(9, true)], .cy (.e 0)⟩, ⟨[], [(9, true)], .cy (.e 3)⟩, ⟨[], [(9, true)], .sx (.e 10) (.e 11)⟩, ⟨[], [(9, true)], .bi .eql (.e 12) (.c (.y 100))⟩, ⟨[], [], .pk (.e 9) (.e 13) (.c (.b false))⟩] [some 0, none, some 2, some 3, none, none, some 14])
    (.cond 6 (.reg [⟨[], [], .nop⟩, ⟨[], [], .bi .add (.e 2) (.c (.n 1))⟩, ⟨[], [], .nop⟩] [some 0, none, some 7, some 3, none, none, none]) (.skip)))))
   (.reg [⟨[], [], .nop⟩, ⟨[], [], .bi .add (.e 3) (.c (.n 1))⟩, ⟨[], [], .nop⟩] [some 0, none, some 2, some 7, none, none, none])))))))))
 ((.seq (.reg [⟨[], [], .nop⟩, ⟨[], [], .nop⟩] [none, some 2, none, none, none, none, none])
 (.ret))))))))))⟩

/-- loop.example/g03401/impl.SizeOf -/
def ir_impl_SizeOf : IF := ⟨[], 1, 3, [1],
 (.seq (.reg [⟨[], [], .cs .v (.n 0)⟩] [some 0, none, none])
 ((.seq ((.seq (.reg [⟨[], [], .nop⟩, ⟨[], [], .ca 67 [(.e 0)] 1⟩, ⟨[], [], .un .not (.e 3)⟩] [some 0, none, some 4])
 (.cond 2 ((.seq (.reg [⟨[], [], .cs .v (.n (-1))⟩] [none, some 3, none])
  (.ret))) (.skip))))
 ((.seq (.reg [⟨[], [], .nop⟩, ⟨[], [], .sn (.e 0)⟩, ⟨[], [], .bi .quo (.e 3) (.c (.n 2))⟩, ⟨[], [], .nop⟩] [none, some 4, none])
 (.ret))))))⟩

/-- loop.example/g03401/impl.copyInts -/
def ir_impl_copyInts : IF := ⟨[], 1, 2, [1],
 (.seq (.reg [⟨[], [], .cs (.o .v) (.l [])⟩] [some 0, none])
 ((.seq (.reg [⟨[], [], .li (.o .v) []⟩, ⟨[], [], .nop⟩, ⟨[], [], .ap true (.e 2) (.e 0)⟩, ⟨[], [], .nop⟩] [none, some 3])
 (.ret))))⟩

/-- loop.example/g03401/impl.equalInts -/
def ir_impl_equalInts : IF := ⟨[], 2, 9, [2],
 (.seq (.reg [⟨[], [], .cs .v (.b false)⟩] [some 0, some 1, none, none, none, none, none, none, none])
 ((.seq ((.seq (.reg [⟨[], [], .nop⟩, ⟨[], [], .ln (.e 0) []⟩, ⟨[], [], .nop⟩, ⟨[], [], .ln (.e 1) []⟩, ⟨[], [], .bi .neq (.e 9) (.e 10)⟩] [some 0, some 1, none, none, some 11, none, none, none, none])
 (.cond 4 ((.seq (.reg [⟨[], [], .cs .v (.b false)⟩] [none, none, some 9, none, none, none, none, none, none])
  (.ret))) (.skip))))
 ((.seq ((.seq (.reg [⟨[], [], .nop⟩, ⟨[], [], .ln (.e 0) []⟩, ⟨[], [], .cs .v (.n 0)⟩] [some 0, some 1, none, none, none, some 9, some 10, none, none])
 (.block 0 (.loop ((.seq (.reg [⟨[], [], .bi .lss (.e 6) (.e 5)⟩] [some 0, some 1, none, none, none, some 5, some 6, some 9, none])
   ((.seq (.cond 7 (.skip) (.exit 0))
   ((.seq (.block 1 ((.seq (.reg [⟨[], [], .nop⟩, ⟨[], [], .nop⟩] [some 0, some 1, none, some 6, none, some 5, some 6, none, none])
    ((.seq (.reg [⟨[], [], .nop⟩, ⟨[], [], .nop⟩, ⟨[], [], .iy (.e 0) (.e 3)⟩, ⟨[], [], .nop⟩, ⟨[], [], .nop⟩, ⟨[], [], .nop⟩, ⟨[], [], .iy (.e 1) (.e 3)⟩, ⟨[], [], .nop⟩, ⟨[], [], .bi .neq (.e 9) (.e 10)⟩] [some 0, some 1, none, none, none, some 5, some 6, none, some 11])
    (.cond 8 ((.seq (.reg [⟨[], [], .cs .v (.b false)⟩] [none, none, some 9, none, none, none, none, none, none])
     (.ret))) (.skip)))))))
   (.reg [⟨[], [], .bi .add (.e 6) (.c (.n 1))⟩, ⟨[], [], .nop⟩] [some 0, some 1, none, none, none, some 5, some 9, none, none])))))))))))
 ((.seq (.reg [⟨[], [], .cs .v (.b true)⟩] [none, none, some 9, none, none, none, none, none, none])
 (.ret))))))))⟩

/-- loop.example/g03401/impl.glued -/
def ir_impl_glued : IF := ⟨[], 2, 11, [2],
 (.seq (.reg [⟨[], [], .cs .v (.s [])⟩] [some 0, some 1, none, none, none, none, none, none, none, none, none])
 ((.seq (.reg [⟨[], [], .cs .v (.s [])⟩] [some 0, some 1, none, some 11, none, none, none, none, none, none, none])
 ((.seq ((.seq (.reg [⟨[], [], .nop⟩, ⟨[], [], .ln (.e 0) []⟩, ⟨[], [], .cs .v (.n 0)⟩] [none, some 1, none, some 3, none, none, some 0, some 11, some 12, none, none])
 (.block 0 (.loop ((.seq (.reg [⟨[], [], .bi .lss (.e 8) (.e 7)⟩] [none, some 1, none, some 3, none, none, some 6, some 7, some 8, some 11, none])
   ((.seq (.cond 9 (.skip) (.exit 0))
   ((.seq (.block 1 ((.seq (.reg [⟨[], [], .nop⟩, ⟨[], [], .iy (.e 6) (.e 8)⟩, ⟨[], [], .nop⟩, ⟨[], [], .nop⟩, ⟨[], [], .nop⟩] [none, some 1, none, some 3, some 8, some 11, some 6, some 7, some 8, none, none])
    ((.seq ((.seq (.reg [⟨[], [], .nop⟩, ⟨[], [], .bi .gtr (.e 4) (.c (.n 0))⟩] [none, some 1, none, some 3, none, some 5, some 6, some 7, some 8, none, some 11])
    (.cond 10 (.reg [⟨[], [], .nop⟩, ⟨[], [], .nop⟩, ⟨[], [], .bi .add (.e 3) (.e 1)⟩, ⟨[], [], .nop⟩] [none, some 1, none, some 11, none, some 5, some 6, some 7, some 8, none, none]) (.skip))))
    (.reg [⟨[], [], .nop⟩, ⟨[], [], .nop⟩, ⟨[], [], .bi .add (.e 3) (.e 5)⟩, ⟨[], [], .nop⟩] [none, some 1, none, some 11, none, none, some 6, some 7, some 8, none, none]))))))
   (.reg [⟨[], [], .bi .add (.e 8) (.c (.n 1))⟩, ⟨[], [], .nop⟩] [none, some 1, none, some 3, none, none, some 6, some 7, some 11, none, none])))))))))))
 ((.seq (.reg [⟨[], [], .nop⟩, ⟨[], [], .nop⟩] [none, none, some 3, none, none, none, none, none, none, none, none])
 (.ret))))))))⟩

/-- loop.example/g03401/impl.heights -/
def ir_impl_heights : IF := ⟨[], 1, 11, [1, 2],
 (.seq (.reg [⟨[], [], .cs (.o .v) (.l [])⟩, ⟨[], [], .cs .v (.b false)⟩] [some 0, none, none, none, none, none, none, none, none, none, none])
 ((.seq (.reg [⟨[], [], .li (.o .v) [(.c (.n 0))]⟩, ⟨[], [], .nop⟩] [some 0, none, none, some 11, none, none, none, none, none, none, none])
 ((.seq (.reg [⟨[], [], .cs .v (.n 0)⟩] [some 0, none, none, some 3, some 11, none, none, none, none, none, none])
 ((.seq ((.seq (.reg [⟨[], [], .cs .v (.n 0)⟩] [some 0, none, none, some 3, some 4, some 11, none, none, none, none, none])
 (.block 0 (.loop ((.seq ((.seq (.reg [⟨[], [], .nop⟩, ⟨[], [], .nop⟩, ⟨[], [], .sn (.e 0)⟩, ⟨[], [], .bi .lss (.e 5) (.e 11)⟩] [some 0, none, none, some 3, some 4, some 5, some 12, none, none, none, none])
   (.cond 6 (.skip) (.exit 0))))
   ((.seq (.block 1 ((.seq ((.seq (.reg [⟨[], [], .nop⟩, ⟨[], [], .nop⟩, ⟨[], [], .sx (.e 0) (.e 5)⟩] [some 0, none, none, some 3, some 4, some 5, none, some 11, none, none, none])
    (.block 2 ((.seq (.reg [⟨[], [], .bi .eql (.e 7) (.c (.y 117))⟩, ⟨[], [], .nop⟩] [some 0, none, none, some 3, some 4, some 5, none, some 7, some 11, none, none])
     (.cond 8 (.reg [⟨[], [], .nop⟩, ⟨[], [], .bi .add (.e 4) (.c (.n 1))⟩, ⟨[], [], .nop⟩] [some 0, none, none, some 3, some 11, some 5, none, none, none, none, none]) ((.seq (.reg [⟨[], [], .bi .eql (.e 7) (.c (.y 100))⟩, ⟨[], [], .nop⟩] [some 0, none, none, some 3, some 4, some 5, none, none, none, some 11, none])
      (.cond 9 (.reg [⟨[], [], .nop⟩, ⟨[], [], .bi .sub (.e 4) (.c (.n 1))⟩, ⟨[], [], .nop⟩] [some 0, none, none, some 3, some 11, some 5, none, none, none, none, none]) ((.seq (.reg [⟨[], [], .cs (.o .v) (.l [])⟩, ⟨[], [], .cs .v (.b false)⟩] [none, some 11, some 12, none, none, none, none, none, none, none, none])
       (.ret))))))))))))
    ((.seq ((.seq (.reg [⟨[], [], .nop⟩, ⟨[], [], .bi .lss (.e 4) (.c (.n 0))⟩] [some 0, none, none, some 3, some 4, some 5, none, none, none, none, some 11])
    (.cond 10 ((.seq (.reg [⟨[], [], .cs (.o .v) (.l [])⟩, ⟨[], [], .cs .v (.b false)⟩] [none, some 11, some 12, none, none, none, none, none, none, none, none])
     (.ret))) (.skip))))
    (.reg [⟨[], [], .nop⟩, ⟨[], [], .nop⟩, ⟨[], [], .li (.o .v) [(.e 4)]⟩, ⟨[], [], .ap false (.e 3) (.e 11)⟩, ⟨[], [], .nop⟩] [some 0, none, none, some 12, some 4, some 5, none, none, none, none, none]))))))
   (.reg [⟨[], [], .nop⟩, ⟨[], [], .bi .add (.e 5) (.c (.n 1))⟩, ⟨[], [], .nop⟩] [some 0, none, none, some 3, some 4, some 11, none, none, none, none, none])))))))))
 ((.seq (.reg [⟨[], [], .nop⟩, ⟨[], [], .nop⟩, ⟨[], [], .bi .eql (.e 4) (.c (.n 0))⟩, ⟨[], [], .nop⟩, ⟨[], [], .nop⟩] [none, some 3, some 11, none, none, none, none, none, none, none, none])
 (.ret))))))))))⟩

end Go.Cat

namespace Go.Cat
/-- loop.example/g03401/impl.Contains231 -/
def ir_impl_Contains231 : IF := ⟨[], 1, 2, [1],
 (.seq (.reg [⟨[], [], .cs .v (.b false)⟩] [some 0, none])
 ((.seq (.reg [⟨[], [], .nop⟩, ⟨[], [], .ca 205 [(.e 0), (.c (.f 206 []))] 1⟩, ⟨[], [], .nop⟩] [none, some 2])
 (.ret))))⟩

/-- loop.example/g03401/impl.Contains231$1 -/
def ir_impl_Contains231_f1 : IF := ⟨[], 3, 4, [3],
 (.seq (.reg [⟨[], [], .cs .v (.b false)⟩] [some 0, some 1, some 2, none])
 ((.seq (.reg [⟨[], [], .nop⟩, ⟨[], [], .nop⟩, ⟨[], [], .bi .lss (.e 2) (.e 0)⟩, ⟨[], [], .nop⟩, ⟨[], [(4, true)], .cy (.e 0)⟩, ⟨[], [(4, true)], .cy (.e 1)⟩, ⟨[], [(4, true)], .bi .lss (.e 5) (.e 6)⟩, ⟨[], [], .pk (.e 4) (.e 7) (.c (.b false))⟩, ⟨[], [], .nop⟩] [none, none, none, some 8])
 (.ret))))⟩

/-- loop.example/g03401/impl.InversionsOf -/
def ir_impl_InversionsOf : IF := ⟨[], 1, 16, [1],
 (.seq (.reg [⟨[], [], .cs .v (.n 0)⟩] [some 0, none, none, none, none, none, none, none, none, none, none, none, none, none, none, none])
 ((.seq ((.seq (.reg [⟨[], [], .nop⟩, ⟨[], [], .ca 74 [(.e 0)] 1⟩, ⟨[], [], .un .not (.e 16)⟩] [some 0, none, none, none, none, none, some 17, none, none, none, none, none, none, none, none, none])
 (.cond 6 ((.seq (.reg [⟨[], [], .cs .v (.n (-1))⟩] [none, some 16, none, none, none, none, none, none, none, none, none, none, none, none, none, none])
  (.ret))) (.skip))))
 ((.seq (.reg [⟨[], [], .cs .v (.n 0)⟩] [some 0, none, some 16, none, none, none, none, none, none, none, none, none, none, none, none, none])
 ((.seq ((.seq (.reg [⟨[], [], .nop⟩, ⟨[], [], .ln (.e 0) []⟩, ⟨[], [], .cs .v (.n 0)⟩] [some 0, none, some 2, none, none, none, none, some 0, some 16, some 17, none, none, none, none, none, none])
 (.block 0 (.loop ((.seq (.reg [⟨[], [], .bi .lss (.e 9) (.e 8)⟩] [some 0, none, some 2, none, none, none, none, some 7, some 8, some 9, some 16, none, none, none, none, none])
   ((.seq (.cond 10 (.skip) (.exit 0))
   ((.seq (.block 1 ((.seq (.reg [⟨[], [], .nop⟩, ⟨[], [], .iy (.e 7) (.e 9)⟩, ⟨[], [], .nop⟩, ⟨[], [], .nop⟩, ⟨[], [], .nop⟩] [some 0, none, some 2, some 9, some 16, none, none, some 7, some 8, some 9, none, none, none, none, none, none])
    ((.seq (.reg [⟨[], [], .nop⟩, ⟨[], [], .nop⟩, ⟨[], [], .bi .add (.e 3) (.c (.n 1))⟩, ⟨[], [], .sb false (.e 0) (some (.e 16)) none⟩, ⟨[], [], .ln (.e 17) []⟩, ⟨[], [], .cs .v (.n 0)⟩] [some 0, none, some 2, none, some 4, none, none, some 7, some 8, some 9, none, some 17, some 18, some 19, none, none])
    (.block 2 (.loop ((.seq (.reg [⟨[], [], .bi .lss (.e 13) (.e 12)⟩] [some 0, none, some 2, none, some 4, none, none, some 7, some 8, some 9, none, some 11, some 12, some 13, some 16, none])
      ((.seq (.cond 14 (.skip) (.exit 2))
      ((.seq (.block 3 ((.seq (.reg [⟨[], [], .iy (.e 11) (.e 13)⟩, ⟨[], [], .nop⟩, ⟨[], [], .nop⟩] [some 0, none, some 2, none, some 4, some 16, none, some 7, some 8, some 9, none, some 11, some 12, some 13, none, none])
       ((.seq (.reg [⟨[], [], .nop⟩, ⟨[], [], .nop⟩, ⟨[], [], .bi .gtr (.e 4) (.e 5)⟩] [some 0, none, some 2, none, some 4, none, none, some 7, some 8, some 9, none, some 11, some 12, some 13, none, some 16])
       (.cond 15 (.reg [⟨[], [], .nop⟩, ⟨[], [], .bi .add (.e 2) (.c (.n 1))⟩, ⟨[], [], .nop⟩] [some 0, none, some 16, none, some 4, none, none, some 7, some 8, some 9, none, some 11, some 12, some 13, none, none]) (.skip)))))))
      (.reg [⟨[], [], .bi .add (.e 13) (.c (.n 1))⟩, ⟨[], [], .nop⟩] [some 0, none, some 2, none, some 4, none, none, some 7, some 8, some 9, none, some 11, some 12, some 16, none, none]))))))))))))))
   (.reg [⟨[], [], .bi .add (.e 9) (.c (.n 1))⟩, ⟨[], [], .nop⟩] [some 0, none, some 2, none, none, none, none, some 7, some 8, some 16, none, none, none, none, none, none])))))))))))
 ((.seq (.reg [⟨[], [], .nop⟩, ⟨[], [], .nop⟩] [none, some 2, none, none, none, none, none, none, none, none, none, none, none, none, none, none])
 (.ret))))))))))⟩

/-- loop.example/g03401/impl.IsPermutation -/
def ir_impl_IsPermutation : IF := ⟨[], 1, 10, [1],
 (.seq (.reg [⟨[], [], .cs .v (.b false)⟩] [some 0, none, none, none, none, none, none, none, none, none])
 ((.seq ((.seq (.reg [⟨[], [], .nop⟩, ⟨[], [], .ln (.e 0) []⟩, ⟨[], [], .bi .gtr (.e 10) (.c (.n 8))⟩] [some 0, none, none, none, some 11, none, none, none, none, none])
 (.cond 4 ((.seq (.reg [⟨[], [], .cs .v (.b false)⟩] [none, some 10, none, none, none, none, none, none, none, none])
  (.ret))) (.skip))))
 ((.seq (.reg [⟨[], [], .nop⟩, ⟨[], [], .ln (.e 0) []⟩, ⟨[], [], .mk (.b false) (.e 10) (.e 10)⟩, ⟨[], [], .nop⟩] [some 0, none, some 11, none, none, none, none, none, none, none])
 ((.seq ((.seq (.reg [⟨[], [], .nop⟩, ⟨[], [], .ln (.e 0) []⟩, ⟨[], [], .cs .v (.n 0)⟩] [some 0, none, some 2, none, none, some 0, some 10, some 11, none, none])
 (.block 0 (.loop ((.seq (.reg [⟨[], [], .bi .lss (.e 7) (.e 6)⟩] [some 0, none, some 2, none, none, some 5, some 6, some 7, some 10, none])
   ((.seq (.cond 8 (.skip) (.exit 0))
   ((.seq (.block 1 ((.seq (.reg [⟨[], [], .iy (.e 5) (.e 7)⟩, ⟨[], [], .nop⟩, ⟨[], [], .nop⟩] [some 0, none, some 2, some 10, none, some 5, some 6, some 7, none, none])
    ((.seq ((.seq (.reg [⟨[], [], .nop⟩, ⟨[], [], .nop⟩, ⟨[], [], .ln (.e 0) []⟩, ⟨[], [], .bi .sub (.e 10) (.c (.n 1))⟩, ⟨[], [], .ca 23 [(.e 3), (.c (.n 0)), (.e 11)] 1⟩, ⟨[], [], .un .not (.e 12)⟩, ⟨[], [], .nop⟩, ⟨[], [(13, false)], .nop⟩, ⟨[], [(13, false)], .cy (.e 3)⟩, ⟨[], [(13, false)], .ix (.e 2) [] (.e 14)⟩, ⟨[], [(13, false)], .nop⟩, ⟨[], [], .pk (.e 13) (.c (.b true)) (.e 15)⟩] [some 0, none, some 2, some 3, none, some 5, some 6, some 7, none, some 16])
    (.cond 9 ((.seq (.reg [⟨[], [], .cs .v (.b false)⟩] [none, some 10, none, none, none, none, none, none, none, none])
     (.ret))) (.skip))))
    (.reg [⟨[], [], .nop⟩, ⟨[], [], .nop⟩, ⟨[], [], .ix (.e 2) [] (.e 3)⟩, ⟨[], [], .up 2 [.e 3] (.c (.b true))⟩] [some 0, none, some 11, none, none, some 5, some 6, some 7, none, none]))))))
   (.reg [⟨[], [], .bi .add (.e 7) (.c (.n 1))⟩, ⟨[], [], .nop⟩] [some 0, none, some 2, none, none, some 5, some 6, some 10, none, none])))))))))))
 ((.seq (.reg [⟨[], [], .cs .v (.b true)⟩] [none, some 10, none, none, none, none, none, none, none, none])
 (.ret))))))))))⟩

/-- loop.example/g03401/impl.PathOfPermutation -/
def ir_impl_PathOfPermutation : IF := ⟨[], 1, 12, [1, 2],
 (.seq (.reg [⟨[], [], .cs .v (.s [])⟩, ⟨[], [], .cs .v (.b false)⟩] [some 0, none, none, none, none, none, none, none, none, none, none, none])
 ((.seq ((.seq (.reg [⟨[], [], .nop⟩, ⟨[], [], .ca 74 [(.e 0)] 1⟩, ⟨[], [], .un .not (.e 12)⟩, ⟨[], [], .nop⟩, ⟨[], [(13, false)], .nop⟩, ⟨[], [(13, false)], .ca 187 [(.e 0)] 1⟩, ⟨[], [], .pk (.e 13) (.c (.b true)) (.e 14)⟩] [some 0, none, none, none, none, none, none, some 15, none, none, none, none])
 (.cond 7 ((.seq (.reg [⟨[], [], .cs .v (.s [])⟩, ⟨[], [], .cs .v (.b false)⟩] [none, some 12, some 13, none, none, none, none, none, none, none, none, none])
  (.ret))) (.skip))))
 ((.seq (.reg [⟨[], [], .li (.o .v) []⟩, ⟨[], [], .nop⟩] [some 0, none, none, some 12, none, none, none, none, none, none, none, none])
 ((.seq (.reg [⟨[], [], .li (.o .v) []⟩, ⟨[], [], .nop⟩] [some 0, none, none, some 3, some 12, none, none, none, none, none, none, none])
 ((.seq (.reg [⟨[], [], .cs .v (.n 0)⟩] [some 0, none, none, some 3, some 4, some 12, none, none, none, none, none, none])
 ((.seq ((.seq (.reg [⟨[], [], .nop⟩, ⟨[], [], .ln (.e 0) []⟩, ⟨[], [], .cs .v (.n 0)⟩] [some 0, none, none, some 3, some 4, some 5, none, none, some 12, some 13, none, none])
 (.block 0 (.loop ((.seq (.reg [⟨[], [], .bi .lss (.e 9) (.e 8)⟩] [some 0, none, none, some 3, some 4, some 5, none, none, some 8, some 9, some 12, none])
   ((.seq (.cond 10 (.skip) (.exit 0))
   ((.seq (.block 1 ((.seq (.reg [⟨[], [], .nop⟩, ⟨[], [], .nop⟩] [some 0, none, none, some 3, some 4, some 5, some 9, none, some 8, some 9, none, none])
    ((.seq (.reg [⟨[], [], .nop⟩, ⟨[], [], .li (.o .v) [(.c (.y 117))]⟩, ⟨[], [], .ap false (.e 3) (.e 12)⟩, ⟨[], [], .nop⟩] [some 0, none, none, some 13, some 4, some 5, some 6, none, some 8, some 9, none, none])
    ((.seq (.reg [⟨[], [], .nop⟩, ⟨[], [], .nop⟩, ⟨[], [], .li (.o .v) [(.e 6)]⟩, ⟨[], [], .ap false (.e 4) (.e 12)⟩, ⟨[], [], .nop⟩] [some 0, none, none, some 3, some 13, some 5, none, none, some 8, some 9, none, none])
    (.block 2 (.loop ((.seq ((.seq (.reg [⟨[], [], .nop⟩, ⟨[], [], .ln (.e 4) []⟩, ⟨[], [], .bi .gtr (.e 12) (.c (.n 0))⟩, ⟨[], [], .nop⟩, ⟨[], [(13, true)], .nop⟩, ⟨[], [(13, true)], .nop⟩, ⟨[], [(13, true)], .nop⟩, ⟨[], [(13, true)], .ln (.e 4) []⟩, ⟨[], [(13, true)], .bi .sub (.e 14) (.c (.n 1))⟩, ⟨[], [(13, true)], .ix (.e 4) [] (.e 15)⟩, ⟨[], [(13, true)], .nop⟩, ⟨[], [(13, true)], .iy (.e 0) (.e 16)⟩, ⟨[], [(13, true)], .nop⟩, ⟨[], [(13, true)], .cy (.e 5)⟩, ⟨[], [(13, true)], .bi .eql (.e 17) (.e 18)⟩, ⟨[], [], .pk (.e 13) (.e 19) (.c (.b false))⟩] [some 0, none, none, some 3, some 4, some 5, none, none, some 8, some 9, none, some 20])
      (.cond 11 (.skip) (.exit 2))))
      (.block 3 ((.seq (.reg [⟨[], [], .nop⟩, ⟨[], [], .li (.o .v) [(.c (.y 100))]⟩, ⟨[], [], .ap false (.e 3) (.e 12)⟩, ⟨[], [], .nop⟩] [some 0, none, none, some 13, some 4, some 5, none, none, some 8, some 9, none, none])
       ((.seq (.reg [⟨[], [], .nop⟩, ⟨[], [], .nop⟩, ⟨[], [], .ln (.e 4) []⟩, ⟨[], [], .bi .sub (.e 12) (.c (.n 1))⟩, ⟨[], [], .sb true (.e 4) none (some (.e 13))⟩, ⟨[], [], .nop⟩] [some 0, none, none, some 3, some 14, some 5, none, none, some 8, some 9, none, none])
       (.reg [⟨[], [], .nop⟩, ⟨[], [], .bi .add (.e 5) (.c (.n 1))⟩, ⟨[], [], .nop⟩] [some 0, none, none, some 3, some 4, some 12, none, none, some 8, some 9, none, none])))))))))))))))))
   (.reg [⟨[], [], .bi .add (.e 9) (.c (.n 1))⟩, ⟨[], [], .nop⟩] [some 0, none, none, some 3, some 4, some 5, none, none, some 8, some 12, none, none])))))))))))
 ((.seq (.reg [⟨[], [], .nop⟩, ⟨[], [], .bs (.e 3)⟩, ⟨[], [], .nop⟩, ⟨[], [], .cs .v (.b true)⟩] [none, some 12, some 13, none, none, none, none, none, none, none, none, none])
 (.ret))))))))))))))⟩

/-- loop.example/g03401/impl.hasTriple -/
def ir_impl_hasTriple : IF := ⟨[], 2, 13, [2],
 (.seq (.reg [⟨[], [], .cs .v (.b false)⟩] [some 0, some 1, none, none, none, none, none, none, none, none, none, none, none])
 ((.seq ((.seq (.reg [⟨[], [], .nop⟩, ⟨[], [], .ca 74 [(.e 0)] 1⟩, ⟨[], [], .un .not (.e 13)⟩] [some 0, some 1, none, none, none, none, some 14, none, none, none, none, none, none])
 (.cond 6 ((.seq (.reg [⟨[], [], .cs .v (.b false)⟩] [none, none, some 13, none, none, none, none, none, none, none, none, none, none])
  (.ret))) (.skip))))
 ((.seq ((.seq (.reg [⟨[], [], .nop⟩, ⟨[], [], .ln (.e 0) []⟩, ⟨[], [], .cs .v (.n 0)⟩] [some 0, some 1, none, none, none, none, none, some 13, some 14, none, none, none, none])
 (.block 0 (.loop ((.seq (.reg [⟨[], [], .bi .lss (.e 8) (.e 7)⟩] [some 0, some 1, none, none, none, none, none, some 7, some 8, some 13, none, none, none])
   ((.seq (.cond 9 (.skip) (.exit 0))
   ((.seq (.block 1 ((.seq (.reg [⟨[], [], .nop⟩, ⟨[], [], .nop⟩] [some 0, some 1, none, some 8, none, none, none, some 7, some 8, none, none, none, none])
    ((.seq (.reg [⟨[], [], .nop⟩, ⟨[], [], .bi .add (.e 3) (.c (.n 1))⟩, ⟨[], [], .nop⟩] [some 0, some 1, none, some 3, some 13, none, none, some 7, some 8, none, none, none, none])
    (.block 2 (.loop ((.seq ((.seq (.reg [⟨[], [], .nop⟩, ⟨[], [], .nop⟩, ⟨[], [], .ln (.e 0) []⟩, ⟨[], [], .bi .lss (.e 4) (.e 13)⟩] [some 0, some 1, none, some 3, some 4, none, none, some 7, some 8, none, some 14, none, none])
      (.cond 10 (.skip) (.exit 2))))
      ((.seq (.block 3 ((.seq (.reg [⟨[], [], .nop⟩, ⟨[], [], .bi .add (.e 4) (.c (.n 1))⟩, ⟨[], [], .nop⟩] [some 0, some 1, none, some 3, some 4, some 13, none, some 7, some 8, none, none, none, none])
       (.block 4 (.loop ((.seq ((.seq (.reg [⟨[], [], .nop⟩, ⟨[], [], .nop⟩, ⟨[], [], .ln (.e 0) []⟩, ⟨[], [], .bi .lss (.e 5) (.e 13)⟩] [some 0, some 1, none, some 3, some 4, some 5, none, some 7, some 8, none, none, some 14, none])
         (.cond 11 (.skip) (.exit 4))))
         ((.seq (.block 5 ((.seq (.reg [⟨[], [], .nop⟩, ⟨[], [], .nop⟩, ⟨[], [], .nop⟩, ⟨[], [], .iy (.e 0) (.e 3)⟩, ⟨[], [], .nop⟩, ⟨[], [], .nop⟩, ⟨[], [], .nop⟩, ⟨[], [], .iy (.e 0) (.e 4)⟩, ⟨[], [], .nop⟩, ⟨[], [], .nop⟩, ⟨[], [], .nop⟩, ⟨[], [], .iy (.e 0) (.e 5)⟩, ⟨[], [], .nop⟩, ⟨[], [], .cd (.e 1) 206 [(.e 13), (.e 14), (.e 15)] 1⟩] [some 0, some 1, none, some 3, some 4, some 5, none, some 7, some 8, none, none, none, some 16])
          (.cond 12 ((.seq (.reg [⟨[], [], .cs .v (.b true)⟩] [none, none, some 13, none, none, none, none, none, none, none, none, none, none])
           (.ret))) (.skip)))))
         (.reg [⟨[], [], .nop⟩, ⟨[], [], .bi .add (.e 5) (.c (.n 1))⟩, ⟨[], [], .nop⟩] [some 0, some 1, none, some 3, some 4, some 13, none, some 7, some 8, none, none, none, none]))))))))))
      (.reg [⟨[], [], .nop⟩, ⟨[], [], .bi .add (.e 4) (.c (.n 1))⟩, ⟨[], [], .nop⟩] [some 0, some 1, none, some 3, some 13, none, none, some 7, some 8, none, none, none, none]))))))))))))
   (.reg [⟨[], [], .bi .add (.e 8) (.c (.n 1))⟩, ⟨[], [], .nop⟩] [some 0, some 1, none, none, none, none, none, some 7, some 13, none, none, none, none])))))))))))
 ((.seq (.reg [⟨[], [], .cs .v (.b false)⟩] [none, none, some 13, none, none, none, none, none, none, none, none, none, none])
 (.ret))))))))⟩

end Go.Cat

namespace Go.Cat
/-- loop.example/g03401/impl.BubbleOnce -/
def ir_impl_BubbleOnce : IF := ⟨[], 1, 8, [1, 2],
 (.seq (.reg [⟨[], [], .cs (.o .v) (.l [])⟩, ⟨[], [], .cs .v (.b false)⟩] [some 0, none, none, none, none, none, none, none])
 ((.seq ((.seq (.reg [⟨[], [], .nop⟩, ⟨[], [], .ca 74 [(.e 0)] 1⟩, ⟨[], [], .un .not (.e 8)⟩] [some 0, none, none, none, none, some 9, none, none])
 (.cond 5 ((.seq (.reg [⟨[], [], .li (.o .v) []⟩, ⟨[], [], .nop⟩, ⟨[], [], .cs .v (.b false)⟩] [none, some 8, some 9, none, none, none, none, none])
  (.ret))) (.skip))))
 ((.seq (.reg [⟨[], [], .nop⟩, ⟨[], [], .ca 75 [(.e 0)] 1⟩, ⟨[], [], .nop⟩] [none, none, none, some 8, none, none, none, none])
 ((.seq ((.seq (.reg [⟨[], [], .cs .v (.n 1)⟩] [none, none, none, some 3, some 8, none, none, none])
 (.block 0 (.loop ((.seq ((.seq (.reg [⟨[], [], .nop⟩, ⟨[], [], .nop⟩, ⟨[], [], .ln (.e 3) []⟩, ⟨[], [], .bi .lss (.e 4) (.e 8)⟩] [none, none, none, some 3, some 4, none, some 9, none])
   (.cond 6 (.skip) (.exit 0))))
   ((.seq (.block 1 ((.seq (.reg [⟨[], [], .nop⟩, ⟨[], [], .nop⟩, ⟨[], [], .bi .sub (.e 4) (.c (.n 1))⟩, ⟨[], [], .ix (.e 3) [] (.e 8)⟩, ⟨[], [], .nop⟩, ⟨[], [], .nop⟩, ⟨[], [], .nop⟩, ⟨[], [], .ix (.e 3) [] (.e 4)⟩, ⟨[], [], .nop⟩, ⟨[], [], .bi .gtr (.e 9) (.e 10)⟩] [none, none, none, some 3, some 4, none, none, some 11])
    (.cond 7 (.reg [⟨[], [], .nop⟩, ⟨[], [], .nop⟩, ⟨[], [], .bi .sub (.e 4) (.c (.n 1))⟩, ⟨[], [], .nop⟩, ⟨[], [], .nop⟩, ⟨[], [], .nop⟩, ⟨[], [], .nop⟩, ⟨[], [], .ix (.e 3) [] (.e 4)⟩, ⟨[], [], .nop⟩, ⟨[], [], .nop⟩, ⟨[], [], .nop⟩, ⟨[], [], .bi .sub (.e 4) (.c (.n 1))⟩, ⟨[], [], .ix (.e 3) [] (.e 10)⟩, ⟨[], [], .nop⟩, ⟨[], [], .ix (.e 3) [] (.e 8)⟩, ⟨[], [], .up 3 [.e 8] (.e 9)⟩, ⟨[], [], .ix (.e 13) [] (.e 4)⟩, ⟨[], [], .up 13 [.e 4] (.e 11)⟩] [none, none, none, some 15, some 4, none, none, none]) (.skip)))))
   (.reg [⟨[], [], .nop⟩, ⟨[], [], .bi .add (.e 4) (.c (.n 1))⟩, ⟨[], [], .nop⟩] [none, none, none, some 3, some 8, none, none, none])))))))))
 ((.seq (.reg [⟨[], [], .nop⟩, ⟨[], [], .nop⟩, ⟨[], [], .cs .v (.b true)⟩] [none, some 3, some 8, none, none, none, none, none])
 (.ret))))))))))⟩

/-- loop.example/g03401/impl.CountSortable -/
def ir_impl_CountSortable : IF := ⟨[], 2, 8, [4],
 (.seq (.reg [⟨[], [], .bg 0 [((.e 0), 0)]⟩, ⟨[], [], .bg 0 [((.e 1), 0)]⟩, ⟨[], [], .cs .v (.n 0)⟩] [none, none, some 8, some 9, none, none, none, none])
 ((.seq ((.seq (.reg [⟨[], [], .gt (.e 2) [.k 0]⟩, ⟨[], [], .ca 23 [(.e 8), (.c (.n 0)), (.c (.n 5))] 1⟩, ⟨[], [], .un .not (.e 9)⟩, ⟨[], [], .nop⟩, ⟨[], [(10, false)], .gt (.e 3) [.k 0]⟩, ⟨[], [(10, false)], .ca 23 [(.e 11), (.c (.n 0)), (.c (.n 5))] 1⟩, ⟨[], [(10, false)], .un .not (.e 12)⟩, ⟨[], [], .pk (.e 10) (.c (.b true)) (.e 13)⟩] [none, none, some 2, some 3, none, none, none, some 14])
 (.cond 7 ((.seq (.reg [⟨[], [], .cs .v (.n (-1))⟩] [none, none, none, none, some 8, none, none, none])
  (.ret))) (.skip))))
 ((.seq (.reg [⟨[], [], .cs (.b .v) (.g [(.n 0)])⟩, ⟨[], [], .up 8 [.k 0] (.c (.n 0))⟩] [none, none, some 2, some 3, none, some 9, none, none])
 ((.seq (.reg [⟨[], [], .cs (.b .v) (.g [.u])⟩] [none, none, some 2, some 3, none, some 5, some 8, none])
 ((.seq (.reg [⟨[], [], .nop⟩, ⟨[], [], .cb 6⟩, ⟨[], [], .nop⟩, ⟨[], [], .li (.o .v) []⟩, ⟨[], [], .ca 134 [(.e 9), (.e 2), (.e 3), (.e 5), (.e 8)] 3⟩] [none, none, none, none, none, some 12, none, none])
 ((.seq (.reg [⟨[], [], .gt (.e 5) [.k 0]⟩, ⟨[], [], .nop⟩] [none, none, none, none, some 8, none, none, none])
 (.ret))))))))))))⟩

/-- loop.example/g03401/impl.CountSortable$1 -/
def ir_impl_CountSortable_f1 : IF := ⟨[], 5, 12, [1, 2, 3],
 (.seq ((.seq (.reg [⟨[], [], .nop⟩, ⟨[], [], .ln (.e 0) []⟩, ⟨[], [], .gt (.e 1) [.k 0]⟩, ⟨[], [], .bi .eql (.e 12) (.e 13)⟩] [some 0, some 1, some 2, some 3, some 4, none, some 14, none, none, none, none, none])
 (.cond 6 ((.seq ((.seq (.reg [⟨[], [], .nop⟩, ⟨[], [], .ca 106 [(.e 0)] 1⟩, ⟨[], [], .gt (.e 2) [.k 0]⟩, ⟨[], [], .bi .leq (.e 12) (.e 13)⟩] [none, some 1, some 2, some 3, none, none, none, some 14, none, none, none, none])
  (.cond 7 (.reg [⟨[], [], .gt (.e 3) [.k 0]⟩, ⟨[], [], .bi .add (.e 12) (.c (.n 1))⟩, ⟨[], [], .up 3 [.k 0] (.e 13)⟩] [none, some 1, some 2, some 14, none, none, none, none, none, none, none, none]) (.skip))))
  (.ret))) (.skip))))
 ((.seq (.reg [⟨[], [], .gt (.e 1) [.k 0]⟩, ⟨[], [], .cs .v (.n 0)⟩] [some 0, some 1, some 2, some 3, some 4, none, none, none, some 12, some 13, none, none])
 (.block 0 (.loop ((.seq (.reg [⟨[], [], .bi .lss (.e 9) (.e 8)⟩] [some 0, some 1, some 2, some 3, some 4, none, none, none, some 8, some 9, some 12, none])
   ((.seq (.cond 10 (.skip) (.exit 0))
   ((.seq (.block 1 ((.seq (.reg [⟨[], [], .nop⟩, ⟨[], [], .nop⟩] [some 0, some 1, some 2, some 3, some 4, some 9, none, none, some 8, some 9, none, none])
    ((.seq (.reg [⟨[], [], .nop⟩, ⟨[], [], .nop⟩, ⟨[], [], .ca 135 [(.e 0), (.e 5)] 1⟩, ⟨[], [], .un .not (.e 12)⟩] [some 0, some 1, some 2, some 3, some 4, some 5, none, none, some 8, some 9, none, some 13])
    (.cond 11 (.reg [⟨[], [], .nop⟩, ⟨[], [], .nop⟩, ⟨[], [], .ca 75 [(.e 0)] 1⟩, ⟨[], [], .nop⟩, ⟨[], [], .li (.o .v) [(.e 5)]⟩, ⟨[], [], .ap false (.e 12) (.e 13)⟩, ⟨[], [], .ca 134 [(.e 14), (.e 1), (.e 2), (.e 3), (.e 4)] 3⟩] [some 0, some 15, some 16, some 17, some 4, none, none, none, some 8, some 9, none, none]) (.skip)))))))
   (.reg [⟨[], [], .bi .add (.e 9) (.c (.n 1))⟩, ⟨[], [], .nop⟩] [some 0, some 1, some 2, some 3, some 4, none, none, none, some 8, some 12, none, none]))))))))))))⟩

/-- loop.example/g03401/impl.IsSortable -/
def ir_impl_IsSortable : IF := ⟨[], 1, 4, [1],
 (.seq (.reg [⟨[], [], .cs .v (.b false)⟩] [some 0, none, none, none])
 ((.seq (.reg [⟨[], [], .nop⟩, ⟨[], [], .ca 62 [(.e 0)] 2⟩, ⟨[], [], .nop⟩, ⟨[], [], .nop⟩, ⟨[], [], .nop⟩, ⟨[], [], .nop⟩, ⟨[], [], .nop⟩] [none, none, some 4, some 5])
 ((.seq (.reg [⟨[], [], .nop⟩, ⟨[], [], .nop⟩, ⟨[], [(3, true)], .cy (.e 2)⟩, ⟨[], [(3, true)], .ca 131 [(.e 4)] 1⟩, ⟨[], [], .pk (.e 3) (.e 5) (.c (.b false))⟩, ⟨[], [], .nop⟩] [none, some 6, none, none])
 (.ret))))))⟩

/-- loop.example/g03401/impl.OutputOf -/
def ir_impl_OutputOf : IF := ⟨[], 2, 11, [2, 3],
 (.seq (.reg [⟨[], [], .cs (.o .v) (.l [])⟩, ⟨[], [], .cs .v (.b false)⟩] [some 0, some 1, none, none, none, none, none, none, none, none, none])
 ((.seq (.reg [⟨[], [], .li (.o .v) []⟩, ⟨[], [], .nop⟩] [some 0, some 1, none, none, some 11, none, none, none, none, none, none])
 ((.seq ((.seq (.reg [⟨[], [], .nop⟩, ⟨[], [], .ca 67 [(.e 0)] 1⟩, ⟨[], [], .un .not (.e 11)⟩, ⟨[], [], .nop⟩, ⟨[], [(12, false)], .nop⟩, ⟨[], [(12, false)], .ca 74 [(.e 1)] 1⟩, ⟨[], [(12, false)], .un .not (.e 13)⟩, ⟨[], [], .pk (.e 12) (.c (.b true)) (.e 14)⟩, ⟨[], [], .nop⟩, ⟨[], [(15, false)], .nop⟩, ⟨[], [(15, false)], .ln (.e 1) []⟩, ⟨[], [(15, false)], .cy (.e 0)⟩, ⟨[], [(15, false)], .ca 132 [(.e 17)] 1⟩, ⟨[], [(15, false)], .bi .neq (.e 16) (.e 18)⟩, ⟨[], [], .pk (.e 15) (.c (.b true)) (.e 19)⟩] [some 0, some 1, none, none, some 4, none, none, none, some 20, none, none])
 (.cond 8 ((.seq (.reg [⟨[], [], .nop⟩, ⟨[], [], .nop⟩, ⟨[], [], .cs .v (.b false)⟩] [none, none, some 4, some 11, none, none, none, none, none, none, none])
  (.ret))) (.skip))))
 ((.seq (.reg [⟨[], [], .li (.o .v) []⟩, ⟨[], [], .nop⟩] [some 0, some 1, none, none, some 4, some 11, none, none, none, none, none])
 ((.seq (.reg [⟨[], [], .cs .v (.n 0)⟩] [some 0, some 1, none, none, some 4, some 5, some 11, none, none, none, none])
 ((.seq ((.seq (.reg [⟨[], [], .cs .v (.n 0)⟩] [some 0, some 1, none, none, some 4, some 5, some 6, some 11, none, none, none])
 (.block 0 (.loop ((.seq ((.seq (.reg [⟨[], [], .nop⟩, ⟨[], [], .nop⟩, ⟨[], [], .sn (.e 0)⟩, ⟨[], [], .bi .lss (.e 7) (.e 11)⟩] [some 0, some 1, none, none, some 4, some 5, some 6, some 7, none, some 12, none])
   (.cond 9 (.skip) (.exit 0))))
   ((.seq (.block 1 ((.seq ((.seq (.reg [⟨[], [], .nop⟩, ⟨[], [], .nop⟩, ⟨[], [], .sx (.e 0) (.e 7)⟩, ⟨[], [], .bi .eql (.e 11) (.c (.y 117))⟩] [some 0, some 1, none, none, some 4, some 5, some 6, some 7, none, none, some 12])
    (.cond 10 ((.seq (.reg [⟨[], [], .nop⟩, ⟨[], [], .nop⟩, ⟨[], [], .nop⟩, ⟨[], [], .iy (.e 1) (.e 6)⟩, ⟨[], [], .nop⟩, ⟨[], [], .li (.o .v) [(.e 11)]⟩, ⟨[], [], .ap false (.e 5) (.e 12)⟩, ⟨[], [], .nop⟩] [some 0, some 1, none, none, some 4, some 13, some 6, some 7, none, none, none])
     ((.seq (.reg [⟨[], [], .nop⟩, ⟨[], [], .bi .add (.e 6) (.c (.n 1))⟩, ⟨[], [], .nop⟩] [some 0, some 1, none, none, some 4, some 5, some 11, some 7, none, none, none])
     (.exit 1))))) (.skip))))
    ((.seq (.reg [⟨[], [], .nop⟩, ⟨[], [], .nop⟩, ⟨[], [], .nop⟩, ⟨[], [], .ln (.e 5) []⟩, ⟨[], [], .bi .sub (.e 11) (.c (.n 1))⟩, ⟨[], [], .ix (.e 5) [] (.e 12)⟩, ⟨[], [], .nop⟩, ⟨[], [], .li (.o .v) [(.e 13)]⟩, ⟨[], [], .ap false (.e 4) (.e 14)⟩, ⟨[], [], .nop⟩] [some 0, some 1, none, none, some 15, some 5, some 6, some 7, none, none, none])
    (.reg [⟨[], [], .nop⟩, ⟨[], [], .nop⟩, ⟨[], [], .ln (.e 5) []⟩, ⟨[], [], .bi .sub (.e 11) (.c (.n 1))⟩, ⟨[], [], .sb true (.e 5) none (some (.e 12))⟩, ⟨[], [], .nop⟩] [some 0, some 1, none, none, some 4, some 13, some 6, some 7, none, none, none]))))))
   (.reg [⟨[], [], .nop⟩, ⟨[], [], .bi .add (.e 7) (.c (.n 1))⟩, ⟨[], [], .nop⟩] [some 0, some 1, none, none, some 4, some 5, some 6, some 11, none, none, none])))))))))
 ((.seq (.reg [⟨[], [], .nop⟩, ⟨[], [], .nop⟩, ⟨[], [], .cs .v (.b true)⟩] [none, none, some 4, some 11, none, none, none, none, none, none, none])
 (.ret))))))))))))))⟩

/-- loop.example/g03401/impl.PassesOf -/
def ir_impl_PassesOf : IF := ⟨[], 1, 5, [1],
 (.seq (.reg [⟨[], [], .cs .v (.n 0)⟩] [some 0, none, none, none, none])
 ((.seq ((.seq (.reg [⟨[], [], .nop⟩, ⟨[], [], .ca 74 [(.e 0)] 1⟩, ⟨[], [], .un .not (.e 5)⟩] [some 0, none, none, some 6, none])
 (.cond 3 ((.seq (.reg [⟨[], [], .cs .v (.n (-1))⟩] [none, some 5, none, none, none])
  (.ret))) (.skip))))
 ((.seq (.reg [⟨[], [], .cs .v (.n 0)⟩] [some 0, none, some 5, none, none])
 ((.seq (.block 0 (.loop ((.seq ((.seq (.reg [⟨[], [], .nop⟩, ⟨[], [], .ca 131 [(.e 0)] 1⟩, ⟨[], [], .un .not (.e 5)⟩] [some 0, none, some 2, none, some 6])
   (.cond 4 (.skip) (.exit 0))))
   (.block 1 ((.seq (.reg [⟨[], [], .nop⟩, ⟨[], [], .ca 62 [(.e 0)] 2⟩, ⟨[], [], .nop⟩, ⟨[], [], .nop⟩, ⟨[], [], .nop⟩, ⟨[], [], .nop⟩] [some 5, none, some 2, none, none])
    (.reg [⟨[], [], .nop⟩, ⟨[], [], .bi .add (.e 2) (.c (.n 1))⟩, ⟨[], [], .nop⟩] [some 0, none, some 5, none, none]))))))))
 ((.seq (.reg [⟨[], [], .nop⟩, ⟨[], [], .nop⟩] [none, some 2, none, none, none])
 (.ret))))))))))⟩

/-- loop.example/g03401/impl.PatternOf231 -/
def ir_impl_PatternOf231 : IF := ⟨[], 1, 13, [1, 2],
 (.seq (.reg [⟨[], [], .cs (.o .v) (.l [])⟩, ⟨[], [], .cs .v (.b false)⟩] [some 0, none, none, none, none, none, none, none, none, none, none, none, none])
 ((.seq ((.seq (.reg [⟨[], [], .nop⟩, ⟨[], [], .ca 74 [(.e 0)] 1⟩, ⟨[], [], .un .not (.e 13)⟩] [some 0, none, none, none, none, none, some 14, none, none, none, none, none, none])
 (.cond 6 ((.seq (.reg [⟨[], [], .li (.o .v) []⟩, ⟨[], [], .nop⟩, ⟨[], [], .cs .v (.b false)⟩] [none, some 13, some 14, none, none, none, none, none, none, none, none, none, none])
  (.ret))) (.skip))))
 ((.seq ((.seq (.reg [⟨[], [], .nop⟩, ⟨[], [], .ln (.e 0) []⟩, ⟨[], [], .cs .v (.n 0)⟩] [some 0, none, none, none, none, none, none, some 13, some 14, none, none, none, none])
 (.block 0 (.loop ((.seq (.reg [⟨[], [], .bi .lss (.e 8) (.e 7)⟩] [some 0, none, none, none, none, none, none, some 7, some 8, some 13, none, none, none])
   ((.seq (.cond 9 (.skip) (.exit 0))
   ((.seq (.block 1 ((.seq (.reg [⟨[], [], .nop⟩, ⟨[], [], .nop⟩] [some 0, none, none, some 8, none, none, none, some 7, some 8, none, none, none, none])
    ((.seq (.reg [⟨[], [], .nop⟩, ⟨[], [], .bi .add (.e 3) (.c (.n 1))⟩, ⟨[], [], .nop⟩] [some 0, none, none, some 3, some 13, none, none, some 7, some 8, none, none, none, none])
    (.block 2 (.loop ((.seq ((.seq (.reg [⟨[], [], .nop⟩, ⟨[], [], .nop⟩, ⟨[], [], .ln (.e 0) []⟩, ⟨[], [], .bi .lss (.e 4) (.e 13)⟩] [some 0, none, none, some 3, some 4, none, none, some 7, some 8, none, some 14, none, none])
      (.cond 10 (.skip) (.exit 2))))
      ((.seq (.block 3 ((.seq (.reg [⟨[], [], .nop⟩, ⟨[], [], .bi .add (.e 4) (.c (.n 1))⟩, ⟨[], [], .nop⟩] [some 0, none, none, some 3, some 4, some 13, none, some 7, some 8, none, none, none, none])
       (.block 4 (.loop ((.seq ((.seq (.reg [⟨[], [], .nop⟩, ⟨[], [], .nop⟩, ⟨[], [], .ln (.e 0) []⟩, ⟨[], [], .bi .lss (.e 5) (.e 13)⟩] [some 0, none, none, some 3, some 4, some 5, none, some 7, some 8, none, none, some 14, none])
         (.cond 11 (.skip) (.exit 4))))
         ((.seq (.block 5 ((.seq (.reg [⟨[], [], .nop⟩, ⟨[], [], .nop⟩, ⟨[], [], .iy (.e 0) (.e 5)⟩, ⟨[], [], .nop⟩, ⟨[], [], .nop⟩, ⟨[], [], .nop⟩, ⟨[], [], .iy (.e 0) (.e 3)⟩, ⟨[], [], .nop⟩, ⟨[], [], .bi .lss (.e 13) (.e 14)⟩, ⟨[], [], .nop⟩, ⟨[], [(15, true)], .nop⟩, ⟨[], [(15, true)], .cy (.e 3)⟩, ⟨[], [(15, true)], .iy (.e 0) (.e 16)⟩, ⟨[], [(15, true)], .nop⟩, ⟨[], [(15, true)], .nop⟩, ⟨[], [(15, true)], .cy (.e 4)⟩, ⟨[], [(15, true)], .iy (.e 0) (.e 18)⟩, ⟨[], [(15, true)], .nop⟩, ⟨[], [(15, true)], .bi .lss (.e 17) (.e 19)⟩, ⟨[], [], .pk (.e 15) (.e 20) (.c (.b false))⟩] [some 0, none, none, some 3, some 4, some 5, none, some 7, some 8, none, none, none, some 21])
          (.cond 12 ((.seq (.reg [⟨[], [], .nop⟩, ⟨[], [], .nop⟩, ⟨[], [], .nop⟩, ⟨[], [], .li (.o .v) [(.e 3), (.e 4), (.e 5)]⟩, ⟨[], [], .nop⟩, ⟨[], [], .cs .v (.b true)⟩] [none, some 13, some 14, none, none, none, none, none, none, none, none, none, none])
           (.ret))) (.skip)))))
         (.reg [⟨[], [], .nop⟩, ⟨[], [], .bi .add (.e 5) (.c (.n 1))⟩, ⟨[], [], .nop⟩] [some 0, none, none, some 3, some 4, some 13, none, some 7, some 8, none, none, none, none]))))))))))
      (.reg [⟨[], [], .nop⟩, ⟨[], [], .bi .add (.e 4) (.c (.n 1))⟩, ⟨[], [], .nop⟩] [some 0, none, none, some 3, some 13, none, none, some 7, some 8, none, none, none, none]))))))))))))
   (.reg [⟨[], [], .bi .add (.e 8) (.c (.n 1))⟩, ⟨[], [], .nop⟩] [some 0, none, none, none, none, none, none, some 7, some 13, none, none, none, none])))))))))))
 ((.seq (.reg [⟨[], [], .li (.o .v) []⟩, ⟨[], [], .nop⟩, ⟨[], [], .cs .v (.b false)⟩] [none, some 13, some 14, none, none, none, none, none, none, none, none, none, none])
 (.ret))))))))⟩

/-- loop.example/g03401/impl.SortOnce -/
def ir_impl_SortOnce : IF := ⟨[], 1, 12, [1, 2],
 (.seq (.reg [⟨[], [], .cs (.o .v) (.l [])⟩, ⟨[], [], .cs .v (.b false)⟩] [some 0, none, none, none, none, none, none, none, none, none, none, none])
 ((.seq (.reg [⟨[], [], .li (.o .v) []⟩, ⟨[], [], .nop⟩] [some 0, none, none, some 12, none, none, none, none, none, none, none, none])
 ((.seq ((.seq (.reg [⟨[], [], .nop⟩, ⟨[], [], .ca 74 [(.e 0)] 1⟩, ⟨[], [], .un .not (.e 12)⟩] [some 0, none, none, some 3, none, none, some 13, none, none, none, none, none])
 (.cond 6 ((.seq (.reg [⟨[], [], .nop⟩, ⟨[], [], .nop⟩, ⟨[], [], .cs .v (.b false)⟩] [none, some 3, some 12, none, none, none, none, none, none, none, none, none])
  (.ret))) (.skip))))
 ((.seq (.reg [⟨[], [], .li (.o .v) []⟩, ⟨[], [], .nop⟩] [some 0, none, none, some 3, some 12, none, none, none, none, none, none, none])
 ((.seq ((.seq (.reg [⟨[], [], .nop⟩, ⟨[], [], .ln (.e 0) []⟩, ⟨[], [], .cs .v (.n 0)⟩] [none, none, none, some 3, some 4, none, none, some 0, some 12, some 13, none, none])
 (.block 0 (.loop ((.seq (.reg [⟨[], [], .bi .lss (.e 9) (.e 8)⟩] [none, none, none, some 3, some 4, none, none, some 7, some 8, some 9, some 12, none])
   ((.seq (.cond 10 (.skip) (.exit 0))
   ((.seq (.block 1 ((.seq (.reg [⟨[], [], .iy (.e 7) (.e 9)⟩, ⟨[], [], .nop⟩, ⟨[], [], .nop⟩] [none, none, none, some 3, some 4, some 12, none, some 7, some 8, some 9, none, none])
    ((.seq (.block 2 (.loop ((.seq ((.seq (.reg [⟨[], [], .nop⟩, ⟨[], [], .ln (.e 4) []⟩, ⟨[], [], .bi .gtr (.e 12) (.c (.n 0))⟩, ⟨[], [], .nop⟩, ⟨[], [(13, true)], .nop⟩, ⟨[], [(13, true)], .nop⟩, ⟨[], [(13, true)], .ln (.e 4) []⟩, ⟨[], [(13, true)], .bi .sub (.e 14) (.c (.n 1))⟩, ⟨[], [(13, true)], .ix (.e 4) [] (.e 15)⟩, ⟨[], [(13, true)], .nop⟩, ⟨[], [(13, true)], .cy (.e 5)⟩, ⟨[], [(13, true)], .bi .lss (.e 16) (.e 17)⟩, ⟨[], [], .pk (.e 13) (.e 18) (.c (.b false))⟩] [none, none, none, some 3, some 4, some 5, none, some 7, some 8, some 9, none, some 19])
      (.cond 11 (.skip) (.exit 2))))
      (.block 3 ((.seq (.reg [⟨[], [], .nop⟩, ⟨[], [], .nop⟩, ⟨[], [], .nop⟩, ⟨[], [], .ln (.e 4) []⟩, ⟨[], [], .bi .sub (.e 12) (.c (.n 1))⟩, ⟨[], [], .ix (.e 4) [] (.e 13)⟩, ⟨[], [], .nop⟩, ⟨[], [], .li (.o .v) [(.e 14)]⟩, ⟨[], [], .ap false (.e 3) (.e 15)⟩, ⟨[], [], .nop⟩] [none, none, none, some 16, some 4, some 5, none, some 7, some 8, some 9, none, none])
       (.reg [⟨[], [], .nop⟩, ⟨[], [], .nop⟩, ⟨[], [], .ln (.e 4) []⟩, ⟨[], [], .bi .sub (.e 12) (.c (.n 1))⟩, ⟨[], [], .sb true (.e 4) none (some (.e 13))⟩, ⟨[], [], .nop⟩] [none, none, none, some 3, some 14, some 5, none, some 7, some 8, some 9, none, none]))))))))
    (.reg [⟨[], [], .nop⟩, ⟨[], [], .nop⟩, ⟨[], [], .li (.o .v) [(.e 5)]⟩, ⟨[], [], .ap false (.e 4) (.e 12)⟩, ⟨[], [], .nop⟩] [none, none, none, some 3, some 13, none, none, some 7, some 8, some 9, none, none]))))))
   (.reg [⟨[], [], .bi .add (.e 9) (.c (.n 1))⟩, ⟨[], [], .nop⟩] [none, none, none, some 3, some 4, none, none, some 7, some 8, some 12, none, none])))))))))))
 ((.seq (.reg [⟨[], [], .nop⟩, ⟨[], [], .ca 81 [(.e 4)] 1⟩] [none, none, none, some 3, some 12, none, none, none, none, none, none, none])
 ((.seq (.reg [⟨[], [], .nop⟩, ⟨[], [], .nop⟩, ⟨[], [], .ap false (.e 3) (.e 4)⟩, ⟨[], [], .nop⟩, ⟨[], [], .cs .v (.b true)⟩] [none, some 12, some 13, none, none, none, none, none, none, none, none, none])
 (.ret))))))))))))))⟩

/-- loop.example/g03401/impl.ascends -/
def ir_impl_ascends : IF := ⟨[], 1, 2, [1],
 (.seq (.reg [⟨[], [], .cs .v (.b false)⟩] [some 0, none])
 ((.seq (.reg [⟨[], [], .nop⟩, ⟨[], [], .ca 178 [(.e 0)] 1⟩, ⟨[], [], .nop⟩] [none, some 2])
 (.ret))))⟩

end Go.Cat

namespace Go.Cat
/-- loop.example/g03401/impl.ClaimOfSorting -/
def ir_impl_ClaimOfSorting : IF := ⟨[(0, 7)], 1, 8, [1, 2],
 (.seq (.reg [⟨[], [], .cs (.b (.o (.o (.o .v)))) (.g [(.n 0), (.s []), (.s []), (.l []), (.l []), (.l []), (.l [])])⟩, ⟨[], [], .cs .v (.b false)⟩] [some 0, some 8, none, none, none, none, none, none])
 ((.seq ((.seq (.reg [⟨[], [], .nop⟩, ⟨[], [], .ca 74 [(.e 0)] 1⟩, ⟨[], [], .un .not (.e 8)⟩] [some 0, some 1, none, none, none, none, some 9, none])
 (.cond 6 ((.seq (.reg [⟨[], [], .bg 3 [((.c (.n 0)), 0), ((.c (.s [])), 0), ((.c (.s [])), 0), ((.c (.l [])), 1), ((.c (.l [])), 1), ((.c (.l [])), 1), ((.c (.l [])), 1)]⟩, ⟨[], [], .ws 1 7 (.e 8)⟩, ⟨[], [], .cs .v (.b false)⟩] [none, some 9, some 10, none, none, none, none, none])
  (.ret))) (.skip))))
 ((.seq ((.seq (.reg [⟨[], [], .nop⟩, ⟨[], [], .ca 157 [(.e 0)] 2⟩, ⟨[], [], .nop⟩, ⟨[], [], .nop⟩, ⟨[], [], .nop⟩, ⟨[], [], .nop⟩, ⟨[], [], .nop⟩] [some 0, some 1, none, some 8, some 9, none, none, none])
 ((.seq (.reg [⟨[], [], .nop⟩] [some 0, some 1, none, some 3, none, none, none, some 4])
 (.cond 7 ((.seq (.reg [⟨[], [], .nop⟩, ⟨[], [], .ca 75 [(.e 0)] 1⟩, ⟨[], [], .nop⟩, ⟨[], [], .bg 3 [((.c (.n 3)), 0), ((.e 3), 0), ((.c (.s [])), 0), ((.c (.l [])), 1), ((.e 8), 1), ((.c (.l [])), 1), ((.c (.l [])), 1)]⟩, ⟨[], [], .ws 1 7 (.e 9)⟩, ⟨[], [], .cs .v (.b true)⟩] [none, some 10, some 11, none, none, none, none, none])
  (.ret))) (.skip))))))
 ((.seq (.reg [⟨[], [], .nop⟩, ⟨[], [], .ca 50 [(.e 0)] 2⟩, ⟨[], [], .nop⟩, ⟨[], [], .nop⟩, ⟨[], [], .nop⟩, ⟨[], [], .nop⟩, ⟨[], [], .nop⟩] [some 0, some 1, none, none, none, some 8, none, none])
 ((.seq (.reg [⟨[], [], .nop⟩, ⟨[], [], .ca 75 [(.e 0)] 1⟩, ⟨[], [], .nop⟩, ⟨[], [], .bg 3 [((.c (.n 4)), 0), ((.c (.s [])), 0), ((.c (.s [])), 0), ((.c (.l [])), 1), ((.e 8), 1), ((.e 5), 1), ((.c (.l [])), 1)]⟩, ⟨[], [], .ws 1 7 (.e 9)⟩, ⟨[], [], .cs .v (.b true)⟩] [none, some 10, some 11, none, none, none, none, none])
 (.ret))))))))))⟩

/-- loop.example/g03401/impl.EqualClaims -/
def ir_impl_EqualClaims : IF := ⟨[], 2, 5, [4],
 (.seq (.reg [⟨[], [], .bp (.e 0)⟩, ⟨[], [], .bp (.e 1)⟩, ⟨[], [], .cs .v (.b false)⟩] [none, none, some 5, some 6, none])
 ((.seq (.reg [⟨[], [], .fp true (.e 2) 0⟩, ⟨[], [], .nop⟩, ⟨[], [], .fp true (.e 3) 0⟩, ⟨[], [], .nop⟩, ⟨[], [], .bi .eql (.e 5) (.e 6)⟩, ⟨[], [], .nop⟩, ⟨[], [(7, true)], .fp true (.e 2) 1⟩, ⟨[], [(7, true)], .nop⟩, ⟨[], [(7, true)], .fp true (.e 3) 1⟩, ⟨[], [(7, true)], .nop⟩, ⟨[], [(7, true)], .bi .eql (.e 8) (.e 9)⟩, ⟨[], [], .pk (.e 7) (.e 10) (.c (.b false))⟩, ⟨[], [], .nop⟩, ⟨[], [(11, true)], .fp true (.e 2) 2⟩, ⟨[], [(11, true)], .nop⟩, ⟨[], [(11, true)], .fp true (.e 3) 2⟩, ⟨[], [(11, true)], .nop⟩, ⟨[], [(11, true)], .bi .eql (.e 12) (.e 13)⟩, ⟨[], [], .pk (.e 11) (.e 14) (.c (.b false))⟩, ⟨[], [], .nop⟩, ⟨[], [(15, true)], .fp false (.e 2) 3⟩, ⟨[], [(15, true)], .nop⟩, ⟨[], [(15, true)], .fp false (.e 3) 3⟩, ⟨[], [(15, true)], .nop⟩, ⟨[], [(15, true)], .ca 153 [(.e 16), (.e 17)] 1⟩, ⟨[], [], .pk (.e 15) (.e 18) (.c (.b false))⟩, ⟨[], [], .nop⟩, ⟨[], [(19, true)], .fp false (.e 2) 4⟩, ⟨[], [(19, true)], .nop⟩, ⟨[], [(19, true)], .fp false (.e 3) 4⟩, ⟨[], [(19, true)], .nop⟩, ⟨[], [(19, true)], .ca 72 [(.e 20), (.e 21)] 1⟩, ⟨[], [], .pk (.e 19) (.e 22) (.c (.b false))⟩, ⟨[], [], .nop⟩, ⟨[], [(23, true)], .fp false (.e 2) 5⟩, ⟨[], [(23, true)], .nop⟩, ⟨[], [(23, true)], .fp false (.e 3) 5⟩, ⟨[], [(23, true)], .nop⟩, ⟨[], [(23, true)], .ca 72 [(.e 24), (.e 25)] 1⟩, ⟨[], [], .pk (.e 23) (.e 26) (.c (.b false))⟩, ⟨[], [], .nop⟩, ⟨[], [(27, true)], .fp false (.e 2) 6⟩, ⟨[], [(27, true)], .nop⟩, ⟨[], [(27, true)], .fp false (.e 3) 6⟩, ⟨[], [(27, true)], .nop⟩, ⟨[], [(27, true)], .ca 154 [(.e 28), (.e 29), (.c (.f 72 []))] 1⟩, ⟨[], [], .pk (.e 27) (.e 30) (.c (.b false))⟩, ⟨[], [], .nop⟩] [none, none, none, none, some 31])
 (.ret))))⟩

end Go.Cat

namespace Go.Cat
/-- loop.example/g03401/laws.FnExactClaimOfSorting -/
def ir_laws_FnExactClaimOfSorting : IF := ⟨[], 1, 21, [1],
 (.seq (.reg [⟨[], [], .cs .v (.b false)⟩] [some 0, none, none, none, none, none, none, none, none, none, none, none, none, none, none, none, none, none, none, none, none])
 ((.seq ((.seq (.reg [⟨[], [], .nop⟩, ⟨[], [], .ln (.e 0) []⟩, ⟨[], [], .bi .gtr (.e 21) (.c (.n 1048576))⟩] [some 0, none, none, none, none, none, none, none, none, none, none, none, some 22, none, none, none, none, none, none, none, none])
 (.cond 12 ((.seq (.reg [⟨[], [], .cs .v (.b true)⟩] [none, some 21, none, none, none, none, none, none, none, none, none, none, none, none, none, none, none, none, none, none, none])
  (.ret))) (.skip))))
 ((.seq (.reg [⟨[], [], .nop⟩, ⟨[], [], .ca 42 [(.e 0)] 1⟩, ⟨[], [], .ca 120 [(.e 21)] 2⟩, ⟨[], [], .nop⟩, ⟨[], [], .nop⟩, ⟨[], [], .nop⟩, ⟨[], [], .cs (.b (.o (.o (.o .v)))) (.g [(.n 0), (.s []), (.s []), (.l []), (.l []), (.l []), (.l [])])⟩, ⟨[], [], .ws 24 7 (.e 22)⟩, ⟨[], [], .nop⟩] [some 0, none, some 25, some 23, none, none, none, none, none, none, none, none, none, none, none, none, none, none, none, none, none])
 ((.seq (.reg [⟨[], [], .nop⟩, ⟨[], [], .ca 42 [(.e 0)] 1⟩, ⟨[], [], .nop⟩] [some 0, none, some 2, some 3, some 21, none, none, none, none, none, none, none, none, none, none, none, none, none, none, none, none])
 ((.seq (.reg [⟨[], [], .nop⟩, ⟨[], [], .ca 121 [(.e 4)] 2⟩, ⟨[], [], .nop⟩, ⟨[], [], .nop⟩, ⟨[], [], .nop⟩, ⟨[], [], .cs (.b (.o (.o (.o .v)))) (.g [(.n 0), (.s []), (.s []), (.l []), (.l []), (.l []), (.l [])])⟩, ⟨[], [], .ws 23 7 (.e 21)⟩, ⟨[], [], .nop⟩] [some 0, none, some 2, some 3, some 4, some 24, some 22, none, none, none, none, none, none, none, none, none, none, none, none, none, none])
 ((.seq ((.seq (.reg [⟨[], [], .wl 7 (.e 5)⟩, ⟨[], [], .wl 7 (.e 2)⟩, ⟨[], [], .ca 119 [(.e 21), (.e 22)] 1⟩, ⟨[], [], .un .not (.e 23)⟩, ⟨[], [], .nop⟩, ⟨[], [(24, false)], .cy (.e 6)⟩, ⟨[], [(24, false)], .cy (.e 3)⟩, ⟨[], [(24, false)], .bb .neq (.e 25) (.e 26)⟩, ⟨[], [], .pk (.e 24) (.c (.b true)) (.e 27)⟩] [some 0, none, some 2, some 3, some 4, some 5, some 6, none, none, none, none, none, none, some 28, none, none, none, none, none, none, none])
 (.cond 13 ((.seq (.reg [⟨[], [], .cs .v (.b false)⟩] [none, some 21, none, none, none, none, none, none, none, none, none, none, none, none, none, none, none, none, none, none, none])
  (.ret))) (.skip))))
 ((.seq ((.seq (.reg [⟨[], [], .nop⟩, ⟨[], [], .nop⟩, ⟨[], [], .ca 42 [(.e 0)] 1⟩, ⟨[], [], .ca 44 [(.e 4), (.e 21)] 1⟩, ⟨[], [], .un .not (.e 22)⟩] [some 0, none, some 2, some 3, some 4, some 5, some 6, none, none, none, none, none, none, none, some 23, none, none, none, none, none, none])
 (.cond 14 ((.seq (.reg [⟨[], [], .cs .v (.b false)⟩] [none, some 21, none, none, none, none, none, none, none, none, none, none, none, none, none, none, none, none, none, none, none])
  (.ret))) (.skip))))
 ((.seq (.reg [⟨[], [], .cs .v (.n 1)⟩] [some 0, none, some 2, some 3, some 4, some 5, some 6, some 21, none, none, none, none, none, none, none, none, none, none, none, none, none])
 ((.seq (.reg [⟨[], [], .nop⟩, ⟨[], [], .nop⟩, ⟨[], [], .ca 45 [(.e 4), (.e 7)] 2⟩, ⟨[], [], .nop⟩] [some 0, none, some 2, some 3, none, some 5, some 6, some 21, none, none, none, none, none, none, none, none, none, none, none, none, none])
 ((.seq ((.seq (.reg [⟨[], [], .nop⟩, ⟨[], [], .bi .lss (.e 7) (.c (.n 0))⟩, ⟨[], [], .nop⟩, ⟨[], [(21, false)], .wl 7 (.e 5)⟩, ⟨[], [(21, false)], .wl 7 (.e 2)⟩, ⟨[], [(21, false)], .ca 119 [(.e 22), (.e 23)] 1⟩, ⟨[], [(21, false)], .un .not (.e 24)⟩, ⟨[], [], .pk (.e 21) (.c (.b true)) (.e 25)⟩, ⟨[], [], .nop⟩, ⟨[], [(26, false)], .cy (.e 6)⟩, ⟨[], [(26, false)], .cy (.e 3)⟩, ⟨[], [(26, false)], .bb .neq (.e 27) (.e 28)⟩, ⟨[], [], .pk (.e 26) (.c (.b true)) (.e 29)⟩] [some 0, none, some 2, some 3, none, some 5, none, none, none, none, none, none, none, none, none, some 30, none, none, none, none, none])
 (.cond 15 ((.seq (.reg [⟨[], [], .cs .v (.b false)⟩] [none, some 21, none, none, none, none, none, none, none, none, none, none, none, none, none, none, none, none, none, none, none])
  (.ret))) (.skip))))
 ((.seq (.reg [⟨[], [], .cs .v (.n 1)⟩] [some 0, none, some 2, some 3, none, some 5, none, none, some 21, none, none, none, none, none, none, none, none, none, none, none, none])
 ((.seq (.reg [⟨[], [], .wl 7 (.e 5)⟩, ⟨[], [], .nop⟩, ⟨[], [], .sw 5⟩, ⟨[], [], .ca 122 [(.e 22), (.e 8)] 2⟩, ⟨[], [], .cy (.e 25)⟩, ⟨[], [], .nop⟩] [some 0, none, some 2, some 3, none, some 26, none, none, some 24, none, none, none, none, none, none, none, none, none, none, none, none])
 ((.seq (.reg [⟨[], [], .cs .v (.n 1)⟩] [some 0, none, some 2, some 3, none, some 5, none, none, some 8, some 21, none, none, none, none, none, none, none, none, none, none, none])
 ((.seq (.reg [⟨[], [], .wl 7 (.e 5)⟩, ⟨[], [], .nop⟩, ⟨[], [], .ca 123 [(.e 21), (.e 9)] 1⟩, ⟨[], [], .nop⟩] [some 0, none, some 2, some 3, none, some 5, none, none, some 8, some 22, none, none, none, none, none, none, none, none, none, none, none])
 ((.seq ((.seq (.reg [⟨[], [], .nop⟩, ⟨[], [], .bi .lss (.e 9) (.c (.n 0))⟩] [some 0, none, some 2, some 3, none, some 5, none, none, some 8, some 9, none, none, none, none, none, none, some 21, none, none, none, none])
 (.cond 16 ((.seq (.reg [⟨[], [], .cs .v (.b false)⟩] [none, some 21, none, none, none, none, none, none, none, none, none, none, none, none, none, none, none, none, none, none, none])
  (.ret))) (.skip))))
 ((.seq ((.seq (.reg [⟨[], [], .nop⟩, ⟨[], [], .nop⟩, ⟨[], [], .bi .neq (.e 9) (.e 8)⟩] [some 0, none, some 2, some 3, none, some 5, none, none, some 8, none, none, none, none, none, none, none, none, some 21, none, none, none])
 (.cond 17 ((.seq (.reg [⟨[], [], .cs .v (.b false)⟩] [none, some 21, none, none, none, none, none, none, none, none, none, none, none, none, none, none, none, none, none, none, none])
  (.ret))) (.skip))))
 ((.seq (.reg [⟨[], [], .nop⟩, ⟨[], [], .ca 42 [(.e 0)] 1⟩, ⟨[], [], .ca 121 [(.e 21)] 2⟩, ⟨[], [], .nop⟩, ⟨[], [], .nop⟩, ⟨[], [], .nop⟩, ⟨[], [], .cs (.b (.o (.o (.o .v)))) (.g [(.n 0), (.s []), (.s []), (.l []), (.l []), (.l []), (.l [])])⟩, ⟨[], [], .ws 24 7 (.e 22)⟩, ⟨[], [], .nop⟩] [none, none, some 2, some 3, none, some 5, none, none, some 8, none, some 25, some 23, none, none, none, none, none, none, none, none, none])
 ((.seq ((.seq (.reg [⟨[], [], .wl 7 (.e 10)⟩, ⟨[], [], .wl 7 (.e 2)⟩, ⟨[], [], .ca 119 [(.e 21), (.e 22)] 1⟩, ⟨[], [], .un .not (.e 23)⟩, ⟨[], [], .nop⟩, ⟨[], [(24, false)], .cy (.e 11)⟩, ⟨[], [(24, false)], .cy (.e 3)⟩, ⟨[], [(24, false)], .bb .neq (.e 25) (.e 26)⟩, ⟨[], [], .pk (.e 24) (.c (.b true)) (.e 27)⟩] [none, none, none, none, none, some 5, none, none, some 8, none, none, none, none, none, none, none, none, none, some 28, none, none])
 (.cond 18 ((.seq (.reg [⟨[], [], .cs .v (.b false)⟩] [none, some 21, none, none, none, none, none, none, none, none, none, none, none, none, none, none, none, none, none, none, none])
  (.ret))) (.skip))))
 ((.seq (.reg [⟨[], [], .cs .v (.n 1)⟩] [none, none, none, none, none, some 5, none, none, some 8, some 21, none, none, none, none, none, none, none, none, none, none, none])
 ((.seq (.reg [⟨[], [], .wl 7 (.e 5)⟩, ⟨[], [], .nop⟩, ⟨[], [], .ca 123 [(.e 21), (.e 9)] 1⟩, ⟨[], [], .nop⟩] [none, none, none, none, none, none, none, none, some 8, some 22, none, none, none, none, none, none, none, none, none, none, none])
 ((.seq ((.seq (.reg [⟨[], [], .nop⟩, ⟨[], [], .bi .lss (.e 9) (.c (.n 0))⟩] [none, none, none, none, none, none, none, none, some 8, some 9, none, none, none, none, none, none, none, none, none, some 21, none])
 (.cond 19 ((.seq (.reg [⟨[], [], .cs .v (.b false)⟩] [none, some 21, none, none, none, none, none, none, none, none, none, none, none, none, none, none, none, none, none, none, none])
  (.ret))) (.skip))))
 ((.seq ((.seq (.reg [⟨[], [], .nop⟩, ⟨[], [], .nop⟩, ⟨[], [], .bi .neq (.e 9) (.e 8)⟩] [none, none, none, none, none, none, none, none, none, none, none, none, none, none, none, none, none, none, none, none, some 21])
 (.cond 20 ((.seq (.reg [⟨[], [], .cs .v (.b false)⟩] [none, some 21, none, none, none, none, none, none, none, none, none, none, none, none, none, none, none, none, none, none, none])
  (.ret))) (.skip))))
 ((.seq (.reg [⟨[], [], .cs .v (.b true)⟩] [none, some 21, none, none, none, none, none, none, none, none, none, none, none, none, none, none, none, none, none, none, none])
 (.ret))))))))))))))))))))))))))))))))))))))))))))))⟩

end Go.Cat

namespace Go.Cat
/-- loop.example/g03401/spec.FormatInt -/
def ir_spec_FormatInt : IF := ⟨[], 1, 9, [1],
 (.seq (.reg [⟨[], [], .cs .v (.s [])⟩] [some 0, none, none, none, none, none, none, none, none])
 ((.seq ((.seq (.reg [⟨[], [], .nop⟩, ⟨[], [], .bi .eql (.e 0) (.c (.n 0))⟩] [some 0, none, none, none, none, some 9, none, none, none])
 (.cond 5 ((.seq (.reg [⟨[], [], .cs .v (.s [48])⟩] [none, some 9, none, none, none, none, none, none, none])
  (.ret))) (.skip))))
 ((.seq (.reg [⟨[], [], .cs .v (.s [])⟩] [some 0, none, some 9, none, none, none, none, none, none])
 ((.seq (.reg [⟨[], [], .nop⟩, ⟨[], [], .bi .lss (.e 0) (.c (.n 0))⟩, ⟨[], [], .nop⟩] [some 0, none, some 2, some 9, none, none, none, none, none])
 ((.seq (.block 0 (.loop ((.seq ((.seq (.reg [⟨[], [], .nop⟩, ⟨[], [], .bi .neq (.e 0) (.c (.n 0))⟩] [some 0, none, some 2, some 3, none, none, some 9, none, none])
   (.cond 6 (.skip) (.exit 0))))
   (.block 1 ((.seq (.reg [⟨[], [], .nop⟩, ⟨[], [], .bi .rem (.e 0) (.c (.n 10))⟩, ⟨[], [], .nop⟩] [some 0, none, some 2, some 3, some 9, none, none, none, none])
    ((.seq ((.seq (.reg [⟨[], [], .nop⟩, ⟨[], [], .bi .lss (.e 4) (.c (.n 0))⟩] [some 0, none, some 2, some 3, some 4, none, none, some 9, none])
    (.cond 7 (.reg [⟨[], [], .nop⟩, ⟨[], [], .un .neg (.e 4)⟩, ⟨[], [], .nop⟩] [some 0, none, some 2, some 3, some 9, none, none, none, none]) (.skip))))
    ((.seq (.reg [⟨[], [], .nop⟩, ⟨[], [], .bi .add (.c (.n 48)) (.e 4)⟩, ⟨[], [], .cv .u8 (.e 9)⟩, ⟨[], [], .li (.o .v) [(.e 10)]⟩, ⟨[], [], .bs (.e 11)⟩, ⟨[], [], .nop⟩, ⟨[], [], .bi .add (.e 12) (.e 2)⟩, ⟨[], [], .nop⟩] [some 0, none, some 13, some 3, none, none, none, none, none])
    (.reg [⟨[], [], .nop⟩, ⟨[], [], .bi .quo (.e 0) (.c (.n 10))⟩, ⟨[], [], .nop⟩] [some 9, none, some 2, some 3, none, none, none, none, none]))))))))))))
 ((.seq ((.seq (.reg [⟨[], [], .nop⟩] [none, none, some 2, none, none, none, none, none, some 3])
 (.cond 8 ((.seq (.reg [⟨[], [], .nop⟩, ⟨[], [], .bi .add (.c (.s [45])) (.e 2)⟩, ⟨[], [], .nop⟩] [none, some 9, none, none, none, none, none, none, none])
  (.ret))) (.skip))))
 ((.seq (.reg [⟨[], [], .nop⟩, ⟨[], [], .nop⟩] [none, some 2, none, none, none, none, none, none, none])
 (.ret))))))))))))))⟩

/-- loop.example/g03401/spec.l1Below -/
def ir_spec_l1Below : IF := ⟨[], 2, 9, [2, 0],
 (.seq (.reg [⟨[], [], .cs .v (.n 0)⟩] [some 0, some 1, none, none, none, none, none, none, none])
 ((.seq ((.seq (.reg [⟨[], [], .nop⟩, ⟨[], [], .bi .leq (.e 1) (.c (.n 0))⟩] [some 0, some 1, none, none, none, none, none, some 9, none])
 (.cond 7 ((.seq (.reg [⟨[], [], .cs .v (.n 0)⟩] [some 0, none, some 9, none, none, none, none, none, none])
  (.ret))) (.skip))))
 ((.seq ((.seq (.reg [⟨[], [], .nop⟩, ⟨[], [], .bi .leq (.e 1) (.c (.n 256))⟩] [some 0, some 1, none, none, none, none, none, none, some 9])
 (.cond 8 ((.seq (.reg [⟨[], [], .nop⟩, ⟨[], [], .ca 316 [(.e 0)] 2⟩, ⟨[], [], .nop⟩, ⟨[], [], .bi .rem (.e 9) (.e 1)⟩, ⟨[], [], .nop⟩] [some 10, none, some 11, none, none, none, none, none, none])
  (.ret))) (.skip))))
 ((.seq (.reg [⟨[], [], .nop⟩, ⟨[], [], .ca 316 [(.e 0)] 2⟩, ⟨[], [], .nop⟩] [some 10, some 1, none, some 9, none, none, none, none, none])
 ((.seq (.reg [⟨[], [], .nop⟩, ⟨[], [], .ca 316 [(.e 0)] 2⟩, ⟨[], [], .nop⟩] [some 10, some 1, none, some 3, some 9, none, none, none, none])
 ((.seq (.reg [⟨[], [], .nop⟩, ⟨[], [], .ca 316 [(.e 0)] 2⟩, ⟨[], [], .nop⟩] [some 10, some 1, none, some 3, some 4, some 9, none, none, none])
 ((.seq (.reg [⟨[], [], .nop⟩, ⟨[], [], .ca 316 [(.e 0)] 2⟩, ⟨[], [], .nop⟩] [some 10, some 1, none, some 3, some 4, some 5, some 9, none, none])
 ((.seq (.reg [⟨[], [], .nop⟩, ⟨[], [], .bi .mul (.e 3) (.c (.n 16777216))⟩, ⟨[], [], .nop⟩, ⟨[], [], .bi .mul (.e 4) (.c (.n 65536))⟩, ⟨[], [], .bi .add (.e 9) (.e 10)⟩, ⟨[], [], .nop⟩, ⟨[], [], .bi .mul (.e 5) (.c (.n 256))⟩, ⟨[], [], .bi .add (.e 11) (.e 12)⟩, ⟨[], [], .nop⟩, ⟨[], [], .bi .add (.e 13) (.e 6)⟩, ⟨[], [], .nop⟩, ⟨[], [], .bi .rem (.e 14) (.e 1)⟩, ⟨[], [], .nop⟩] [some 0, none, some 15, none, none, none, none, none, none])
 (.ret))))))))))))))))⟩

/-- loop.example/g03401/spec.l1Byte -/
def ir_spec_l1Byte : IF := ⟨[], 1, 4, [1, 0],
 (.seq (.reg [⟨[], [], .cs .v (.n 0)⟩] [some 0, none, none, none])
 ((.seq (.reg [⟨[], [], .nop⟩, ⟨[], [], .nop⟩, ⟨[], [], .nop⟩, ⟨[], [], .gt (.e 0) [.k 2]⟩, ⟨[], [], .nop⟩, ⟨[], [], .bi .mul (.e 4) (.c (.n 6364136223846793005))⟩, ⟨[], [], .bi .add (.e 5) (.c (.n 1442695040888963407))⟩, ⟨[], [], .nop⟩, ⟨[], [], .gt (.e 0) [.k 2]⟩, ⟨[], [], .up 0 [.k 2] (.e 6)⟩] [some 8, none, none, none])
 ((.seq (.reg [⟨[], [], .nop⟩, ⟨[], [], .nop⟩, ⟨[], [], .gt (.e 0) [.k 2]⟩, ⟨[], [], .nop⟩, ⟨[], [], .bi .shr (.e 4) (.c (.i .u64 (33)))⟩, ⟨[], [], .nop⟩, ⟨[], [], .nop⟩, ⟨[], [], .gt (.e 0) [.k 2]⟩, ⟨[], [], .nop⟩, ⟨[], [], .bi .shr (.e 6) (.c (.i .u64 (45)))⟩, ⟨[], [], .bi .xor (.e 5) (.e 7)⟩, ⟨[], [], .bi .and (.e 8) (.c (.n 255))⟩, ⟨[], [], .nop⟩] [some 0, none, some 9, none])
 ((.seq ((.seq (.reg [⟨[], [], .nop⟩, ⟨[], [], .nop⟩, ⟨[], [], .gt (.e 0) [.k 1]⟩, ⟨[], [], .nop⟩, ⟨[], [], .nop⟩, ⟨[], [], .nop⟩, ⟨[], [], .gt (.e 0) [.k 0]⟩, ⟨[], [], .nop⟩, ⟨[], [], .ln (.e 5) []⟩, ⟨[], [], .bi .lss (.e 4) (.e 6)⟩] [some 0, none, some 2, some 7])
 (.cond 3 ((.seq (.reg [⟨[], [], .nop⟩, ⟨[], [], .nop⟩, ⟨[], [], .nop⟩, ⟨[], [], .gt (.e 0) [.k 0]⟩, ⟨[], [], .nop⟩, ⟨[], [], .nop⟩, ⟨[], [], .nop⟩, ⟨[], [], .gt (.e 0) [.k 1]⟩, ⟨[], [], .nop⟩, ⟨[], [], .ix (.e 4) [] (.e 5)⟩, ⟨[], [], .nop⟩, ⟨[], [], .cv .i64 (.e 6)⟩, ⟨[], [], .bi .add (.e 2) (.e 7)⟩, ⟨[], [], .bi .and (.e 8) (.c (.n 255))⟩, ⟨[], [], .nop⟩] [some 0, none, some 9, none])
  (.reg [⟨[], [], .nop⟩, ⟨[], [], .nop⟩, ⟨[], [], .nop⟩, ⟨[], [], .gt (.e 0) [.k 1]⟩, ⟨[], [], .nop⟩, ⟨[], [], .bi .add (.e 4) (.c (.n 1))⟩, ⟨[], [], .nop⟩, ⟨[], [], .gt (.e 0) [.k 1]⟩, ⟨[], [], .up 0 [.k 1] (.e 5)⟩] [some 7, none, some 2, none]))) (.skip))))
 ((.seq (.reg [⟨[], [], .nop⟩, ⟨[], [], .nop⟩] [some 0, some 2, none, none])
 (.ret))))))))))⟩

/-- loop.example/g03401/spec.l1In -/
def ir_spec_l1In : IF := ⟨[], 3, 4, [3],
 (.seq (.reg [⟨[], [], .cs .v (.b false)⟩] [some 0, some 1, some 2, none])
 ((.seq (.reg [⟨[], [], .nop⟩, ⟨[], [], .nop⟩, ⟨[], [], .bi .geq (.e 0) (.e 1)⟩, ⟨[], [], .nop⟩, ⟨[], [(4, true)], .cy (.e 0)⟩, ⟨[], [(4, true)], .cy (.e 2)⟩, ⟨[], [(4, true)], .bi .leq (.e 5) (.e 6)⟩, ⟨[], [], .pk (.e 4) (.e 7) (.c (.b false))⟩, ⟨[], [], .nop⟩] [none, none, none, some 8])
 (.ret))))⟩

/-- loop.example/g03401/spec.l1New -/
def ir_spec_l1New : IF := ⟨[], 1, 5, [1],
 (.seq (.reg [⟨[], [], .cs .v .z⟩] [some 0, none, none, none, none])
 ((.seq (.reg [⟨[], [], .nop⟩, ⟨[], [], .ln (.e 0) []⟩, ⟨[], [], .bi .add (.c (.n 10101)) (.e 5)⟩, ⟨[], [], .nop⟩] [some 0, none, some 6, none, none])
 ((.seq ((.seq (.reg [⟨[], [], .cs .v (.n 0)⟩] [some 0, none, some 2, some 5, none])
 (.block 0 (.loop ((.seq ((.seq (.reg [⟨[], [], .nop⟩, ⟨[], [], .nop⟩, ⟨[], [], .ln (.e 0) []⟩, ⟨[], [], .bi .lss (.e 3) (.e 5)⟩, ⟨[], [], .nop⟩, ⟨[], [(6, true)], .cy (.e 3)⟩, ⟨[], [(6, true)], .bi .lss (.e 7) (.c (.n 4000))⟩, ⟨[], [], .pk (.e 6) (.e 8) (.c (.b false))⟩] [some 0, none, some 2, some 3, some 9])
   (.cond 4 (.skip) (.exit 0))))
   ((.seq (.block 1 (.reg [⟨[], [], .nop⟩, ⟨[], [], .bi .mul (.e 2) (.c (.n 131))⟩, ⟨[], [], .nop⟩, ⟨[], [], .nop⟩, ⟨[], [], .ix (.e 0) [] (.e 3)⟩, ⟨[], [], .nop⟩, ⟨[], [], .cv .i64 (.e 6)⟩, ⟨[], [], .bi .add (.e 5) (.e 7)⟩, ⟨[], [], .bi .add (.e 8) (.c (.n 7))⟩, ⟨[], [], .bi .and (.e 9) (.c (.n 1073741823))⟩, ⟨[], [], .nop⟩] [some 0, none, some 10, some 3, none]))
   (.reg [⟨[], [], .nop⟩, ⟨[], [], .bi .add (.e 3) (.c (.n 1))⟩, ⟨[], [], .nop⟩] [some 0, none, some 2, some 5, none])))))))))
 ((.seq (.reg [⟨[], [], .nop⟩, ⟨[], [], .nop⟩, ⟨[], [], .bg 0 [((.e 0), 0), ((.c (.n 0)), 0), ((.e 2), 0)]⟩, ⟨[], [], .wl 3 (.e 5)⟩, ⟨[], [], .nop⟩] [none, some 6, none, none, none])
 (.ret))))))))⟩

/-- loop.example/g03401/spec.l1Once -/
def ir_spec_l1Once : IF := ⟨[], 2, 3, [2, 0],
 (.seq (.reg [⟨[], [], .cs .v (.b false)⟩] [some 0, some 1, none])
 ((.seq (.reg [⟨[], [], .nop⟩, ⟨[], [], .nop⟩, ⟨[], [], .ca 289 [(.e 0), (.e 1)] 2⟩, ⟨[], [], .bi .eql (.e 3) (.c (.n 0))⟩, ⟨[], [], .nop⟩] [some 4, none, some 5])
 (.ret))))⟩

/-- loop.example/g03401/spec.l1Pick -/
def ir_spec_l1Pick : IF := ⟨[], 2, 3, [2, 0],
 (.seq (.reg [⟨[], [], .cs .v (.s [])⟩] [some 0, some 1, none])
 ((.seq (.reg [⟨[], [], .nop⟩, ⟨[], [], .nop⟩, ⟨[], [], .nop⟩, ⟨[], [], .ln (.e 1) []⟩, ⟨[], [], .ca 289 [(.e 0), (.e 3)] 2⟩, ⟨[], [], .iy (.e 1) (.e 4)⟩, ⟨[], [], .nop⟩, ⟨[], [], .nop⟩] [some 5, none, some 6])
 (.ret))))⟩

/-- loop.example/g03401/spec.l1PickInt -/
def ir_spec_l1PickInt : IF := ⟨[], 2, 3, [2, 0],
 (.seq (.reg [⟨[], [], .cs .v (.n 0)⟩] [some 0, some 1, none])
 ((.seq (.reg [⟨[], [], .nop⟩, ⟨[], [], .nop⟩, ⟨[], [], .nop⟩, ⟨[], [], .ln (.e 1) []⟩, ⟨[], [], .ca 289 [(.e 0), (.e 3)] 2⟩, ⟨[], [], .iy (.e 1) (.e 4)⟩, ⟨[], [], .nop⟩, ⟨[], [], .nop⟩] [some 5, none, some 6])
 (.ret))))⟩

/-- loop.example/g03401/spec.l1Spoil -/
def ir_spec_l1Spoil : IF := ⟨[], 2, 9, [2, 0],
 (.seq (.reg [⟨[], [], .cs .v (.s [])⟩] [some 0, some 1, none, none, none, none, none, none, none])
 ((.seq ((.seq (.reg [⟨[], [], .nop⟩, ⟨[], [], .sn (.e 1)⟩, ⟨[], [], .bi .eql (.e 9) (.c (.n 0))⟩] [some 0, some 1, none, none, some 10, none, none, none, none])
 (.cond 4 ((.seq (.reg [⟨[], [], .nop⟩, ⟨[], [], .ca 327 [(.e 0), (.c (.n 3))] 2⟩, ⟨[], [], .nop⟩] [some 10, none, some 9, none, none, none, none, none, none])
  (.ret))) (.skip))))
 ((.seq (.reg [⟨[], [], .nop⟩, ⟨[], [], .nop⟩, ⟨[], [], .sn (.e 1)⟩, ⟨[], [], .ca 289 [(.e 0), (.e 9)] 2⟩, ⟨[], [], .nop⟩] [some 11, some 1, none, some 10, none, none, none, none, none])
 ((.seq ((.seq (.reg [⟨[], [], .nop⟩, ⟨[], [], .ca 289 [(.e 0), (.c (.n 4))] 2⟩] [some 10, some 1, none, some 3, none, some 9, none, none, none])
 (.block 0 ((.seq (.reg [⟨[], [], .bi .eql (.e 5) (.c (.n 0))⟩, ⟨[], [], .nop⟩] [some 0, some 1, none, some 3, none, some 5, some 9, none, none])
  (.cond 6 ((.seq (.reg [⟨[], [], .nop⟩, ⟨[], [], .nop⟩, ⟨[], [], .ss (.e 1) none (some (.e 3))⟩, ⟨[], [], .nop⟩, ⟨[], [], .nop⟩, ⟨[], [], .bi .add (.e 3) (.c (.n 1))⟩, ⟨[], [], .ss (.e 1) (some (.e 10)) none⟩, ⟨[], [], .bi .add (.e 9) (.e 11)⟩, ⟨[], [], .nop⟩] [some 0, none, some 12, none, none, none, none, none, none])
   (.ret))) ((.seq (.reg [⟨[], [], .bi .eql (.e 5) (.c (.n 1))⟩, ⟨[], [], .nop⟩] [some 0, some 1, none, some 3, none, some 5, none, some 9, none])
   (.cond 7 ((.seq (.reg [⟨[], [], .nop⟩, ⟨[], [], .nop⟩, ⟨[], [], .ss (.e 1) none (some (.e 3))⟩, ⟨[], [], .nop⟩, ⟨[], [], .ca 316 [(.e 0)] 2⟩, ⟨[], [], .cv .u8 (.e 10)⟩, ⟨[], [], .li (.o .v) [(.e 12)]⟩, ⟨[], [], .bs (.e 13)⟩, ⟨[], [], .bi .add (.e 9) (.e 14)⟩, ⟨[], [], .nop⟩, ⟨[], [], .nop⟩, ⟨[], [], .ss (.e 1) (some (.e 3)) none⟩, ⟨[], [], .bi .add (.e 15) (.e 16)⟩, ⟨[], [], .nop⟩] [some 11, none, some 17, none, none, none, none, none, none])
    (.ret))) ((.seq (.reg [⟨[], [], .bi .eql (.e 5) (.c (.n 2))⟩, ⟨[], [], .nop⟩] [some 0, some 1, none, some 3, none, none, none, none, some 9])
    (.cond 8 ((.seq (.reg [⟨[], [], .nop⟩, ⟨[], [], .nop⟩, ⟨[], [], .ss (.e 1) none (some (.e 3))⟩, ⟨[], [], .nop⟩] [some 0, none, some 9, none, none, none, none, none, none])
     (.ret))) (.skip)))))))))))))
 ((.seq (.reg [⟨[], [], .nop⟩, ⟨[], [], .nop⟩, ⟨[], [], .ss (.e 1) none (some (.e 3))⟩, ⟨[], [], .nop⟩, ⟨[], [], .nop⟩, ⟨[], [], .sx (.e 1) (.e 3)⟩, ⟨[], [], .cv .i64 (.e 10)⟩, ⟨[], [], .nop⟩, ⟨[], [], .ca 289 [(.e 0), (.c (.n 255))] 2⟩, ⟨[], [], .bi .add (.c (.n 1)) (.e 12)⟩, ⟨[], [], .bi .xor (.e 11) (.e 14)⟩, ⟨[], [], .cv .u8 (.e 15)⟩, ⟨[], [], .li (.o .v) [(.e 16)]⟩, ⟨[], [], .bs (.e 17)⟩, ⟨[], [], .bi .add (.e 9) (.e 18)⟩, ⟨[], [], .nop⟩, ⟨[], [], .nop⟩, ⟨[], [], .bi .add (.e 3) (.c (.n 1))⟩, ⟨[], [], .ss (.e 1) (some (.e 20)) none⟩, ⟨[], [], .bi .add (.e 19) (.e 21)⟩, ⟨[], [], .nop⟩] [some 13, none, some 22, none, none, none, none, none, none])
 (.ret))))))))))⟩

/-- loop.example/g03401/spec.l1Text -/
def ir_spec_l1Text : IF := ⟨[], 2, 10, [2, 0],
 (.seq (.reg [⟨[], [], .cs .v (.s [])⟩] [some 0, some 1, none, none, none, none, none, none, none, none])
 ((.seq (.reg [⟨[], [], .li (.o .v) []⟩, ⟨[], [], .nop⟩] [some 0, some 1, none, some 10, none, none, none, none, none, none])
 ((.seq (.reg [⟨[], [], .nop⟩, ⟨[], [], .ca 289 [(.e 0), (.c (.n 4))] 2⟩, ⟨[], [], .nop⟩] [some 11, some 1, none, some 3, some 10, none, none, none, none, none])
 ((.seq ((.seq (.reg [⟨[], [], .nop⟩, ⟨[], [], .nop⟩, ⟨[], [], .bi .add (.e 1) (.c (.n 1))⟩, ⟨[], [], .ca 289 [(.e 0), (.e 10)] 2⟩, ⟨[], [], .nop⟩] [some 12, none, none, some 3, some 4, some 11, none, none, none, none])
 (.block 0 (.loop ((.seq ((.seq (.reg [⟨[], [], .nop⟩, ⟨[], [], .bi .gtr (.e 5) (.c (.n 0))⟩] [some 0, none, none, some 3, some 4, some 5, none, some 10, none, none])
   (.cond 7 (.skip) (.exit 0))))
   ((.seq (.block 1 ((.seq (.reg [⟨[], [], .nop⟩, ⟨[], [], .ca 316 [(.e 0)] 2⟩, ⟨[], [], .nop⟩] [some 11, none, none, some 3, some 4, some 5, some 10, none, none, none])
    ((.seq ((.seq (.reg [⟨[], [], .nop⟩, ⟨[], [], .bi .eql (.e 4) (.c (.n 1))⟩] [some 0, none, none, some 3, some 4, some 5, some 6, none, some 10, none])
    (.cond 8 (.reg [⟨[], [], .nop⟩, ⟨[], [], .bi .rem (.e 6) (.c (.n 2))⟩, ⟨[], [], .nop⟩] [some 0, none, none, some 3, some 4, some 5, some 10, none, none, none]) (.skip))))
    ((.seq ((.seq (.reg [⟨[], [], .nop⟩, ⟨[], [], .bi .eql (.e 4) (.c (.n 2))⟩] [some 0, none, none, some 3, some 4, some 5, some 6, none, none, some 10])
    (.cond 9 (.reg [⟨[], [], .nop⟩, ⟨[], [], .bi .rem (.e 6) (.c (.n 4))⟩, ⟨[], [], .bi .add (.c (.n 97)) (.e 10)⟩, ⟨[], [], .nop⟩] [some 0, none, none, some 3, some 4, some 5, some 11, none, none, none]) (.skip))))
    (.reg [⟨[], [], .nop⟩, ⟨[], [], .nop⟩, ⟨[], [], .cv .u8 (.e 6)⟩, ⟨[], [], .li (.o .v) [(.e 10)]⟩, ⟨[], [], .ap false (.e 3) (.e 11)⟩, ⟨[], [], .nop⟩] [some 0, none, none, some 12, some 4, some 5, none, none, none, none]))))))))
   (.reg [⟨[], [], .nop⟩, ⟨[], [], .bi .sub (.e 5) (.c (.n 1))⟩, ⟨[], [], .nop⟩] [some 0, none, none, some 3, some 4, some 10, none, none, none, none])))))))))
 ((.seq (.reg [⟨[], [], .nop⟩, ⟨[], [], .bs (.e 3)⟩, ⟨[], [], .nop⟩] [some 0, none, some 10, none, none, none, none, none, none, none])
 (.ret))))))))))⟩

end Go.Cat

namespace Go.Cat
/-- loop.example/g03401/spec.Contains231 -/
def ir_spec_Contains231 : IF := ⟨[], 1, 9, [1],
 (.seq (.reg [⟨[], [], .cs .v (.b false)⟩] [some 0, none, none, none, none, none, none, none, none])
 ((.seq ((.seq (.reg [⟨[], [], .cs .v (.n 0)⟩] [some 0, none, some 9, none, none, none, none, none, none])
 (.block 0 (.loop ((.seq ((.seq (.reg [⟨[], [], .nop⟩, ⟨[], [], .nop⟩, ⟨[], [], .ln (.e 0) []⟩, ⟨[], [], .bi .lss (.e 2) (.e 9)⟩, ⟨[], [], .nop⟩, ⟨[], [(10, true)], .nop⟩, ⟨[], [(10, true)], .ca 73 [(.e 0)] 1⟩, ⟨[], [], .pk (.e 10) (.e 11) (.c (.b false))⟩] [some 0, none, some 2, none, none, some 12, none, none, none])
   (.cond 5 (.skip) (.exit 0))))
   ((.seq (.block 1 ((.seq (.reg [⟨[], [], .nop⟩, ⟨[], [], .bi .add (.e 2) (.c (.n 1))⟩, ⟨[], [], .nop⟩] [some 0, none, some 2, some 9, none, none, none, none, none])
    (.block 2 (.loop ((.seq ((.seq (.reg [⟨[], [], .nop⟩, ⟨[], [], .nop⟩, ⟨[], [], .ln (.e 0) []⟩, ⟨[], [], .bi .lss (.e 3) (.e 9)⟩] [some 0, none, some 2, some 3, none, none, some 10, none, none])
      (.cond 6 (.skip) (.exit 2))))
      ((.seq (.block 3 ((.seq (.reg [⟨[], [], .nop⟩, ⟨[], [], .bi .add (.e 3) (.c (.n 1))⟩, ⟨[], [], .nop⟩] [some 0, none, some 2, some 3, some 9, none, none, none, none])
       (.block 4 (.loop ((.seq ((.seq (.reg [⟨[], [], .nop⟩, ⟨[], [], .nop⟩, ⟨[], [], .ln (.e 0) []⟩, ⟨[], [], .bi .lss (.e 4) (.e 9)⟩] [some 0, none, some 2, some 3, some 4, none, none, some 10, none])
         (.cond 7 (.skip) (.exit 4))))
         ((.seq (.block 5 ((.seq (.reg [⟨[], [], .nop⟩, ⟨[], [], .nop⟩, ⟨[], [], .iy (.e 0) (.e 4)⟩, ⟨[], [], .nop⟩, ⟨[], [], .nop⟩, ⟨[], [], .nop⟩, ⟨[], [], .iy (.e 0) (.e 2)⟩, ⟨[], [], .nop⟩, ⟨[], [], .bi .lss (.e 9) (.e 10)⟩, ⟨[], [], .nop⟩, ⟨[], [(11, true)], .nop⟩, ⟨[], [(11, true)], .cy (.e 2)⟩, ⟨[], [(11, true)], .iy (.e 0) (.e 12)⟩, ⟨[], [(11, true)], .nop⟩, ⟨[], [(11, true)], .nop⟩, ⟨[], [(11, true)], .cy (.e 3)⟩, ⟨[], [(11, true)], .iy (.e 0) (.e 14)⟩, ⟨[], [(11, true)], .nop⟩, ⟨[], [(11, true)], .bi .lss (.e 13) (.e 15)⟩, ⟨[], [], .pk (.e 11) (.e 16) (.c (.b false))⟩] [some 0, none, some 2, some 3, some 4, none, none, none, some 17])
          (.cond 8 ((.seq (.reg [⟨[], [], .cs .v (.b true)⟩] [none, some 9, none, none, none, none, none, none, none])
           (.ret))) (.skip)))))
         (.reg [⟨[], [], .nop⟩, ⟨[], [], .bi .add (.e 4) (.c (.n 1))⟩, ⟨[], [], .nop⟩] [some 0, none, some 2, some 3, some 9, none, none, none, none]))))))))))
      (.reg [⟨[], [], .nop⟩, ⟨[], [], .bi .add (.e 3) (.c (.n 1))⟩, ⟨[], [], .nop⟩] [some 0, none, some 2, some 9, none, none, none, none, none]))))))))))
   (.reg [⟨[], [], .nop⟩, ⟨[], [], .bi .add (.e 2) (.c (.n 1))⟩, ⟨[], [], .nop⟩] [some 0, none, some 9, none, none, none, none, none, none])))))))))
 ((.seq (.reg [⟨[], [], .cs .v (.b false)⟩] [none, some 9, none, none, none, none, none, none, none])
 (.ret))))))⟩

/-- loop.example/g03401/spec.IsPermutation -/
def ir_spec_IsPermutation : IF := ⟨[], 1, 8, [1],
 (.seq (.reg [⟨[], [], .cs .v (.b false)⟩] [some 0, none, none, none, none, none, none, none])
 ((.seq ((.seq (.reg [⟨[], [], .cs .v (.n 0)⟩] [some 0, none, some 8, none, none, none, none, none])
 (.block 0 (.loop ((.seq ((.seq (.reg [⟨[], [], .nop⟩, ⟨[], [], .nop⟩, ⟨[], [], .ln (.e 0) []⟩, ⟨[], [], .bi .lss (.e 2) (.e 8)⟩] [some 0, none, some 2, none, some 9, none, none, none])
   (.cond 4 (.skip) (.exit 0))))
   ((.seq (.block 1 ((.seq ((.seq (.reg [⟨[], [], .nop⟩, ⟨[], [], .nop⟩, ⟨[], [], .iy (.e 0) (.e 2)⟩, ⟨[], [], .nop⟩, ⟨[], [], .nop⟩, ⟨[], [], .ln (.e 0) []⟩, ⟨[], [], .bi .sub (.e 9) (.c (.n 1))⟩, ⟨[], [], .ca 22 [(.e 8), (.c (.n 0)), (.e 10)] 1⟩, ⟨[], [], .un .not (.e 11)⟩] [some 0, none, some 2, none, none, some 12, none, none])
    (.cond 5 ((.seq (.reg [⟨[], [], .cs .v (.b false)⟩] [none, some 8, none, none, none, none, none, none])
     (.ret))) (.skip))))
    ((.seq (.reg [⟨[], [], .cs .v (.n 0)⟩] [some 0, none, some 2, some 8, none, none, none, none])
    (.block 2 (.loop ((.seq ((.seq (.reg [⟨[], [], .nop⟩, ⟨[], [], .nop⟩, ⟨[], [], .bi .lss (.e 3) (.e 2)⟩] [some 0, none, some 2, some 3, none, none, some 8, none])
      (.cond 6 (.skip) (.exit 2))))
      ((.seq (.block 3 ((.seq (.reg [⟨[], [], .nop⟩, ⟨[], [], .nop⟩, ⟨[], [], .iy (.e 0) (.e 3)⟩, ⟨[], [], .nop⟩, ⟨[], [], .nop⟩, ⟨[], [], .nop⟩, ⟨[], [], .iy (.e 0) (.e 2)⟩, ⟨[], [], .nop⟩, ⟨[], [], .bi .eql (.e 8) (.e 9)⟩] [some 0, none, some 2, some 3, none, none, none, some 10])
       (.cond 7 ((.seq (.reg [⟨[], [], .cs .v (.b false)⟩] [none, some 8, none, none, none, none, none, none])
        (.ret))) (.skip)))))
      (.reg [⟨[], [], .nop⟩, ⟨[], [], .bi .add (.e 3) (.c (.n 1))⟩, ⟨[], [], .nop⟩] [some 0, none, some 2, some 8, none, none, none, none]))))))))))))
   (.reg [⟨[], [], .nop⟩, ⟨[], [], .bi .add (.e 2) (.c (.n 1))⟩, ⟨[], [], .nop⟩] [some 0, none, some 8, none, none, none, none, none])))))))))
 ((.seq (.reg [⟨[], [], .nop⟩, ⟨[], [], .ln (.e 0) []⟩, ⟨[], [], .bi .leq (.e 8) (.c (.n 8))⟩, ⟨[], [], .nop⟩] [none, some 9, none, none, none, none, none, none])
 (.ret))))))⟩

/-- loop.example/g03401/spec.PathOfPermutation -/
def ir_spec_PathOfPermutation : IF := ⟨[], 1, 10, [1, 2],
 (.seq (.reg [⟨[], [], .cs .v (.s [])⟩, ⟨[], [], .cs .v (.b false)⟩] [some 0, none, none, none, none, none, none, none, none, none])
 ((.seq ((.seq (.reg [⟨[], [], .nop⟩, ⟨[], [], .ca 73 [(.e 0)] 1⟩, ⟨[], [], .un .not (.e 10)⟩, ⟨[], [], .nop⟩, ⟨[], [(11, false)], .nop⟩, ⟨[], [(11, false)], .ca 186 [(.e 0)] 1⟩, ⟨[], [], .pk (.e 11) (.c (.b true)) (.e 12)⟩] [some 0, none, none, none, none, none, none, some 13, none, none])
 (.cond 7 ((.seq (.reg [⟨[], [], .cs .v (.s [])⟩, ⟨[], [], .cs .v (.b false)⟩] [none, some 10, some 11, none, none, none, none, none, none, none])
  (.ret))) (.skip))))
 ((.seq (.reg [⟨[], [], .cs .v (.s [])⟩] [some 0, none, none, some 10, none, none, none, none, none, none])
 ((.seq (.reg [⟨[], [], .li (.o .v) []⟩, ⟨[], [], .nop⟩] [some 0, none, none, some 3, some 10, none, none, none, none, none])
 ((.seq (.reg [⟨[], [], .cs .v (.n 0)⟩] [some 0, none, none, some 3, some 4, some 10, none, none, none, none])
 ((.seq ((.seq (.reg [⟨[], [], .cs .v (.n 0)⟩] [some 0, none, none, some 3, some 4, some 5, some 10, none, none, none])
 (.block 0 (.loop ((.seq ((.seq (.reg [⟨[], [], .nop⟩, ⟨[], [], .nop⟩, ⟨[], [], .ln (.e 0) []⟩, ⟨[], [], .bi .lss (.e 6) (.e 10)⟩] [some 0, none, none, some 3, some 4, some 5, some 6, none, some 11, none])
   (.cond 8 (.skip) (.exit 0))))
   ((.seq (.block 1 ((.seq (.reg [⟨[], [], .nop⟩, ⟨[], [], .bi .add (.e 3) (.c (.s [117]))⟩, ⟨[], [], .nop⟩] [some 0, none, none, some 10, some 4, some 5, some 6, none, none, none])
    ((.seq (.reg [⟨[], [], .nop⟩, ⟨[], [], .nop⟩, ⟨[], [], .nop⟩, ⟨[], [], .iy (.e 0) (.e 6)⟩, ⟨[], [], .nop⟩, ⟨[], [], .li (.o .v) [(.e 10)]⟩, ⟨[], [], .ap false (.e 4) (.e 11)⟩, ⟨[], [], .nop⟩] [some 0, none, none, some 3, some 12, some 5, some 6, none, none, none])
    (.block 2 (.loop ((.seq ((.seq (.reg [⟨[], [], .nop⟩, ⟨[], [], .ln (.e 4) []⟩, ⟨[], [], .bi .gtr (.e 10) (.c (.n 0))⟩, ⟨[], [], .nop⟩, ⟨[], [(11, true)], .nop⟩, ⟨[], [(11, true)], .nop⟩, ⟨[], [(11, true)], .ln (.e 4) []⟩, ⟨[], [(11, true)], .bi .sub (.e 12) (.c (.n 1))⟩, ⟨[], [(11, true)], .ix (.e 4) [] (.e 13)⟩, ⟨[], [(11, true)], .nop⟩, ⟨[], [(11, true)], .cy (.e 5)⟩, ⟨[], [(11, true)], .bi .eql (.e 14) (.e 15)⟩, ⟨[], [], .pk (.e 11) (.e 16) (.c (.b false))⟩] [some 0, none, none, some 3, some 4, some 5, some 6, none, none, some 17])
      (.cond 9 (.skip) (.exit 2))))
      (.block 3 ((.seq (.reg [⟨[], [], .nop⟩, ⟨[], [], .bi .add (.e 3) (.c (.s [100]))⟩, ⟨[], [], .nop⟩] [some 0, none, none, some 10, some 4, some 5, some 6, none, none, none])
       ((.seq (.reg [⟨[], [], .nop⟩, ⟨[], [], .nop⟩, ⟨[], [], .ln (.e 4) []⟩, ⟨[], [], .bi .sub (.e 10) (.c (.n 1))⟩, ⟨[], [], .sb true (.e 4) none (some (.e 11))⟩, ⟨[], [], .nop⟩] [some 0, none, none, some 3, some 12, some 5, some 6, none, none, none])
       (.reg [⟨[], [], .nop⟩, ⟨[], [], .bi .add (.e 5) (.c (.n 1))⟩, ⟨[], [], .nop⟩] [some 0, none, none, some 3, some 4, some 10, some 6, none, none, none])))))))))))))))
   (.reg [⟨[], [], .nop⟩, ⟨[], [], .bi .add (.e 6) (.c (.n 1))⟩, ⟨[], [], .nop⟩] [some 0, none, none, some 3, some 4, some 5, some 10, none, none, none])))))))))
 ((.seq (.reg [⟨[], [], .nop⟩, ⟨[], [], .nop⟩, ⟨[], [], .cs .v (.b true)⟩] [none, some 3, some 10, none, none, none, none, none, none, none])
 (.ret))))))))))))))⟩

/-- loop.example/g03401/spec.PermutationOf -/
def ir_spec_PermutationOf : IF := ⟨[], 1, 11, [1, 2],
 (.seq (.reg [⟨[], [], .cs (.o .v) (.l [])⟩, ⟨[], [], .cs .v (.b false)⟩] [some 0, none, none, none, none, none, none, none, none, none, none])
 ((.seq ((.seq (.reg [⟨[], [], .nop⟩, ⟨[], [], .ca 64 [(.e 0)] 1⟩, ⟨[], [], .un .not (.e 11)⟩] [some 0, none, none, none, none, none, none, none, some 12, none, none])
 (.cond 8 ((.seq (.reg [⟨[], [], .li (.o .v) []⟩, ⟨[], [], .nop⟩, ⟨[], [], .cs .v (.b false)⟩] [none, some 11, some 12, none, none, none, none, none, none, none, none])
  (.ret))) (.skip))))
 ((.seq (.reg [⟨[], [], .nop⟩, ⟨[], [], .sn (.e 0)⟩, ⟨[], [], .bi .quo (.e 11) (.c (.n 2))⟩, ⟨[], [], .mk (.n 0) (.e 12) (.e 12)⟩, ⟨[], [], .nop⟩] [some 0, none, none, some 13, none, none, none, none, none, none, none])
 ((.seq (.reg [⟨[], [], .li (.o .v) []⟩, ⟨[], [], .nop⟩] [some 0, none, none, some 3, some 11, none, none, none, none, none, none])
 ((.seq (.reg [⟨[], [], .cs .v (.n 0)⟩] [some 0, none, none, some 3, some 4, some 11, none, none, none, none, none])
 ((.seq (.reg [⟨[], [], .cs .v (.n 0)⟩] [some 0, none, none, some 3, some 4, some 5, some 11, none, none, none, none])
 ((.seq ((.seq (.reg [⟨[], [], .cs .v (.n 0)⟩] [some 0, none, none, some 3, some 4, some 5, some 6, some 11, none, none, none])
 (.block 0 (.loop ((.seq ((.seq (.reg [⟨[], [], .nop⟩, ⟨[], [], .nop⟩, ⟨[], [], .sn (.e 0)⟩, ⟨[], [], .bi .lss (.e 7) (.e 11)⟩] [some 0, none, none, some 3, some 4, some 5, some 6, some 7, none, some 12, none])
   (.cond 9 (.skip) (.exit 0))))
   ((.seq (.block 1 ((.seq ((.seq (.reg [⟨[], [], .nop⟩, ⟨[], [], .nop⟩, ⟨[], [], .sx (.e 0) (.e 7)⟩, ⟨[], [], .bi .eql (.e 11) (.c (.y 117))⟩] [some 0, none, none, some 3, some 4, some 5, some 6, some 7, none, none, some 12])
    (.cond 10 ((.seq (.reg [⟨[], [], .nop⟩, ⟨[], [], .nop⟩, ⟨[], [], .li (.o .v) [(.e 5)]⟩, ⟨[], [], .ap false (.e 4) (.e 11)⟩, ⟨[], [], .nop⟩] [some 0, none, none, some 3, some 12, some 5, some 6, some 7, none, none, none])
     ((.seq (.reg [⟨[], [], .nop⟩, ⟨[], [], .bi .add (.e 5) (.c (.n 1))⟩, ⟨[], [], .nop⟩] [some 0, none, none, some 3, some 4, some 11, some 6, some 7, none, none, none])
     (.exit 1))))) (.skip))))
    ((.seq (.reg [⟨[], [], .nop⟩, ⟨[], [], .nop⟩, ⟨[], [], .nop⟩, ⟨[], [], .ln (.e 4) []⟩, ⟨[], [], .bi .sub (.e 11) (.c (.n 1))⟩, ⟨[], [], .ix (.e 4) [] (.e 12)⟩, ⟨[], [], .nop⟩, ⟨[], [], .nop⟩, ⟨[], [], .ix (.e 3) [] (.e 13)⟩, ⟨[], [], .up 3 [.e 13] (.e 6)⟩] [some 0, none, none, some 15, some 4, some 5, some 6, some 7, none, none, none])
    ((.seq (.reg [⟨[], [], .nop⟩, ⟨[], [], .nop⟩, ⟨[], [], .ln (.e 4) []⟩, ⟨[], [], .bi .sub (.e 11) (.c (.n 1))⟩, ⟨[], [], .sb true (.e 4) none (some (.e 12))⟩, ⟨[], [], .nop⟩] [some 0, none, none, some 3, some 13, some 5, some 6, some 7, none, none, none])
    (.reg [⟨[], [], .nop⟩, ⟨[], [], .bi .add (.e 6) (.c (.n 1))⟩, ⟨[], [], .nop⟩] [some 0, none, none, some 3, some 4, some 5, some 11, some 7, none, none, none]))))))))
   (.reg [⟨[], [], .nop⟩, ⟨[], [], .bi .add (.e 7) (.c (.n 1))⟩, ⟨[], [], .nop⟩] [some 0, none, none, some 3, some 4, some 5, some 6, some 11, none, none, none])))))))))
 ((.seq (.reg [⟨[], [], .nop⟩, ⟨[], [], .nop⟩, ⟨[], [], .cs .v (.b true)⟩] [none, some 3, some 11, none, none, none, none, none, none, none, none])
 (.ret))))))))))))))))⟩

/-- loop.example/g03401/spec.l10All -/
def ir_spec_l10All : IF := ⟨[], 2, 11, [2],
 (.seq (.reg [⟨[], [], .cs (.o .v) (.l [])⟩] [some 0, some 1, none, none, none, none, none, none, none, none, none])
 ((.seq ((.seq (.reg [⟨[], [], .nop⟩, ⟨[], [], .ln (.e 1) []⟩, ⟨[], [], .nop⟩, ⟨[], [], .bi .eql (.e 11) (.e 0)⟩] [some 0, some 1, none, none, none, none, none, some 12, none, none, none])
 (.cond 7 ((.seq (.reg [⟨[], [], .nop⟩, ⟨[], [], .li (.o .v) [(.e 1)]⟩, ⟨[], [], .nop⟩] [none, none, some 11, none, none, none, none, none, none, none, none])
  (.ret))) (.skip))))
 ((.seq (.reg [⟨[], [], .li (.o .v) []⟩, ⟨[], [], .nop⟩] [some 0, some 1, none, some 11, none, none, none, none, none, none, none])
 ((.seq ((.seq (.reg [⟨[], [], .cs .v (.n 0)⟩] [some 0, some 1, none, some 3, some 11, none, none, none, none, none, none])
 (.block 0 (.loop ((.seq ((.seq (.reg [⟨[], [], .nop⟩, ⟨[], [], .nop⟩, ⟨[], [], .bi .lss (.e 4) (.e 0)⟩] [some 0, some 1, none, some 3, some 4, none, none, none, some 11, none, none])
   (.cond 8 (.skip) (.exit 0))))
   ((.seq (.block 1 ((.seq (.reg [⟨[], [], .cs .v (.b false)⟩] [some 0, some 1, none, some 3, some 4, some 11, none, none, none, none, none])
    ((.seq ((.seq (.reg [⟨[], [], .cs .v (.n 0)⟩] [some 0, some 1, none, some 3, some 4, some 5, some 11, none, none, none, none])
    (.block 2 (.loop ((.seq ((.seq (.reg [⟨[], [], .nop⟩, ⟨[], [], .nop⟩, ⟨[], [], .ln (.e 1) []⟩, ⟨[], [], .bi .lss (.e 6) (.e 11)⟩] [some 0, some 1, none, some 3, some 4, some 5, some 6, none, none, some 12, none])
      (.cond 9 (.skip) (.exit 2))))
      ((.seq (.block 3 (.reg [⟨[], [], .nop⟩, ⟨[], [], .nop⟩, ⟨[], [(5, false)], .cy (.e 1)⟩, ⟨[], [(5, false)], .cy (.e 6)⟩, ⟨[], [(5, false)], .ix (.e 11) [] (.e 12)⟩, ⟨[], [(5, false)], .nop⟩, ⟨[], [(5, false)], .cy (.e 4)⟩, ⟨[], [(5, false)], .bi .eql (.e 13) (.e 14)⟩, ⟨[], [], .pk (.e 5) (.c (.b true)) (.e 15)⟩, ⟨[], [], .nop⟩] [some 0, some 1, none, some 3, some 4, some 16, some 6, none, none, none, none]))
      (.reg [⟨[], [], .nop⟩, ⟨[], [], .bi .add (.e 6) (.c (.n 1))⟩, ⟨[], [], .nop⟩] [some 0, some 1, none, some 3, some 4, some 5, some 11, none, none, none, none])))))))))
    ((.seq (.reg [⟨[], [], .nop⟩, ⟨[], [], .un .not (.e 5)⟩] [some 0, some 1, none, some 3, some 4, none, none, none, none, none, some 11])
    (.cond 10 (.reg [⟨[], [], .nop⟩, ⟨[], [], .nop⟩, ⟨[], [], .li (.o .v) []⟩, ⟨[], [], .nop⟩, ⟨[], [], .ap false (.e 11) (.e 1)⟩, ⟨[], [], .nop⟩, ⟨[], [], .li (.o .v) [(.e 4)]⟩, ⟨[], [], .ap false (.e 12) (.e 13)⟩, ⟨[], [], .ca 133 [(.e 0), (.e 14)] 1⟩, ⟨[], [], .ap false (.e 3) (.e 15)⟩, ⟨[], [], .nop⟩] [some 0, some 1, none, some 16, some 4, none, none, none, none, none, none]) (.skip)))))))))
   (.reg [⟨[], [], .nop⟩, ⟨[], [], .bi .add (.e 4) (.c (.n 1))⟩, ⟨[], [], .nop⟩] [some 0, some 1, none, some 3, some 11, none, none, none, none, none, none])))))))))
 ((.seq (.reg [⟨[], [], .nop⟩, ⟨[], [], .nop⟩] [none, none, some 3, none, none, none, none, none, none, none, none])
 (.ret))))))))))⟩

/-- loop.example/g03401/spec.l10Any -/
def ir_spec_l10Any : IF := ⟨[], 1, 9, [1, 0],
 (.seq (.reg [⟨[], [], .cs (.o .v) (.l [])⟩] [some 0, none, none, none, none, none, none, none, none])
 ((.seq (.reg [⟨[], [], .nop⟩, ⟨[], [], .ca 317 [(.e 0)] 2⟩, ⟨[], [], .ca 325 [(.e 9)] 2⟩, ⟨[], [], .nop⟩, ⟨[], [], .nop⟩, ⟨[], [], .nop⟩, ⟨[], [], .nop⟩, ⟨[], [], .nop⟩] [some 10, none, some 11, none, none, none, none, none, none])
 ((.seq ((.seq (.reg [⟨[], [], .nop⟩, ⟨[], [], .ca 307 [(.e 0), (.c (.n 3))] 2⟩] [some 10, none, some 2, none, none, some 9, none, none, none])
 (.cond 5 ((.seq (.reg [⟨[], [], .li (.o .v) []⟩, ⟨[], [], .nop⟩] [some 0, none, some 9, none, none, none, none, none, none])
  ((.seq (.reg [⟨[], [], .nop⟩, ⟨[], [], .ca 289 [(.e 0), (.c (.n 7))] 2⟩, ⟨[], [], .nop⟩] [some 10, none, some 2, some 9, none, none, none, none, none])
  (.block 0 (.loop ((.seq ((.seq (.reg [⟨[], [], .nop⟩, ⟨[], [], .bi .gtr (.e 3) (.c (.n 0))⟩] [some 0, none, some 2, some 3, none, none, some 9, none, none])
    (.cond 6 (.skip) (.exit 0))))
    ((.seq (.block 1 ((.seq (.reg [⟨[], [], .nop⟩, ⟨[], [], .nop⟩, ⟨[], [], .ln (.e 2) []⟩, ⟨[], [], .bi .add (.e 9) (.c (.n 1))⟩, ⟨[], [], .ca 289 [(.e 0), (.e 10)] 2⟩, ⟨[], [], .nop⟩] [some 12, none, none, some 3, some 11, none, none, none, some 2])
     (.reg [⟨[], [], .li (.o .v) []⟩, ⟨[], [], .nop⟩, ⟨[], [], .nop⟩, ⟨[], [], .sb false (.e 8) none (some (.e 4))⟩, ⟨[], [], .ap false (.e 9) (.e 10)⟩, ⟨[], [], .nop⟩, ⟨[], [], .ln (.e 8) []⟩, ⟨[], [], .li (.o .v) [(.e 12)]⟩, ⟨[], [], .ap false (.e 11) (.e 13)⟩, ⟨[], [], .nop⟩, ⟨[], [], .nop⟩, ⟨[], [], .sb false (.e 8) (some (.e 4)) none⟩, ⟨[], [], .ap false (.e 14) (.e 15)⟩, ⟨[], [], .nop⟩] [some 0, none, some 16, some 3, none, none, none, none, none]))))
    (.reg [⟨[], [], .nop⟩, ⟨[], [], .bi .sub (.e 3) (.c (.n 1))⟩, ⟨[], [], .nop⟩] [some 0, none, some 2, some 9, none, none, none, none, none]))))))))))) (.skip))))
 ((.seq ((.seq (.reg [⟨[], [], .nop⟩, ⟨[], [], .ln (.e 2) []⟩, ⟨[], [], .bi .gtr (.e 9) (.c (.n 0))⟩, ⟨[], [], .nop⟩, ⟨[], [(10, true)], .nop⟩, ⟨[none, some 0], [(10, true)], .ca 307 [(.e 0), (.c (.n 12))] 2⟩, ⟨[], [], .pk (.e 10) (.e 11) (.c (.b false))⟩] [some 12, none, some 2, none, none, none, none, some 13, none])
 (.cond 7 (.reg [⟨[], [], .nop⟩, ⟨[], [], .nop⟩, ⟨[], [], .li (.o .v) [(.c (.n (-1))), (.c (.n 0)), (.c (.n 1)), (.c (.n 9223372036854775807))]⟩, ⟨[], [], .ca 313 [(.e 0), (.e 9)] 2⟩, ⟨[], [], .ix (.e 2) [] (.c (.n 0))⟩, ⟨[], [], .up 2 [.k 0] (.e 10)⟩] [some 11, none, some 13, none, none, none, none, none, none]) (.skip))))
 ((.seq (.reg [⟨[], [], .nop⟩, ⟨[], [], .nop⟩] [some 0, some 2, none, none, none, none, none, none, none])
 (.ret))))))))))⟩

end Go.Cat

namespace Go.Cat
/-- loop.example/g03401/spec.BubbleOnce -/
def ir_spec_BubbleOnce : IF := ⟨[], 1, 9, [1, 2],
 (.seq (.reg [⟨[], [], .cs (.o .v) (.l [])⟩, ⟨[], [], .cs .v (.b false)⟩] [some 0, none, none, none, none, none, none, none, none])
 ((.seq ((.seq (.reg [⟨[], [], .nop⟩, ⟨[], [], .ca 73 [(.e 0)] 1⟩, ⟨[], [], .un .not (.e 9)⟩] [some 0, none, none, none, none, none, some 10, none, none])
 (.cond 6 ((.seq (.reg [⟨[], [], .li (.o .v) []⟩, ⟨[], [], .nop⟩, ⟨[], [], .cs .v (.b false)⟩] [none, some 9, some 10, none, none, none, none, none, none])
  (.ret))) (.skip))))
 ((.seq (.reg [⟨[], [], .li (.o .v) []⟩, ⟨[], [], .nop⟩, ⟨[], [], .ap true (.e 9) (.e 0)⟩, ⟨[], [], .nop⟩] [none, none, none, some 10, none, none, none, none, none])
 ((.seq ((.seq (.reg [⟨[], [], .cs .v (.n 1)⟩] [none, none, none, some 3, some 9, none, none, none, none])
 (.block 0 (.loop ((.seq ((.seq (.reg [⟨[], [], .nop⟩, ⟨[], [], .nop⟩, ⟨[], [], .ln (.e 3) []⟩, ⟨[], [], .bi .lss (.e 4) (.e 9)⟩] [none, none, none, some 3, some 4, none, none, some 10, none])
   (.cond 7 (.skip) (.exit 0))))
   ((.seq (.block 1 ((.seq (.reg [⟨[], [], .nop⟩, ⟨[], [], .nop⟩, ⟨[], [], .bi .sub (.e 4) (.c (.n 1))⟩, ⟨[], [], .ix (.e 3) [] (.e 9)⟩, ⟨[], [], .nop⟩, ⟨[], [], .nop⟩, ⟨[], [], .nop⟩, ⟨[], [], .ix (.e 3) [] (.e 4)⟩, ⟨[], [], .nop⟩, ⟨[], [], .bi .gtr (.e 10) (.e 11)⟩] [none, none, none, some 3, some 4, none, none, none, some 12])
    (.cond 8 ((.seq (.reg [⟨[], [], .nop⟩, ⟨[], [], .nop⟩, ⟨[], [], .ix (.e 3) [] (.e 4)⟩, ⟨[], [], .nop⟩, ⟨[], [], .nop⟩] [none, none, none, some 3, some 4, some 9, none, none, none])
     ((.seq (.reg [⟨[], [], .nop⟩, ⟨[], [], .nop⟩, ⟨[], [], .nop⟩, ⟨[], [], .nop⟩, ⟨[], [], .bi .sub (.e 4) (.c (.n 1))⟩, ⟨[], [], .ix (.e 3) [] (.e 9)⟩, ⟨[], [], .nop⟩, ⟨[], [], .ix (.e 3) [] (.e 4)⟩, ⟨[], [], .up 3 [.e 4] (.e 10)⟩] [none, none, none, some 12, some 4, some 5, none, none, none])
     (.reg [⟨[], [], .nop⟩, ⟨[], [], .nop⟩, ⟨[], [], .bi .sub (.e 4) (.c (.n 1))⟩, ⟨[], [], .nop⟩, ⟨[], [], .ix (.e 3) [] (.e 9)⟩, ⟨[], [], .up 3 [.e 9] (.e 5)⟩] [none, none, none, some 11, some 4, none, none, none, none]))))) (.skip)))))
   (.reg [⟨[], [], .nop⟩, ⟨[], [], .bi .add (.e 4) (.c (.n 1))⟩, ⟨[], [], .nop⟩] [none, none, none, some 3, some 9, none, none, none, none])))))))))
 ((.seq (.reg [⟨[], [], .nop⟩, ⟨[], [], .nop⟩, ⟨[], [], .cs .v (.b true)⟩] [none, some 3, some 9, none, none, none, none, none, none])
 (.ret))))))))))⟩

/-- loop.example/g03401/spec.CountSortable -/
def ir_spec_CountSortable : IF := ⟨[], 2, 9, [2],
 (.seq (.reg [⟨[], [], .cs .v (.n 0)⟩] [some 0, some 1, none, none, none, none, none, none, none])
 ((.seq ((.seq (.reg [⟨[], [], .nop⟩, ⟨[], [], .ca 22 [(.e 0), (.c (.n 0)), (.c (.n 5))] 1⟩, ⟨[], [], .un .not (.e 9)⟩, ⟨[], [], .nop⟩, ⟨[], [(10, false)], .cy (.e 1)⟩, ⟨[], [(10, false)], .ca 22 [(.e 11), (.c (.n 0)), (.c (.n 5))] 1⟩, ⟨[], [(10, false)], .un .not (.e 12)⟩, ⟨[], [], .pk (.e 10) (.c (.b true)) (.e 13)⟩] [some 0, some 1, none, none, none, none, some 14, none, none])
 (.cond 6 ((.seq (.reg [⟨[], [], .cs .v (.n (-1))⟩] [none, none, some 9, none, none, none, none, none, none])
  (.ret))) (.skip))))
 ((.seq (.reg [⟨[], [], .nop⟩, ⟨[], [], .li (.o .v) []⟩, ⟨[], [], .ca 133 [(.e 0), (.e 9)] 1⟩, ⟨[], [], .nop⟩] [none, some 1, none, some 10, none, none, none, none, none])
 ((.seq (.reg [⟨[], [], .cs .v (.n 0)⟩] [none, some 1, none, some 3, some 9, none, none, none, none])
 ((.seq ((.seq (.reg [⟨[], [], .cs .v (.n 0)⟩] [none, some 1, none, some 3, some 4, some 9, none, none, none])
 (.block 0 (.loop ((.seq ((.seq (.reg [⟨[], [], .nop⟩, ⟨[], [], .nop⟩, ⟨[], [], .ln (.e 3) []⟩, ⟨[], [], .bi .lss (.e 5) (.e 9)⟩] [none, some 1, none, some 3, some 4, some 5, none, some 10, none])
   (.cond 7 (.skip) (.exit 0))))
   ((.seq (.block 1 ((.seq (.reg [⟨[], [], .nop⟩, ⟨[], [], .nop⟩, ⟨[], [], .ix (.e 3) [] (.e 5)⟩, ⟨[], [], .nop⟩, ⟨[], [], .ca 105 [(.e 9)] 1⟩, ⟨[], [], .nop⟩, ⟨[], [], .bi .leq (.e 10) (.e 1)⟩] [none, some 1, none, some 3, some 4, some 5, none, none, some 11])
    (.cond 8 (.reg [⟨[], [], .nop⟩, ⟨[], [], .bi .add (.e 4) (.c (.n 1))⟩, ⟨[], [], .nop⟩] [none, some 1, none, some 3, some 9, some 5, none, none, none]) (.skip)))))
   (.reg [⟨[], [], .nop⟩, ⟨[], [], .bi .add (.e 5) (.c (.n 1))⟩, ⟨[], [], .nop⟩] [none, some 1, none, some 3, some 4, some 9, none, none, none])))))))))
 ((.seq (.reg [⟨[], [], .nop⟩, ⟨[], [], .nop⟩] [none, none, some 4, none, none, none, none, none, none])
 (.ret))))))))))))⟩

/-- loop.example/g03401/spec.DrawBubbleOnce -/
def ir_spec_DrawBubbleOnce : IF := ⟨[], 1, 2, [1],
 (.seq (.reg [⟨[], [], .cs (.o .v) (.l [])⟩] [some 0, none])
 ((.seq (.reg [⟨[], [], .nop⟩, ⟨[], [], .ca 288 [(.e 0)] 1⟩, ⟨[], [], .ca 305 [(.e 2)] 2⟩, ⟨[], [], .nop⟩] [none, some 3])
 (.ret))))⟩

/-- loop.example/g03401/spec.DrawCountSortable -/
def ir_spec_DrawCountSortable : IF := ⟨[], 1, 5, [1, 2],
 (.seq (.reg [⟨[], [], .cs .v (.n 0)⟩, ⟨[], [], .cs .v (.n 0)⟩] [some 0, none, none, none, none])
 ((.seq (.reg [⟨[], [], .nop⟩, ⟨[], [], .ca 288 [(.e 0)] 1⟩, ⟨[], [], .nop⟩] [none, none, none, some 5, none])
 ((.seq (.reg [⟨[], [], .nop⟩, ⟨[], [], .ca 289 [(.e 3), (.c (.n 7))] 2⟩, ⟨[], [], .nop⟩] [none, none, none, some 6, some 5])
 ((.seq (.reg [⟨[], [], .nop⟩, ⟨[], [], .nop⟩, ⟨[], [], .ca 289 [(.e 3), (.c (.n 7))] 2⟩, ⟨[], [], .bi .sub (.e 5) (.c (.n 1))⟩, ⟨[], [], .nop⟩, ⟨[], [], .nop⟩] [none, some 4, some 7, none, none])
 (.ret))))))))⟩

/-- loop.example/g03401/spec.DrawOutputOf -/
def ir_spec_DrawOutputOf : IF := ⟨[], 1, 9, [1, 2],
 (.seq (.reg [⟨[], [], .cs .v (.s [])⟩, ⟨[], [], .cs (.o .v) (.l [])⟩] [some 0, none, none, none, none, none, none, none, none])
 ((.seq (.reg [⟨[], [], .nop⟩, ⟨[], [], .ca 288 [(.e 0)] 1⟩, ⟨[], [], .nop⟩] [none, none, none, some 9, none, none, none, none, none])
 ((.seq (.reg [⟨[], [], .nop⟩, ⟨[], [], .ca 305 [(.e 3)] 2⟩, ⟨[], [], .nop⟩] [none, none, none, some 10, some 9, none, none, none, none])
 ((.seq (.reg [⟨[], [], .nop⟩, ⟨[], [], .nop⟩, ⟨[], [], .ln (.e 4) []⟩, ⟨[], [], .mn (.e 9) (.c (.n 6))⟩, ⟨[], [], .ca 306 [(.e 3), (.e 10)] 2⟩, ⟨[], [], .nop⟩] [none, none, none, some 12, some 4, some 11, none, none, none])
 ((.seq (.reg [⟨[], [], .nop⟩, ⟨[], [], .ca 156 [(.e 4)] 2⟩, ⟨[], [], .nop⟩, ⟨[], [], .nop⟩, ⟨[], [], .nop⟩, ⟨[], [], .nop⟩, ⟨[], [], .nop⟩] [none, none, none, some 3, some 4, some 5, some 9, some 10, none])
 ((.seq ((.seq (.reg [⟨[], [], .nop⟩, ⟨[], [], .nop⟩, ⟨[], [(7, true)], .nop⟩, ⟨[none, some 3], [(7, true)], .ca 307 [(.e 3), (.c (.n 2))] 2⟩, ⟨[], [], .pk (.e 7) (.e 9) (.c (.b false))⟩] [none, none, none, none, some 4, some 5, some 6, none, some 11])
 (.cond 8 ((.seq (.reg [⟨[], [], .nop⟩, ⟨[], [], .nop⟩, ⟨[], [], .nop⟩, ⟨[], [], .nop⟩] [none, some 6, some 4, none, none, none, none, none, none])
  (.ret))) (.skip))))
 ((.seq (.reg [⟨[], [], .nop⟩, ⟨[], [], .nop⟩, ⟨[], [], .nop⟩, ⟨[], [], .nop⟩] [none, some 5, some 4, none, none, none, none, none, none])
 (.ret))))))))))))))⟩

/-- loop.example/g03401/spec.DrawPatternOf231 -/
def ir_spec_DrawPatternOf231 : IF := ⟨[], 1, 2, [1],
 (.seq (.reg [⟨[], [], .cs (.o .v) (.l [])⟩] [some 0, none])
 ((.seq (.reg [⟨[], [], .nop⟩, ⟨[], [], .ca 288 [(.e 0)] 1⟩, ⟨[], [], .ca 305 [(.e 2)] 2⟩, ⟨[], [], .nop⟩] [none, some 3])
 (.ret))))⟩

/-- loop.example/g03401/spec.DrawSortOnce -/
def ir_spec_DrawSortOnce : IF := ⟨[], 1, 2, [1],
 (.seq (.reg [⟨[], [], .cs (.o .v) (.l [])⟩] [some 0, none])
 ((.seq (.reg [⟨[], [], .nop⟩, ⟨[], [], .ca 288 [(.e 0)] 1⟩, ⟨[], [], .ca 305 [(.e 2)] 2⟩, ⟨[], [], .nop⟩] [none, some 3])
 (.ret))))⟩

/-- loop.example/g03401/spec.IsSortable -/
def ir_spec_IsSortable : IF := ⟨[], 1, 2, [1],
 (.seq (.reg [⟨[], [], .cs .v (.b false)⟩] [some 0, none])
 ((.seq (.reg [⟨[], [], .nop⟩, ⟨[], [], .ca 73 [(.e 0)] 1⟩, ⟨[], [], .nop⟩, ⟨[], [(2, true)], .nop⟩, ⟨[], [(2, true)], .ca 80 [(.e 0)] 1⟩, ⟨[], [(2, true)], .ca 130 [(.e 3)] 1⟩, ⟨[], [], .pk (.e 2) (.e 4) (.c (.b false))⟩, ⟨[], [], .nop⟩] [none, some 5])
 (.ret))))⟩

/-- loop.example/g03401/spec.OutputOf -/
def ir_spec_OutputOf : IF := ⟨[], 2, 11, [2, 3],
 (.seq (.reg [⟨[], [], .cs (.o .v) (.l [])⟩, ⟨[], [], .cs .v (.b false)⟩] [some 0, some 1, none, none, none, none, none, none, none, none, none])
 ((.seq (.reg [⟨[], [], .li (.o .v) []⟩, ⟨[], [], .nop⟩] [some 0, some 1, none, none, some 11, none, none, none, none, none, none])
 ((.seq ((.seq (.reg [⟨[], [], .nop⟩, ⟨[], [], .ca 64 [(.e 0)] 1⟩, ⟨[], [], .un .not (.e 11)⟩, ⟨[], [], .nop⟩, ⟨[], [(12, false)], .nop⟩, ⟨[], [(12, false)], .ca 73 [(.e 1)] 1⟩, ⟨[], [(12, false)], .un .not (.e 13)⟩, ⟨[], [], .pk (.e 12) (.c (.b true)) (.e 14)⟩, ⟨[], [], .nop⟩, ⟨[], [(15, false)], .cy (.e 0)⟩, ⟨[], [(15, false)], .sn (.e 16)⟩, ⟨[], [(15, false)], .nop⟩, ⟨[], [(15, false)], .ln (.e 1) []⟩, ⟨[], [(15, false)], .bi .mul (.c (.n 2)) (.e 18)⟩, ⟨[], [(15, false)], .bi .neq (.e 17) (.e 19)⟩, ⟨[], [], .pk (.e 15) (.c (.b true)) (.e 20)⟩] [some 0, some 1, none, none, some 4, none, none, none, some 21, none, none])
 (.cond 8 ((.seq (.reg [⟨[], [], .nop⟩, ⟨[], [], .nop⟩, ⟨[], [], .cs .v (.b false)⟩] [none, none, some 4, some 11, none, none, none, none, none, none, none])
  (.ret))) (.skip))))
 ((.seq (.reg [⟨[], [], .li (.o .v) []⟩, ⟨[], [], .nop⟩] [some 0, some 1, none, none, some 4, some 11, none, none, none, none, none])
 ((.seq (.reg [⟨[], [], .cs .v (.n 0)⟩] [some 0, some 1, none, none, some 4, some 5, some 11, none, none, none, none])
 ((.seq ((.seq (.reg [⟨[], [], .cs .v (.n 0)⟩] [some 0, some 1, none, none, some 4, some 5, some 6, some 11, none, none, none])
 (.block 0 (.loop ((.seq ((.seq (.reg [⟨[], [], .nop⟩, ⟨[], [], .nop⟩, ⟨[], [], .sn (.e 0)⟩, ⟨[], [], .bi .lss (.e 7) (.e 11)⟩] [some 0, some 1, none, none, some 4, some 5, some 6, some 7, none, some 12, none])
   (.cond 9 (.skip) (.exit 0))))
   ((.seq (.block 1 ((.seq ((.seq (.reg [⟨[], [], .nop⟩, ⟨[], [], .nop⟩, ⟨[], [], .sx (.e 0) (.e 7)⟩, ⟨[], [], .bi .eql (.e 11) (.c (.y 117))⟩] [some 0, some 1, none, none, some 4, some 5, some 6, some 7, none, none, some 12])
    (.cond 10 ((.seq (.reg [⟨[], [], .nop⟩, ⟨[], [], .nop⟩, ⟨[], [], .nop⟩, ⟨[], [], .iy (.e 1) (.e 6)⟩, ⟨[], [], .nop⟩, ⟨[], [], .li (.o .v) [(.e 11)]⟩, ⟨[], [], .ap false (.e 5) (.e 12)⟩, ⟨[], [], .nop⟩] [some 0, some 1, none, none, some 4, some 13, some 6, some 7, none, none, none])
     ((.seq (.reg [⟨[], [], .nop⟩, ⟨[], [], .bi .add (.e 6) (.c (.n 1))⟩, ⟨[], [], .nop⟩] [some 0, some 1, none, none, some 4, some 5, some 11, some 7, none, none, none])
     (.exit 1))))) (.skip))))
    ((.seq (.reg [⟨[], [], .nop⟩, ⟨[], [], .nop⟩, ⟨[], [], .nop⟩, ⟨[], [], .ln (.e 5) []⟩, ⟨[], [], .bi .sub (.e 11) (.c (.n 1))⟩, ⟨[], [], .ix (.e 5) [] (.e 12)⟩, ⟨[], [], .nop⟩, ⟨[], [], .li (.o .v) [(.e 13)]⟩, ⟨[], [], .ap false (.e 4) (.e 14)⟩, ⟨[], [], .nop⟩] [some 0, some 1, none, none, some 15, some 5, some 6, some 7, none, none, none])
    (.reg [⟨[], [], .nop⟩, ⟨[], [], .nop⟩, ⟨[], [], .ln (.e 5) []⟩, ⟨[], [], .bi .sub (.e 11) (.c (.n 1))⟩, ⟨[], [], .sb true (.e 5) none (some (.e 12))⟩, ⟨[], [], .nop⟩] [some 0, some 1, none, none, some 4, some 13, some 6, some 7, none, none, none]))))))
   (.reg [⟨[], [], .nop⟩, ⟨[], [], .bi .add (.e 7) (.c (.n 1))⟩, ⟨[], [], .nop⟩] [some 0, some 1, none, none, some 4, some 5, some 6, some 11, none, none, none])))))))))
 ((.seq (.reg [⟨[], [], .nop⟩, ⟨[], [], .nop⟩, ⟨[], [], .cs .v (.b true)⟩] [none, none, some 4, some 11, none, none, none, none, none, none, none])
 (.ret))))))))))))))⟩

/-- loop.example/g03401/spec.PassesOf -/
def ir_spec_PassesOf : IF := ⟨[], 1, 6, [1],
 (.seq (.reg [⟨[], [], .cs .v (.n 0)⟩] [some 0, none, none, none, none, none])
 ((.seq ((.seq (.reg [⟨[], [], .nop⟩, ⟨[], [], .ca 73 [(.e 0)] 1⟩, ⟨[], [], .un .not (.e 6)⟩] [some 0, none, none, none, some 7, none])
 (.cond 4 ((.seq (.reg [⟨[], [], .cs .v (.n (-1))⟩] [none, some 6, none, none, none, none])
  (.ret))) (.skip))))
 ((.seq (.reg [⟨[], [], .li (.o .v) []⟩, ⟨[], [], .nop⟩, ⟨[], [], .ap true (.e 6) (.e 0)⟩, ⟨[], [], .nop⟩] [none, none, some 7, none, none, none])
 ((.seq (.reg [⟨[], [], .cs .v (.n 0)⟩] [none, none, some 2, some 6, none, none])
 ((.seq (.block 0 (.loop ((.seq ((.seq (.reg [⟨[], [], .nop⟩, ⟨[], [], .ca 130 [(.e 2)] 1⟩, ⟨[], [], .un .not (.e 6)⟩] [none, none, some 2, some 3, none, some 7])
   (.cond 5 (.skip) (.exit 0))))
   (.block 1 ((.seq (.reg [⟨[], [], .nop⟩, ⟨[], [], .ca 80 [(.e 2)] 1⟩, ⟨[], [], .nop⟩] [none, none, some 6, some 3, none, none])
    (.reg [⟨[], [], .nop⟩, ⟨[], [], .bi .add (.e 3) (.c (.n 1))⟩, ⟨[], [], .nop⟩] [none, none, some 2, some 6, none, none]))))))))
 ((.seq (.reg [⟨[], [], .nop⟩, ⟨[], [], .nop⟩] [none, some 3, none, none, none, none])
 (.ret))))))))))))⟩

/-- loop.example/g03401/spec.PatternOf231 -/
def ir_spec_PatternOf231 : IF := ⟨[], 1, 10, [1, 2],
 (.seq (.reg [⟨[], [], .cs (.o .v) (.l [])⟩, ⟨[], [], .cs .v (.b false)⟩] [some 0, none, none, none, none, none, none, none, none, none])
 ((.seq ((.seq (.reg [⟨[], [], .cs .v (.n 0)⟩] [some 0, none, none, some 10, none, none, none, none, none, none])
 (.block 0 (.loop ((.seq ((.seq (.reg [⟨[], [], .nop⟩, ⟨[], [], .nop⟩, ⟨[], [], .ln (.e 0) []⟩, ⟨[], [], .bi .lss (.e 3) (.e 10)⟩, ⟨[], [], .nop⟩, ⟨[], [(11, true)], .nop⟩, ⟨[], [(11, true)], .ca 73 [(.e 0)] 1⟩, ⟨[], [], .pk (.e 11) (.e 12) (.c (.b false))⟩] [some 0, none, none, some 3, none, none, some 13, none, none, none])
   (.cond 6 (.skip) (.exit 0))))
   ((.seq (.block 1 ((.seq (.reg [⟨[], [], .nop⟩, ⟨[], [], .bi .add (.e 3) (.c (.n 1))⟩, ⟨[], [], .nop⟩] [some 0, none, none, some 3, some 10, none, none, none, none, none])
    (.block 2 (.loop ((.seq ((.seq (.reg [⟨[], [], .nop⟩, ⟨[], [], .nop⟩, ⟨[], [], .ln (.e 0) []⟩, ⟨[], [], .bi .lss (.e 4) (.e 10)⟩] [some 0, none, none, some 3, some 4, none, none, some 11, none, none])
      (.cond 7 (.skip) (.exit 2))))
      ((.seq (.block 3 ((.seq (.reg [⟨[], [], .nop⟩, ⟨[], [], .bi .add (.e 4) (.c (.n 1))⟩, ⟨[], [], .nop⟩] [some 0, none, none, some 3, some 4, some 10, none, none, none, none])
       (.block 4 (.loop ((.seq ((.seq (.reg [⟨[], [], .nop⟩, ⟨[], [], .nop⟩, ⟨[], [], .ln (.e 0) []⟩, ⟨[], [], .bi .lss (.e 5) (.e 10)⟩] [some 0, none, none, some 3, some 4, some 5, none, none, some 11, none])
         (.cond 8 (.skip) (.exit 4))))
         ((.seq (.block 5 ((.seq (.reg [⟨[], [], .nop⟩, ⟨[], [], .nop⟩, ⟨[], [], .iy (.e 0) (.e 5)⟩, ⟨[], [], .nop⟩, ⟨[], [], .nop⟩, ⟨[], [], .nop⟩, ⟨[], [], .iy (.e 0) (.e 3)⟩, ⟨[], [], .nop⟩, ⟨[], [], .bi .lss (.e 10) (.e 11)⟩, ⟨[], [], .nop⟩, ⟨[], [(12, true)], .nop⟩, ⟨[], [(12, true)], .cy (.e 3)⟩, ⟨[], [(12, true)], .iy (.e 0) (.e 13)⟩, ⟨[], [(12, true)], .nop⟩, ⟨[], [(12, true)], .nop⟩, ⟨[], [(12, true)], .cy (.e 4)⟩, ⟨[], [(12, true)], .iy (.e 0) (.e 15)⟩, ⟨[], [(12, true)], .nop⟩, ⟨[], [(12, true)], .bi .lss (.e 14) (.e 16)⟩, ⟨[], [], .pk (.e 12) (.e 17) (.c (.b false))⟩] [some 0, none, none, some 3, some 4, some 5, none, none, none, some 18])
          (.cond 9 ((.seq (.reg [⟨[], [], .nop⟩, ⟨[], [], .nop⟩, ⟨[], [], .nop⟩, ⟨[], [], .li (.o .v) [(.e 3), (.e 4), (.e 5)]⟩, ⟨[], [], .nop⟩, ⟨[], [], .cs .v (.b true)⟩] [none, some 10, some 11, none, none, none, none, none, none, none])
           (.ret))) (.skip)))))
         (.reg [⟨[], [], .nop⟩, ⟨[], [], .bi .add (.e 5) (.c (.n 1))⟩, ⟨[], [], .nop⟩] [some 0, none, none, some 3, some 4, some 10, none, none, none, none]))))))))))
      (.reg [⟨[], [], .nop⟩, ⟨[], [], .bi .add (.e 4) (.c (.n 1))⟩, ⟨[], [], .nop⟩] [some 0, none, none, some 3, some 10, none, none, none, none, none]))))))))))
   (.reg [⟨[], [], .nop⟩, ⟨[], [], .bi .add (.e 3) (.c (.n 1))⟩, ⟨[], [], .nop⟩] [some 0, none, none, some 10, none, none, none, none, none, none])))))))))
 ((.seq (.reg [⟨[], [], .li (.o .v) []⟩, ⟨[], [], .nop⟩, ⟨[], [], .cs .v (.b false)⟩] [none, some 10, some 11, none, none, none, none, none, none, none])
 (.ret))))))⟩

/-- loop.example/g03401/spec.SortOnce -/
def ir_spec_SortOnce : IF := ⟨[], 1, 4, [1, 2],
 (.seq (.reg [⟨[], [], .cs (.o .v) (.l [])⟩, ⟨[], [], .cs .v (.b false)⟩] [some 0, none, none, none])
 ((.seq ((.seq (.reg [⟨[], [], .nop⟩, ⟨[], [], .ca 73 [(.e 0)] 1⟩, ⟨[], [], .un .not (.e 4)⟩] [some 0, none, none, some 5])
 (.cond 3 ((.seq (.reg [⟨[], [], .li (.o .v) []⟩, ⟨[], [], .nop⟩, ⟨[], [], .cs .v (.b false)⟩] [none, some 4, some 5, none])
  (.ret))) (.skip))))
 ((.seq (.reg [⟨[], [], .nop⟩, ⟨[], [], .ca 80 [(.e 0)] 1⟩, ⟨[], [], .nop⟩, ⟨[], [], .cs .v (.b true)⟩] [none, some 4, some 5, none])
 (.ret))))))⟩

/-- loop.example/g03401/spec.l31Sort -/
def ir_spec_l31Sort : IF := ⟨[], 1, 8, [1],
 (.seq (.reg [⟨[], [], .cs (.o .v) (.l [])⟩] [some 0, none, none, none, none, none, none, none])
 ((.seq (.reg [⟨[], [], .li (.o .v) []⟩, ⟨[], [], .nop⟩] [some 0, none, some 8, none, none, none, none, none])
 ((.seq (.reg [⟨[], [], .li (.o .v) []⟩, ⟨[], [], .nop⟩] [some 0, none, some 2, some 8, none, none, none, none])
 ((.seq ((.seq (.reg [⟨[], [], .cs .v (.n 0)⟩] [some 0, none, some 2, some 3, some 8, none, none, none])
 (.block 0 (.loop ((.seq ((.seq (.reg [⟨[], [], .nop⟩, ⟨[], [], .nop⟩, ⟨[], [], .ln (.e 0) []⟩, ⟨[], [], .bi .lss (.e 4) (.e 8)⟩] [some 0, none, some 2, some 3, some 4, some 9, none, none])
   (.cond 5 (.skip) (.exit 0))))
   ((.seq (.block 1 ((.seq (.block 2 (.loop ((.seq ((.seq (.reg [⟨[], [], .nop⟩, ⟨[], [], .ln (.e 3) []⟩, ⟨[], [], .bi .gtr (.e 8) (.c (.n 0))⟩, ⟨[], [], .nop⟩, ⟨[], [(9, true)], .nop⟩, ⟨[], [(9, true)], .nop⟩, ⟨[], [(9, true)], .ln (.e 3) []⟩, ⟨[], [(9, true)], .bi .sub (.e 10) (.c (.n 1))⟩, ⟨[], [(9, true)], .ix (.e 3) [] (.e 11)⟩, ⟨[], [(9, true)], .nop⟩, ⟨[], [(9, true)], .nop⟩, ⟨[], [(9, true)], .cy (.e 4)⟩, ⟨[], [(9, true)], .iy (.e 0) (.e 13)⟩, ⟨[], [(9, true)], .nop⟩, ⟨[], [(9, true)], .bi .lss (.e 12) (.e 14)⟩, ⟨[], [], .pk (.e 9) (.e 15) (.c (.b false))⟩] [some 0, none, some 2, some 3, some 4, none, some 16, none])
      (.cond 6 (.skip) (.exit 2))))
      (.block 3 ((.seq (.reg [⟨[], [], .nop⟩, ⟨[], [], .nop⟩, ⟨[], [], .nop⟩, ⟨[], [], .ln (.e 3) []⟩, ⟨[], [], .bi .sub (.e 8) (.c (.n 1))⟩, ⟨[], [], .ix (.e 3) [] (.e 9)⟩, ⟨[], [], .nop⟩, ⟨[], [], .li (.o .v) [(.e 10)]⟩, ⟨[], [], .ap false (.e 2) (.e 11)⟩, ⟨[], [], .nop⟩] [some 0, none, some 12, some 3, some 4, none, none, none])
       (.reg [⟨[], [], .nop⟩, ⟨[], [], .nop⟩, ⟨[], [], .ln (.e 3) []⟩, ⟨[], [], .bi .sub (.e 8) (.c (.n 1))⟩, ⟨[], [], .sb true (.e 3) none (some (.e 9))⟩, ⟨[], [], .nop⟩] [some 0, none, some 2, some 10, some 4, none, none, none]))))))))
    (.reg [⟨[], [], .nop⟩, ⟨[], [], .nop⟩, ⟨[], [], .nop⟩, ⟨[], [], .iy (.e 0) (.e 4)⟩, ⟨[], [], .nop⟩, ⟨[], [], .li (.o .v) [(.e 8)]⟩, ⟨[], [], .ap false (.e 3) (.e 9)⟩, ⟨[], [], .nop⟩] [some 0, none, some 2, some 10, some 4, none, none, none]))))
   (.reg [⟨[], [], .nop⟩, ⟨[], [], .bi .add (.e 4) (.c (.n 1))⟩, ⟨[], [], .nop⟩] [some 0, none, some 2, some 3, some 8, none, none, none])))))))))
 ((.seq (.block 4 (.loop ((.seq ((.seq (.reg [⟨[], [], .nop⟩, ⟨[], [], .ln (.e 3) []⟩, ⟨[], [], .bi .gtr (.e 8) (.c (.n 0))⟩] [none, none, some 2, some 3, none, none, none, some 9])
   (.cond 7 (.skip) (.exit 4))))
   (.block 5 ((.seq (.reg [⟨[], [], .nop⟩, ⟨[], [], .nop⟩, ⟨[], [], .nop⟩, ⟨[], [], .ln (.e 3) []⟩, ⟨[], [], .bi .sub (.e 8) (.c (.n 1))⟩, ⟨[], [], .ix (.e 3) [] (.e 9)⟩, ⟨[], [], .nop⟩, ⟨[], [], .li (.o .v) [(.e 10)]⟩, ⟨[], [], .ap false (.e 2) (.e 11)⟩, ⟨[], [], .nop⟩] [none, none, some 12, some 3, none, none, none, none])
    (.reg [⟨[], [], .nop⟩, ⟨[], [], .nop⟩, ⟨[], [], .ln (.e 3) []⟩, ⟨[], [], .bi .sub (.e 8) (.c (.n 1))⟩, ⟨[], [], .sb true (.e 3) none (some (.e 9))⟩, ⟨[], [], .nop⟩] [none, none, some 2, some 10, none, none, none, none]))))))))
 ((.seq (.reg [⟨[], [], .nop⟩, ⟨[], [], .nop⟩] [none, some 2, none, none, none, none, none, none])
 (.ret))))))))))))⟩

/-- loop.example/g03401/spec.l31Sorted -/
def ir_spec_l31Sorted : IF := ⟨[], 1, 5, [1],
 (.seq (.reg [⟨[], [], .cs .v (.b false)⟩] [some 0, none, none, none, none])
 ((.seq ((.seq (.reg [⟨[], [], .cs .v (.n 0)⟩] [some 0, none, some 5, none, none])
 (.block 0 (.loop ((.seq ((.seq (.reg [⟨[], [], .nop⟩, ⟨[], [], .nop⟩, ⟨[], [], .ln (.e 0) []⟩, ⟨[], [], .bi .lss (.e 2) (.e 5)⟩] [some 0, none, some 2, some 6, none])
   (.cond 3 (.skip) (.exit 0))))
   ((.seq (.block 1 ((.seq (.reg [⟨[], [], .nop⟩, ⟨[], [], .nop⟩, ⟨[], [], .iy (.e 0) (.e 2)⟩, ⟨[], [], .nop⟩, ⟨[], [], .nop⟩, ⟨[], [], .bi .neq (.e 5) (.e 2)⟩] [some 0, none, some 2, none, some 6])
    (.cond 4 ((.seq (.reg [⟨[], [], .cs .v (.b false)⟩] [none, some 5, none, none, none])
     (.ret))) (.skip)))))
   (.reg [⟨[], [], .nop⟩, ⟨[], [], .bi .add (.e 2) (.c (.n 1))⟩, ⟨[], [], .nop⟩] [some 0, none, some 5, none, none])))))))))
 ((.seq (.reg [⟨[], [], .cs .v (.b true)⟩] [none, some 5, none, none, none])
 (.ret))))))⟩

end Go.Cat

namespace Go.Cat
/-- loop.example/g03401/spec.ClaimOfSorting -/
def ir_spec_ClaimOfSorting : IF := ⟨[(0, 7)], 1, 9, [1, 2],
 (.seq (.reg [⟨[], [], .cs (.b (.o (.o (.o .v)))) (.g [(.n 0), (.s []), (.s []), (.l []), (.l []), (.l []), (.l [])])⟩, ⟨[], [], .cs .v (.b false)⟩] [some 0, some 9, none, none, none, none, none, none, none])
 ((.seq (.reg [⟨[], [], .nop⟩, ⟨[], [], .ca 156 [(.e 0)] 2⟩, ⟨[], [], .nop⟩, ⟨[], [], .nop⟩, ⟨[], [], .nop⟩, ⟨[], [], .nop⟩, ⟨[], [], .nop⟩] [some 0, some 1, none, some 9, some 10, none, none, none, none])
 ((.seq ((.seq (.reg [⟨[], [], .nop⟩] [some 0, some 1, none, some 3, none, none, none, some 4, none])
 (.cond 7 ((.seq (.reg [⟨[], [], .nop⟩, ⟨[], [], .li (.o .v) []⟩, ⟨[], [], .nop⟩, ⟨[], [], .ap true (.e 9) (.e 0)⟩, ⟨[], [], .bg 3 [((.c (.n 3)), 0), ((.e 3), 0), ((.c (.s [])), 0), ((.c (.l [])), 1), ((.e 10), 1), ((.c (.l [])), 1), ((.c (.l [])), 1)]⟩, ⟨[], [], .ws 1 7 (.e 11)⟩, ⟨[], [], .cs .v (.b true)⟩] [none, some 12, some 13, none, none, none, none, none, none])
  (.ret))) (.skip))))
 ((.seq (.reg [⟨[], [], .nop⟩, ⟨[], [], .ca 49 [(.e 0)] 2⟩, ⟨[], [], .nop⟩, ⟨[], [], .nop⟩, ⟨[], [], .nop⟩, ⟨[], [], .nop⟩, ⟨[], [], .nop⟩] [some 0, some 1, none, none, none, some 9, some 10, none, none])
 ((.seq ((.seq (.reg [⟨[], [], .nop⟩, ⟨[], [], .un .not (.e 6)⟩] [some 0, some 1, none, none, none, some 5, none, none, some 9])
 (.cond 8 ((.seq (.reg [⟨[], [], .bg 3 [((.c (.n 0)), 0), ((.c (.s [])), 0), ((.c (.s [])), 0), ((.c (.l [])), 1), ((.c (.l [])), 1), ((.c (.l [])), 1), ((.c (.l [])), 1)]⟩, ⟨[], [], .ws 1 7 (.e 9)⟩, ⟨[], [], .cs .v (.b false)⟩] [none, some 10, some 11, none, none, none, none, none, none])
  (.ret))) (.skip))))
 ((.seq (.reg [⟨[], [], .li (.o .v) []⟩, ⟨[], [], .nop⟩, ⟨[], [], .ap true (.e 9) (.e 0)⟩, ⟨[], [], .nop⟩, ⟨[], [], .bg 3 [((.c (.n 4)), 0), ((.c (.s [])), 0), ((.c (.s [])), 0), ((.c (.l [])), 1), ((.e 10), 1), ((.e 5), 1), ((.c (.l [])), 1)]⟩, ⟨[], [], .ws 1 7 (.e 11)⟩, ⟨[], [], .cs .v (.b true)⟩] [none, some 12, some 13, none, none, none, none, none, none])
 (.ret))))))))))))⟩

/-- loop.example/g03401/spec.EqualClaims -/
def ir_spec_EqualClaims : IF := ⟨[], 2, 5, [4],
 (.seq (.reg [⟨[], [], .bp (.e 0)⟩, ⟨[], [], .bp (.e 1)⟩, ⟨[], [], .cs .v (.b false)⟩] [none, none, some 5, some 6, none])
 ((.seq (.reg [⟨[], [], .fp true (.e 2) 0⟩, ⟨[], [], .nop⟩, ⟨[], [], .fp true (.e 3) 0⟩, ⟨[], [], .nop⟩, ⟨[], [], .bi .eql (.e 5) (.e 6)⟩, ⟨[], [], .nop⟩, ⟨[], [(7, true)], .fp true (.e 2) 1⟩, ⟨[], [(7, true)], .nop⟩, ⟨[], [(7, true)], .fp true (.e 3) 1⟩, ⟨[], [(7, true)], .nop⟩, ⟨[], [(7, true)], .bi .eql (.e 8) (.e 9)⟩, ⟨[], [], .pk (.e 7) (.e 10) (.c (.b false))⟩, ⟨[], [], .nop⟩, ⟨[], [(11, true)], .fp true (.e 2) 2⟩, ⟨[], [(11, true)], .nop⟩, ⟨[], [(11, true)], .fp true (.e 3) 2⟩, ⟨[], [(11, true)], .nop⟩, ⟨[], [(11, true)], .bi .eql (.e 12) (.e 13)⟩, ⟨[], [], .pk (.e 11) (.e 14) (.c (.b false))⟩, ⟨[], [], .nop⟩, ⟨[], [(15, true)], .fp false (.e 2) 3⟩, ⟨[], [(15, true)], .nop⟩, ⟨[], [(15, true)], .fp false (.e 3) 3⟩, ⟨[], [(15, true)], .nop⟩, ⟨[], [(15, true)], .ca 148 [(.e 16), (.e 17)] 1⟩, ⟨[], [], .pk (.e 15) (.e 18) (.c (.b false))⟩, ⟨[], [], .nop⟩, ⟨[], [(19, true)], .fp false (.e 2) 4⟩, ⟨[], [(19, true)], .nop⟩, ⟨[], [(19, true)], .fp false (.e 3) 4⟩, ⟨[], [(19, true)], .nop⟩, ⟨[], [(19, true)], .ca 149 [(.e 20), (.e 21)] 1⟩, ⟨[], [], .pk (.e 19) (.e 22) (.c (.b false))⟩, ⟨[], [], .nop⟩, ⟨[], [(23, true)], .fp false (.e 2) 5⟩, ⟨[], [(23, true)], .nop⟩, ⟨[], [(23, true)], .fp false (.e 3) 5⟩, ⟨[], [(23, true)], .nop⟩, ⟨[], [(23, true)], .ca 149 [(.e 24), (.e 25)] 1⟩, ⟨[], [], .pk (.e 23) (.e 26) (.c (.b false))⟩, ⟨[], [], .nop⟩, ⟨[], [(27, true)], .fp false (.e 2) 6⟩, ⟨[], [(27, true)], .nop⟩, ⟨[], [(27, true)], .fp false (.e 3) 6⟩, ⟨[], [(27, true)], .nop⟩, ⟨[], [(27, true)], .ca 150 [(.e 28), (.e 29)] 1⟩, ⟨[], [], .pk (.e 27) (.e 30) (.c (.b false))⟩, ⟨[], [], .nop⟩] [none, none, none, none, some 31])
 (.ret))))⟩

/-- loop.example/g03401/spec.l33SameTables -/
def ir_spec_l33SameTables : IF := ⟨[], 2, 7, [2],
 (.seq (.reg [⟨[], [], .cs .v (.b false)⟩] [some 0, some 1, none, none, none, none, none])
 ((.seq ((.seq (.reg [⟨[], [], .nop⟩, ⟨[], [], .ln (.e 0) []⟩, ⟨[], [], .nop⟩, ⟨[], [], .ln (.e 1) []⟩, ⟨[], [], .bi .neq (.e 7) (.e 8)⟩] [some 0, some 1, none, none, some 9, none, none])
 (.cond 4 ((.seq (.reg [⟨[], [], .cs .v (.b false)⟩] [none, none, some 7, none, none, none, none])
  (.ret))) (.skip))))
 ((.seq ((.seq (.reg [⟨[], [], .cs .v (.n 0)⟩] [some 0, some 1, none, some 7, none, none, none])
 (.block 0 (.loop ((.seq ((.seq (.reg [⟨[], [], .nop⟩, ⟨[], [], .nop⟩, ⟨[], [], .ln (.e 0) []⟩, ⟨[], [], .bi .lss (.e 3) (.e 7)⟩] [some 0, some 1, none, some 3, none, some 8, none])
   (.cond 5 (.skip) (.exit 0))))
   ((.seq (.block 1 ((.seq (.reg [⟨[], [], .nop⟩, ⟨[], [], .nop⟩, ⟨[], [], .ix (.e 0) [] (.e 3)⟩, ⟨[], [], .nop⟩, ⟨[], [], .nop⟩, ⟨[], [], .nop⟩, ⟨[], [], .ix (.e 1) [] (.e 3)⟩, ⟨[], [], .nop⟩, ⟨[], [], .ca 149 [(.e 7), (.e 8)] 1⟩, ⟨[], [], .un .not (.e 9)⟩] [some 0, some 1, none, some 3, none, none, some 10])
    (.cond 6 ((.seq (.reg [⟨[], [], .cs .v (.b false)⟩] [none, none, some 7, none, none, none, none])
     (.ret))) (.skip)))))
   (.reg [⟨[], [], .nop⟩, ⟨[], [], .bi .add (.e 3) (.c (.n 1))⟩, ⟨[], [], .nop⟩] [some 0, some 1, none, some 7, none, none, none])))))))))
 ((.seq (.reg [⟨[], [], .cs .v (.b true)⟩] [none, none, some 7, none, none, none, none])
 (.ret))))))))⟩

/-- loop.example/g03401/spec.l33SameTexts -/
def ir_spec_l33SameTexts : IF := ⟨[], 2, 7, [2],
 (.seq (.reg [⟨[], [], .cs .v (.b false)⟩] [some 0, some 1, none, none, none, none, none])
 ((.seq ((.seq (.reg [⟨[], [], .nop⟩, ⟨[], [], .ln (.e 0) []⟩, ⟨[], [], .nop⟩, ⟨[], [], .ln (.e 1) []⟩, ⟨[], [], .bi .neq (.e 7) (.e 8)⟩] [some 0, some 1, none, none, some 9, none, none])
 (.cond 4 ((.seq (.reg [⟨[], [], .cs .v (.b false)⟩] [none, none, some 7, none, none, none, none])
  (.ret))) (.skip))))
 ((.seq ((.seq (.reg [⟨[], [], .cs .v (.n 0)⟩] [some 0, some 1, none, some 7, none, none, none])
 (.block 0 (.loop ((.seq ((.seq (.reg [⟨[], [], .nop⟩, ⟨[], [], .nop⟩, ⟨[], [], .ln (.e 0) []⟩, ⟨[], [], .bi .lss (.e 3) (.e 7)⟩] [some 0, some 1, none, some 3, none, some 8, none])
   (.cond 5 (.skip) (.exit 0))))
   ((.seq (.block 1 ((.seq (.reg [⟨[], [], .nop⟩, ⟨[], [], .nop⟩, ⟨[], [], .iy (.e 0) (.e 3)⟩, ⟨[], [], .nop⟩, ⟨[], [], .nop⟩, ⟨[], [], .nop⟩, ⟨[], [], .iy (.e 1) (.e 3)⟩, ⟨[], [], .nop⟩, ⟨[], [], .bi .neq (.e 7) (.e 8)⟩] [some 0, some 1, none, some 3, none, none, some 9])
    (.cond 6 ((.seq (.reg [⟨[], [], .cs .v (.b false)⟩] [none, none, some 7, none, none, none, none])
     (.ret))) (.skip)))))
   (.reg [⟨[], [], .nop⟩, ⟨[], [], .bi .add (.e 3) (.c (.n 1))⟩, ⟨[], [], .nop⟩] [some 0, some 1, none, some 7, none, none, none])))))))))
 ((.seq (.reg [⟨[], [], .cs .v (.b true)⟩] [none, none, some 7, none, none, none, none])
 (.ret))))))))⟩

end Go.Cat

namespace Go.Cat
/-- cmp.Less[int] -/
def ir_cmp_Less_int_ : IF := ⟨[], 2, 3, [2],
 (.seq (.reg [⟨[], [], .cs .v (.b false)⟩] [some 0, some 1, none])
 ((.seq (.reg [⟨[], [], .nop⟩, ⟨[], [], .ca 211 [(.e 0)] 1⟩, ⟨[], [], .nop⟩, ⟨[], [(3, true)], .cy (.e 1)⟩, ⟨[], [(3, true)], .ca 211 [(.e 4)] 1⟩, ⟨[], [(3, true)], .un .not (.e 5)⟩, ⟨[], [], .pk (.e 3) (.e 6) (.c (.b false))⟩, ⟨[], [], .nop⟩, ⟨[], [(7, false)], .cy (.e 0)⟩, ⟨[], [(7, false)], .cy (.e 1)⟩, ⟨[], [(7, false)], .bi .lss (.e 8) (.e 9)⟩, ⟨[], [], .pk (.e 7) (.c (.b true)) (.e 10)⟩, ⟨[], [], .nop⟩] [none, none, some 11])
 (.ret))))⟩

/-- cmp.isNaN[int] -/
def ir_cmp_isNaN_int_ : IF := ⟨[], 1, 2, [1],
 (.seq (.reg [⟨[], [], .cs .v (.b false)⟩] [some 0, none])
 ((.seq (.reg [⟨[], [], .nop⟩, ⟨[], [], .nop⟩, ⟨[], [], .bi .neq (.e 0) (.e 0)⟩, ⟨[], [], .nop⟩] [none, some 2])
 (.ret))))⟩

/-- (*loop.example/g03401/impl.tree).find -/
def ir_impl_tree_find : IF := ⟨[], 2, 7, [2],
 (.seq (.reg [⟨[], [], .cs .v .z⟩] [some 0, some 1, none, none, none, none, none])
 ((.seq ((.seq (.reg [⟨[], [], .nop⟩, ⟨[], [], .nz true (.e 0)⟩, ⟨[], [], .nop⟩, ⟨[], [(7, false)], .cy (.e 1)⟩, ⟨[], [(7, false)], .bi .lss (.e 8) (.c (.n 0))⟩, ⟨[], [], .pk (.e 7) (.c (.b true)) (.e 9)⟩] [some 0, some 1, none, none, some 10, none, none])
 (.cond 4 ((.seq (.reg [⟨[], [], .cs .v .z⟩] [none, none, some 7, none, none, none, none])
  (.ret))) (.skip))))
 ((.seq (.reg [⟨[], [], .nop⟩, ⟨[], [], .nn (.e 0)⟩, ⟨[], [], .fp false (.e 7) 0⟩, ⟨[], [], .nop⟩, ⟨[], [], .ca 197 [(.e 8)] 1⟩, ⟨[], [], .nop⟩] [some 0, some 1, none, some 9, none, none, none])
 ((.seq (.block 0 ((.seq (.reg [⟨[], [], .nop⟩, ⟨[], [], .nop⟩, ⟨[], [], .bi .lss (.e 1) (.e 3)⟩, ⟨[], [], .nop⟩] [some 0, some 1, none, some 3, none, some 7, none])
  (.cond 5 ((.seq (.reg [⟨[], [], .nop⟩, ⟨[], [], .nn (.e 0)⟩, ⟨[], [], .fp false (.e 7) 0⟩, ⟨[], [], .nop⟩, ⟨[], [], .nop⟩, ⟨[], [], .ca 213 [(.e 8), (.e 1)] 1⟩, ⟨[], [], .nop⟩] [none, none, some 9, none, none, none, none])
   (.ret))) ((.seq (.reg [⟨[], [], .nop⟩, ⟨[], [], .nop⟩, ⟨[], [], .bi .eql (.e 1) (.e 3)⟩, ⟨[], [], .nop⟩] [some 0, some 1, none, some 3, none, none, some 7])
   (.cond 6 ((.seq (.reg [⟨[], [], .nop⟩, ⟨[], [], .nop⟩] [none, none, some 0, none, none, none, none])
    (.ret))) (.skip))))))))
 ((.seq (.reg [⟨[], [], .nop⟩, ⟨[], [], .nn (.e 0)⟩, ⟨[], [], .fp false (.e 7) 1⟩, ⟨[], [], .nop⟩, ⟨[], [], .nop⟩, ⟨[], [], .nop⟩, ⟨[], [], .bi .sub (.e 1) (.e 3)⟩, ⟨[], [], .bi .sub (.e 9) (.c (.n 1))⟩, ⟨[], [], .ca 213 [(.e 8), (.e 10)] 1⟩, ⟨[], [], .nop⟩] [none, none, some 11, none, none, none, none])
 (.ret))))))))))⟩

/-- (*loop.example/g03401/impl.tree).mirror -/
def ir_impl_tree_mirror : IF := ⟨[], 1, 3, [1],
 (.seq (.reg [⟨[], [], .cs .v .z⟩] [some 0, none, none])
 ((.seq ((.seq (.reg [⟨[], [], .nop⟩, ⟨[], [], .nz true (.e 0)⟩] [some 0, none, some 3])
 (.cond 2 ((.seq (.reg [⟨[], [], .cs .v .z⟩] [none, some 3, none])
  (.ret))) (.skip))))
 ((.seq (.reg [⟨[], [], .nop⟩, ⟨[], [], .nn (.e 0)⟩, ⟨[], [], .fp false (.e 3) 1⟩, ⟨[], [], .nop⟩, ⟨[], [], .ca 195 [(.e 4)] 1⟩, ⟨[], [], .nop⟩, ⟨[], [], .nn (.e 0)⟩, ⟨[], [], .fp false (.e 6) 0⟩, ⟨[], [], .nop⟩, ⟨[], [], .ca 195 [(.e 7)] 1⟩, ⟨[], [], .bg 0 [((.e 5), 0), ((.e 8), 0)]⟩, ⟨[], [], .bp (.e 9)⟩, ⟨[], [], .nop⟩] [none, some 10, none])
 (.ret))))))⟩

/-- (*loop.example/g03401/impl.tree).nodes -/
def ir_impl_tree_nodes : IF := ⟨[], 1, 3, [1],
 (.seq (.reg [⟨[], [], .cs .v (.n 0)⟩] [some 0, none, none])
 ((.seq ((.seq (.reg [⟨[], [], .nop⟩, ⟨[], [], .nz true (.e 0)⟩] [some 0, none, some 3])
 (.cond 2 ((.seq (.reg [⟨[], [], .cs .v (.n 0)⟩] [none, some 3, none])
  (.ret))) (.skip))))
 ((.seq (.reg [⟨[], [], .nop⟩, ⟨[], [], .nn (.e 0)⟩, ⟨[], [], .fp false (.e 3) 0⟩, ⟨[], [], .nop⟩, ⟨[], [], .ca 197 [(.e 4)] 1⟩, ⟨[], [], .nop⟩, ⟨[], [], .nn (.e 0)⟩, ⟨[], [], .fp false (.e 6) 1⟩, ⟨[], [], .nop⟩, ⟨[], [], .ca 197 [(.e 7)] 1⟩, ⟨[], [], .bi .add (.e 5) (.e 8)⟩, ⟨[], [], .bi .add (.e 9) (.c (.n 1))⟩, ⟨[], [], .nop⟩] [none, some 10, none])
 (.ret))))))⟩

/-- (*loop.example/g03401/impl.tree).text -/
def ir_impl_tree_text : IF := ⟨[], 1, 3, [1],
 (.seq (.reg [⟨[], [], .cs .v (.s [])⟩] [some 0, none, none])
 ((.seq ((.seq (.reg [⟨[], [], .nop⟩, ⟨[], [], .nz true (.e 0)⟩] [some 0, none, some 3])
 (.cond 2 ((.seq (.reg [⟨[], [], .cs .v (.s [46])⟩] [none, some 3, none])
  (.ret))) (.skip))))
 ((.seq (.reg [⟨[], [], .nop⟩, ⟨[], [], .nn (.e 0)⟩, ⟨[], [], .fp false (.e 3) 0⟩, ⟨[], [], .nop⟩, ⟨[], [], .ca 196 [(.e 4)] 1⟩, ⟨[], [], .bi .add (.c (.s [40])) (.e 5)⟩, ⟨[], [], .nop⟩, ⟨[], [], .nn (.e 0)⟩, ⟨[], [], .fp false (.e 7) 1⟩, ⟨[], [], .nop⟩, ⟨[], [], .ca 196 [(.e 8)] 1⟩, ⟨[], [], .bi .add (.e 6) (.e 9)⟩, ⟨[], [], .bi .add (.e 10) (.c (.s [41]))⟩, ⟨[], [], .nop⟩] [none, some 11, none])
 (.ret))))))⟩

/-- slices.Contains[[]int,int] -/
def ir_slices_Contains___int_int_ : IF := ⟨[], 2, 3, [2],
 (.seq (.reg [⟨[], [], .cs .v (.b false)⟩] [some 0, some 1, none])
 ((.seq (.reg [⟨[], [], .nop⟩, ⟨[], [], .nop⟩, ⟨[], [], .ca 179 [(.e 0), (.e 1)] 1⟩, ⟨[], [], .bi .geq (.e 3) (.c (.n 0))⟩, ⟨[], [], .nop⟩] [none, none, some 4])
 (.ret))))⟩

/-- slices.EqualFunc[[][]int,[][]int,[]int,[]int] -/
def ir_slices_EqualFunc_____int_____int___int___int_ : IF := ⟨[], 3, 13, [3],
 (.seq (.reg [⟨[], [], .cs .v (.b false)⟩] [some 0, some 1, some 2, none, none, none, none, none, none, none, none, none, none])
 ((.seq ((.seq (.reg [⟨[], [], .nop⟩, ⟨[], [], .ln (.e 0) []⟩, ⟨[], [], .nop⟩, ⟨[], [], .ln (.e 1) []⟩, ⟨[], [], .bi .neq (.e 13) (.e 14)⟩] [some 0, some 1, some 2, none, none, none, none, some 15, none, none, none, none, none])
 (.cond 7 ((.seq (.reg [⟨[], [], .cs .v (.b false)⟩] [none, none, none, some 13, none, none, none, none, none, none, none, none, none])
  (.ret))) (.skip))))
 ((.seq ((.seq (.reg [⟨[], [], .nop⟩, ⟨[], [], .ln (.e 0) []⟩, ⟨[], [], .cs .v (.n 0)⟩] [none, some 1, some 2, none, none, none, none, none, some 0, some 13, some 14, none, none])
 (.block 0 (.loop ((.seq (.reg [⟨[], [], .bi .lss (.e 10) (.e 9)⟩] [none, some 1, some 2, none, none, none, none, none, some 8, some 9, some 10, some 13, none])
   ((.seq (.cond 11 (.skip) (.exit 0))
   ((.seq (.block 1 ((.seq (.reg [⟨[], [], .nop⟩, ⟨[], [], .ix (.e 8) [] (.e 10)⟩, ⟨[], [], .nop⟩, ⟨[], [], .nop⟩, ⟨[], [], .nop⟩] [none, some 1, some 2, none, some 10, some 13, none, none, some 8, some 9, some 10, none, none])
    ((.seq (.reg [⟨[], [], .nop⟩, ⟨[], [], .nop⟩, ⟨[], [], .ix (.e 1) [] (.e 4)⟩, ⟨[], [], .nop⟩, ⟨[], [], .nop⟩] [none, some 1, some 2, none, none, some 5, some 13, none, some 8, some 9, some 10, none, none])
    ((.seq (.reg [⟨[], [], .nop⟩, ⟨[], [], .nop⟩, ⟨[], [], .nop⟩, ⟨[], [], .cd (.e 2) 72 [(.e 5), (.e 6)] 1⟩, ⟨[], [], .un .not (.e 13)⟩] [none, some 1, some 2, none, none, none, none, none, some 8, some 9, some 10, none, some 14])
    (.cond 12 ((.seq (.reg [⟨[], [], .cs .v (.b false)⟩] [none, none, none, some 13, none, none, none, none, none, none, none, none, none])
     (.ret))) (.skip)))))))))
   (.reg [⟨[], [], .bi .add (.e 10) (.c (.n 1))⟩, ⟨[], [], .nop⟩] [none, some 1, some 2, none, none, none, none, none, some 8, some 9, some 13, none, none])))))))))))
 ((.seq (.reg [⟨[], [], .cs .v (.b true)⟩] [none, none, none, some 13, none, none, none, none, none, none, none, none, none])
 (.ret))))))))⟩

/-- slices.Equal[[]string,string] -/
def ir_slices_Equal___string_string_ : IF := ⟨[], 2, 9, [2],
 (.seq (.reg [⟨[], [], .cs .v (.b false)⟩] [some 0, some 1, none, none, none, none, none, none, none])
 ((.seq ((.seq (.reg [⟨[], [], .nop⟩, ⟨[], [], .ln (.e 0) []⟩, ⟨[], [], .nop⟩, ⟨[], [], .ln (.e 1) []⟩, ⟨[], [], .bi .neq (.e 9) (.e 10)⟩] [some 0, some 1, none, none, some 11, none, none, none, none])
 (.cond 4 ((.seq (.reg [⟨[], [], .cs .v (.b false)⟩] [none, none, some 9, none, none, none, none, none, none])
  (.ret))) (.skip))))
 ((.seq ((.seq (.reg [⟨[], [], .nop⟩, ⟨[], [], .ln (.e 0) []⟩, ⟨[], [], .cs .v (.n 0)⟩] [some 0, some 1, none, none, none, some 9, some 10, none, none])
 (.block 0 (.loop ((.seq (.reg [⟨[], [], .bi .lss (.e 6) (.e 5)⟩] [some 0, some 1, none, none, none, some 5, some 6, some 9, none])
   ((.seq (.cond 7 (.skip) (.exit 0))
   ((.seq (.block 1 ((.seq (.reg [⟨[], [], .nop⟩, ⟨[], [], .nop⟩] [some 0, some 1, none, some 6, none, some 5, some 6, none, none])
    ((.seq (.reg [⟨[], [], .nop⟩, ⟨[], [], .nop⟩, ⟨[], [], .iy (.e 0) (.e 3)⟩, ⟨[], [], .nop⟩, ⟨[], [], .nop⟩, ⟨[], [], .nop⟩, ⟨[], [], .iy (.e 1) (.e 3)⟩, ⟨[], [], .nop⟩, ⟨[], [], .bi .neq (.e 9) (.e 10)⟩] [some 0, some 1, none, none, none, some 5, some 6, none, some 11])
    (.cond 8 ((.seq (.reg [⟨[], [], .cs .v (.b false)⟩] [none, none, some 9, none, none, none, none, none, none])
     (.ret))) (.skip)))))))
   (.reg [⟨[], [], .bi .add (.e 6) (.c (.n 1))⟩, ⟨[], [], .nop⟩] [some 0, some 1, none, none, none, some 5, some 9, none, none])))))))))))
 ((.seq (.reg [⟨[], [], .cs .v (.b true)⟩] [none, none, some 9, none, none, none, none, none, none])
 (.ret))))))))⟩

/-- slices.Index[[]int,int] -/
def ir_slices_Index___int_int_ : IF := ⟨[], 2, 8, [2],
 (.seq (.reg [⟨[], [], .cs .v (.n 0)⟩] [some 0, some 1, none, none, none, none, none, none])
 ((.seq ((.seq (.reg [⟨[], [], .nop⟩, ⟨[], [], .ln (.e 0) []⟩, ⟨[], [], .cs .v (.n 0)⟩] [some 0, some 1, none, none, some 8, some 9, none, none])
 (.block 0 (.loop ((.seq (.reg [⟨[], [], .bi .lss (.e 5) (.e 4)⟩] [some 0, some 1, none, none, some 4, some 5, some 8, none])
   ((.seq (.cond 6 (.skip) (.exit 0))
   ((.seq (.block 1 ((.seq (.reg [⟨[], [], .nop⟩, ⟨[], [], .nop⟩] [some 0, some 1, none, some 5, some 4, some 5, none, none])
    ((.seq (.reg [⟨[], [], .nop⟩, ⟨[], [], .nop⟩, ⟨[], [], .nop⟩, ⟨[], [], .iy (.e 0) (.e 3)⟩, ⟨[], [], .nop⟩, ⟨[], [], .bi .eql (.e 1) (.e 8)⟩] [some 0, some 1, none, some 3, some 4, some 5, none, some 9])
    (.cond 7 ((.seq (.reg [⟨[], [], .nop⟩, ⟨[], [], .nop⟩] [none, none, some 3, none, none, none, none, none])
     (.ret))) (.skip)))))))
   (.reg [⟨[], [], .bi .add (.e 5) (.c (.n 1))⟩, ⟨[], [], .nop⟩] [some 0, some 1, none, none, some 4, some 8, none, none])))))))))))
 ((.seq (.reg [⟨[], [], .cs .v (.n (-1))⟩] [none, none, some 8, none, none, none, none, none])
 (.ret))))))⟩

/-- slices.IsSorted[[]int,int] -/
def ir_slices_IsSorted___int_int_ : IF := ⟨[], 1, 5, [1],
 (.seq (.reg [⟨[], [], .cs .v (.b false)⟩] [some 0, none, none, none, none])
 ((.seq ((.seq (.reg [⟨[], [], .nop⟩, ⟨[], [], .ln (.e 0) []⟩, ⟨[], [], .bi .sub (.e 5) (.c (.n 1))⟩, ⟨[], [], .nop⟩] [some 0, none, some 6, none, none])
 (.block 0 (.loop ((.seq ((.seq (.reg [⟨[], [], .nop⟩, ⟨[], [], .bi .gtr (.e 2) (.c (.n 0))⟩] [some 0, none, some 2, some 5, none])
   (.cond 3 (.skip) (.exit 0))))
   ((.seq (.block 1 ((.seq (.reg [⟨[], [], .nop⟩, ⟨[], [], .nop⟩, ⟨[], [], .iy (.e 0) (.e 2)⟩, ⟨[], [], .nop⟩, ⟨[], [], .nop⟩, ⟨[], [], .nop⟩, ⟨[], [], .bi .sub (.e 2) (.c (.n 1))⟩, ⟨[], [], .iy (.e 0) (.e 6)⟩, ⟨[], [], .nop⟩, ⟨[], [], .ca 203 [(.e 5), (.e 7)] 1⟩] [some 0, none, some 2, none, some 8])
    (.cond 4 ((.seq (.reg [⟨[], [], .cs .v (.b false)⟩] [none, some 5, none, none, none])
     (.ret))) (.skip)))))
   (.reg [⟨[], [], .nop⟩, ⟨[], [], .bi .sub (.e 2) (.c (.n 1))⟩, ⟨[], [], .nop⟩] [some 0, none, some 5, none, none])))))))))
 ((.seq (.reg [⟨[], [], .cs .v (.b true)⟩] [none, some 5, none, none, none])
 (.ret))))))⟩

/-- slices.Reverse[[]int,int] -/
def ir_slices_Reverse___int_int_ : IF := ⟨[], 1, 4, [0],
 (.seq (.reg [⟨[], [], .nop⟩, ⟨[], [], .ln (.e 0) []⟩, ⟨[], [], .bi .sub (.e 4) (.c (.n 1))⟩, ⟨[], [], .cs .v (.n 0)⟩, ⟨[], [], .nop⟩] [some 0, some 6, some 5, none])
 (.block 0 (.loop ((.seq ((.seq (.reg [⟨[], [], .nop⟩, ⟨[], [], .nop⟩, ⟨[], [], .bi .lss (.e 1) (.e 2)⟩] [some 0, some 1, some 2, some 4])
   (.cond 3 (.skip) (.exit 0))))
   ((.seq (.block 1 (.reg [⟨[], [], .nop⟩, ⟨[], [], .nop⟩, ⟨[], [], .nop⟩, ⟨[], [], .nop⟩, ⟨[], [], .nop⟩, ⟨[], [], .nop⟩, ⟨[], [], .ix (.e 0) [] (.e 2)⟩, ⟨[], [], .nop⟩, ⟨[], [], .nop⟩, ⟨[], [], .nop⟩, ⟨[], [], .ix (.e 0) [] (.e 1)⟩, ⟨[], [], .nop⟩, ⟨[], [], .ix (.e 0) [] (.e 1)⟩, ⟨[], [], .up 0 [.e 1] (.e 4)⟩, ⟨[], [], .ix (.e 7) [] (.e 2)⟩, ⟨[], [], .up 7 [.e 2] (.e 5)⟩] [some 9, some 1, some 2, none]))
   (.reg [⟨[], [], .nop⟩, ⟨[], [], .bi .add (.e 1) (.c (.n 1))⟩, ⟨[], [], .nop⟩, ⟨[], [], .bi .sub (.e 2) (.c (.n 1))⟩, ⟨[], [], .nop⟩, ⟨[], [], .nop⟩] [some 0, some 4, some 5, none]))))))))⟩

end Go.Cat

namespace Go.Cat
/-- loop.example/g03401/spec.StatisticOf -/
def ir_spec_StatisticOf : IF := ⟨[], 2, 17, [2],
 (.seq (.reg [⟨[], [], .cs .v (.n 0)⟩] [some 0, some 1, none, none, none, none, none, none, none, none, none, none, none, none, none, none, none])
 ((.seq ((.seq (.reg [⟨[], [], .nop⟩, ⟨[], [], .ca 64 [(.e 1)] 1⟩, ⟨[], [], .un .not (.e 17)⟩] [some 0, some 1, none, none, none, none, some 18, none, none, none, none, none, none, none, none, none, none])
 (.cond 6 ((.seq (.reg [⟨[], [], .cs .v (.n (-1))⟩] [none, none, some 17, none, none, none, none, none, none, none, none, none, none, none, none, none, none])
  (.ret))) (.skip))))
 ((.seq ((.seq (.reg [⟨[], [], .nop⟩] [none, some 1, none, none, none, none, none, some 0, none, none, none, none, none, none, none, none, none])
 (.block 0 ((.seq (.reg [⟨[], [], .bi .eql (.e 7) (.c (.s [112, 101, 97, 107, 115]))⟩, ⟨[], [], .nop⟩] [none, some 1, none, none, none, none, none, some 7, some 17, none, none, none, none, none, none, none, none])
  (.cond 8 ((.seq (.reg [⟨[], [], .nop⟩, ⟨[], [], .ca 293 [(.e 1)] 1⟩, ⟨[], [], .nop⟩] [none, none, some 17, none, none, none, none, none, none, none, none, none, none, none, none, none, none])
   (.ret))) ((.seq (.reg [⟨[], [], .bi .eql (.e 7) (.c (.s [114, 101, 116, 117, 114, 110, 115]))⟩, ⟨[], [], .nop⟩] [none, some 1, none, none, none, none, none, some 7, none, some 17, none, none, none, none, none, none, none])
   (.cond 9 ((.seq (.reg [⟨[], [], .nop⟩, ⟨[], [], .ca 294 [(.e 1)] 1⟩, ⟨[], [], .nop⟩] [none, none, some 17, none, none, none, none, none, none, none, none, none, none, none, none, none, none])
    (.ret))) ((.seq (.reg [⟨[], [], .bi .eql (.e 7) (.c (.s [114, 105, 115, 101]))⟩, ⟨[], [], .nop⟩] [none, some 1, none, none, none, none, none, some 7, none, none, some 17, none, none, none, none, none, none])
    (.cond 10 ((.seq (.reg [⟨[], [], .nop⟩, ⟨[], [], .ca 295 [(.e 1), (.c (.b false))] 1⟩, ⟨[], [], .nop⟩] [none, none, some 17, none, none, none, none, none, none, none, none, none, none, none, none, none, none])
     (.ret))) ((.seq (.reg [⟨[], [], .bi .eql (.e 7) (.c (.s [102, 97, 108, 108]))⟩, ⟨[], [], .nop⟩] [none, some 1, none, none, none, none, none, some 7, none, none, none, some 17, none, none, none, none, none])
     (.cond 11 ((.seq (.reg [⟨[], [], .nop⟩, ⟨[], [], .ca 295 [(.e 1), (.c (.b true))] 1⟩, ⟨[], [], .nop⟩] [none, none, some 17, none, none, none, none, none, none, none, none, none, none, none, none, none, none])
      (.ret))) ((.seq (.reg [⟨[], [], .bi .eql (.e 7) (.c (.s [97, 114, 101, 97]))⟩, ⟨[], [], .nop⟩] [none, some 1, none, none, none, none, none, some 7, none, none, none, none, some 17, none, none, none, none])
      (.cond 12 ((.seq (.reg [⟨[], [], .nop⟩, ⟨[], [], .ca 296 [(.e 1)] 1⟩, ⟨[], [], .nop⟩] [none, none, some 17, none, none, none, none, none, none, none, none, none, none, none, none, none, none])
       (.ret))) ((.seq (.reg [⟨[], [], .bi .eql (.e 7) (.c (.s [100, 101, 112, 116, 104]))⟩, ⟨[], [], .nop⟩] [none, some 1, none, none, none, none, none, some 7, none, none, none, none, none, some 17, none, none, none])
       (.cond 13 ((.seq (.reg [⟨[], [], .nop⟩, ⟨[], [], .ca 297 [(.e 1)] 2⟩, ⟨[], [], .nop⟩, ⟨[], [], .nop⟩, ⟨[], [], .nop⟩, ⟨[], [], .nop⟩, ⟨[], [], .nop⟩] [none, none, none, some 17, none, none, none, none, none, none, none, none, none, none, none, none, none])
        ((.seq (.reg [⟨[], [], .nop⟩, ⟨[], [], .ca 298 [(.e 3)] 1⟩, ⟨[], [], .nop⟩] [none, none, some 17, none, none, none, none, none, none, none, none, none, none, none, none, none, none])
        (.ret))))) ((.seq (.reg [⟨[], [], .bi .eql (.e 7) (.c (.s [108, 101, 97, 118, 101, 115]))⟩, ⟨[], [], .nop⟩] [none, some 1, none, none, none, none, none, some 7, none, none, none, none, none, none, some 17, none, none])
        (.cond 14 ((.seq (.reg [⟨[], [], .nop⟩, ⟨[], [], .ca 299 [(.e 1)] 2⟩, ⟨[], [], .nop⟩, ⟨[], [], .nop⟩, ⟨[], [], .nop⟩, ⟨[], [], .nop⟩, ⟨[], [], .nop⟩] [none, none, none, none, some 17, none, none, none, none, none, none, none, none, none, none, none, none])
         ((.seq (.reg [⟨[], [], .nop⟩, ⟨[], [], .ca 300 [(.e 4)] 1⟩, ⟨[], [], .nop⟩] [none, none, some 17, none, none, none, none, none, none, none, none, none, none, none, none, none, none])
         (.ret))))) ((.seq (.reg [⟨[], [], .bi .eql (.e 7) (.c (.s [98, 108, 111, 99, 107, 115]))⟩, ⟨[], [], .nop⟩] [none, some 1, none, none, none, none, none, some 7, none, none, none, none, none, none, none, some 17, none])
         (.cond 15 ((.seq (.reg [⟨[], [], .nop⟩, ⟨[], [], .ca 301 [(.e 1)] 2⟩, ⟨[], [], .nop⟩, ⟨[], [], .nop⟩, ⟨[], [], .nop⟩, ⟨[], [], .nop⟩, ⟨[], [], .nop⟩] [none, none, none, none, none, some 17, none, none, none, none, none, none, none, none, none, none, none])
          ((.seq (.reg [⟨[], [], .nop⟩, ⟨[], [], .ca 302 [(.e 5)] 1⟩, ⟨[], [], .ln (.e 17) []⟩, ⟨[], [], .nop⟩] [none, none, some 18, none, none, none, none, none, none, none, none, none, none, none, none, none, none])
          (.ret))))) ((.seq (.reg [⟨[], [], .bi .eql (.e 7) (.c (.s [109, 97, 106, 111, 114]))⟩, ⟨[], [], .nop⟩] [none, some 1, none, none, none, none, none, none, none, none, none, none, none, none, none, none, some 17])
          (.cond 16 ((.seq (.reg [⟨[], [], .nop⟩, ⟨[], [], .ca 303 [(.e 1)] 1⟩, ⟨[], [], .nop⟩] [none, none, some 17, none, none, none, none, none, none, none, none, none, none, none, none, none, none])
           (.ret))) (.skip)))))))))))))))))))))))))))))))
 ((.seq (.reg [⟨[], [], .cs .v (.n (-1))⟩] [none, none, some 17, none, none, none, none, none, none, none, none, none, none, none, none, none, none])
 (.ret))))))))⟩

/-- loop.example/g03401/spec.l13Run -/
def ir_spec_l13Run : IF := ⟨[], 2, 5, [2],
 (.seq (.reg [⟨[], [], .cs .v (.n 0)⟩] [some 0, some 1, none, none, none])
 ((.seq (.reg [⟨[], [], .cs .v (.n 0)⟩] [some 0, some 1, none, some 5, none])
 ((.seq (.block 0 (.loop ((.seq ((.seq (.reg [⟨[], [], .nop⟩, ⟨[], [], .nop⟩, ⟨[], [], .sn (.e 0)⟩, ⟨[], [], .bi .lss (.e 3) (.e 5)⟩, ⟨[], [], .nop⟩, ⟨[], [(6, true)], .cy (.e 1)⟩, ⟨[], [(6, true)], .un .not (.e 7)⟩, ⟨[], [(6, true)], .cy (.e 8)⟩, ⟨[], [(6, true), (9, true)], .cy (.e 0)⟩, ⟨[], [(6, true), (9, true)], .cy (.e 3)⟩, ⟨[], [(6, true), (9, true)], .sx (.e 10) (.e 11)⟩, ⟨[], [(6, true), (9, true)], .bi .eql (.e 12) (.c (.y 117))⟩, ⟨[], [(6, true)], .pk (.e 9) (.e 13) (.c (.b false))⟩, ⟨[], [(6, true)], .cy (.e 14)⟩, ⟨[], [(6, true), (15, false)], .cy (.e 1)⟩, ⟨[], [(6, true), (15, false)], .cy (.e 16)⟩, ⟨[], [(6, true), (15, false), (17, true)], .cy (.e 0)⟩, ⟨[], [(6, true), (15, false), (17, true)], .cy (.e 0)⟩, ⟨[], [(6, true), (15, false), (17, true)], .sn (.e 19)⟩, ⟨[], [(6, true), (15, false), (17, true)], .bi .sub (.e 20) (.c (.n 1))⟩, ⟨[], [(6, true), (15, false), (17, true)], .cy (.e 3)⟩, ⟨[], [(6, true), (15, false), (17, true)], .bi .sub (.e 21) (.e 22)⟩, ⟨[], [(6, true), (15, false), (17, true)], .sx (.e 18) (.e 23)⟩, ⟨[], [(6, true), (15, false), (17, true)], .bi .eql (.e 24) (.c (.y 100))⟩, ⟨[], [(6, true), (15, false)], .pk (.e 17) (.e 25) (.c (.b false))⟩, ⟨[], [(6, true)], .pk (.e 15) (.c (.b true)) (.e 26)⟩, ⟨[], [], .pk (.e 6) (.e 27) (.c (.b false))⟩] [some 0, some 1, none, some 3, some 28])
   (.cond 4 (.skip) (.exit 0))))
   (.block 1 (.reg [⟨[], [], .nop⟩, ⟨[], [], .bi .add (.e 3) (.c (.n 1))⟩, ⟨[], [], .nop⟩] [some 0, some 1, none, some 5, none]))))))
 ((.seq (.reg [⟨[], [], .nop⟩, ⟨[], [], .nop⟩] [none, none, some 3, none, none])
 (.ret))))))))⟩

/-- loop.example/g03401/spec.l13Same -/
def ir_spec_l13Same : IF := ⟨[], 2, 7, [2],
 (.seq (.reg [⟨[], [], .cs .v (.b false)⟩] [some 0, some 1, none, none, none, none, none])
 ((.seq ((.seq (.reg [⟨[], [], .nop⟩, ⟨[], [], .ln (.e 0) []⟩, ⟨[], [], .nop⟩, ⟨[], [], .ln (.e 1) []⟩, ⟨[], [], .bi .neq (.e 7) (.e 8)⟩] [some 0, some 1, none, none, some 9, none, none])
 (.cond 4 ((.seq (.reg [⟨[], [], .cs .v (.b false)⟩] [none, none, some 7, none, none, none, none])
  (.ret))) (.skip))))
 ((.seq ((.seq (.reg [⟨[], [], .cs .v (.n 0)⟩] [some 0, some 1, none, some 7, none, none, none])
 (.block 0 (.loop ((.seq ((.seq (.reg [⟨[], [], .nop⟩, ⟨[], [], .nop⟩, ⟨[], [], .ln (.e 0) []⟩, ⟨[], [], .bi .lss (.e 3) (.e 7)⟩] [some 0, some 1, none, some 3, none, some 8, none])
   (.cond 5 (.skip) (.exit 0))))
   ((.seq (.block 1 ((.seq (.reg [⟨[], [], .nop⟩, ⟨[], [], .nop⟩, ⟨[], [], .iy (.e 0) (.e 3)⟩, ⟨[], [], .nop⟩, ⟨[], [], .nop⟩, ⟨[], [], .nop⟩, ⟨[], [], .iy (.e 1) (.e 3)⟩, ⟨[], [], .nop⟩, ⟨[], [], .bi .neq (.e 7) (.e 8)⟩] [some 0, some 1, none, some 3, none, none, some 9])
    (.cond 6 ((.seq (.reg [⟨[], [], .cs .v (.b false)⟩] [none, none, some 7, none, none, none, none])
     (.ret))) (.skip)))))
   (.reg [⟨[], [], .nop⟩, ⟨[], [], .bi .add (.e 3) (.c (.n 1))⟩, ⟨[], [], .nop⟩] [some 0, some 1, none, some 7, none, none, none])))))))))
 ((.seq (.reg [⟨[], [], .cs .v (.b true)⟩] [none, none, some 7, none, none, none, none])
 (.ret))))))))⟩

end Go.Cat

namespace Go.Cat
/-- loop.example/g03401/laws.FnExactEqualClaims -/
def ir_laws_FnExactEqualClaims : IF := ⟨[], 2, 15, [4],
 (.seq (.reg [⟨[], [], .bp (.e 0)⟩, ⟨[], [], .bp (.e 1)⟩, ⟨[], [], .cs .v (.b false)⟩] [none, none, some 15, some 16, none, none, none, none, none, none, none, none, none, none, none])
 ((.seq (.reg [⟨[], [], .cs .v (.n 1048576)⟩] [none, none, some 2, some 3, none, some 15, none, none, none, none, none, none, none, none, none])
 ((.seq (.reg [⟨[], [], .gp (.e 2) 7⟩, ⟨[], [], .nop⟩, ⟨[], [], .ca 115 [(.e 15), (.e 5)] 1⟩, ⟨[], [], .nop⟩] [none, none, some 2, some 3, none, some 16, none, none, none, none, none, none, none, none, none])
 ((.seq ((.seq (.reg [⟨[], [], .nop⟩, ⟨[], [], .bi .lss (.e 5) (.c (.n 0))⟩] [none, none, some 2, some 3, none, some 5, none, none, none, none, some 15, none, none, none, none])
 (.cond 10 ((.seq (.reg [⟨[], [], .cs .v (.b true)⟩] [none, none, none, none, some 15, none, none, none, none, none, none, none, none, none, none])
  (.ret))) (.skip))))
 ((.seq (.reg [⟨[], [], .gp (.e 3) 7⟩, ⟨[], [], .nop⟩, ⟨[], [], .ca 115 [(.e 15), (.e 5)] 1⟩, ⟨[], [], .nop⟩] [none, none, some 2, some 3, none, some 16, none, none, none, none, none, none, none, none, none])
 ((.seq ((.seq (.reg [⟨[], [], .nop⟩, ⟨[], [], .bi .lss (.e 5) (.c (.n 0))⟩] [none, none, some 2, some 3, none, none, none, none, none, none, none, some 15, none, none, none])
 (.cond 11 ((.seq (.reg [⟨[], [], .cs .v (.b true)⟩] [none, none, none, none, some 15, none, none, none, none, none, none, none, none, none, none])
  (.ret))) (.skip))))
 ((.seq (.reg [⟨[], [], .gp (.e 2) 7⟩, ⟨[], [], .ca 117 [(.e 15)] 1⟩, ⟨[], [], .gp (.e 3) 7⟩, ⟨[], [], .ca 117 [(.e 17)] 1⟩, ⟨[], [], .ca 116 [(.e 16), (.e 18)] 1⟩, ⟨[], [], .nop⟩] [none, none, some 2, some 3, none, none, some 19, none, none, none, none, none, none, none, none])
 ((.seq (.reg [⟨[], [], .gp (.e 2) 7⟩, ⟨[], [], .ca 117 [(.e 15)] 1⟩, ⟨[], [], .cs (.b (.o (.o (.o .v)))) (.g [(.n 0), (.s []), (.s []), (.l []), (.l []), (.l []), (.l [])])⟩, ⟨[], [], .ws 17 7 (.e 16)⟩] [none, none, some 2, some 3, none, none, some 6, some 18, none, none, none, none, none, none, none])
 ((.seq (.reg [⟨[], [], .gp (.e 3) 7⟩, ⟨[], [], .ca 117 [(.e 15)] 1⟩, ⟨[], [], .cs (.b (.o (.o (.o .v)))) (.g [(.n 0), (.s []), (.s []), (.l []), (.l []), (.l []), (.l [])])⟩, ⟨[], [], .ws 17 7 (.e 16)⟩] [none, none, some 2, some 3, none, none, some 6, some 7, some 18, none, none, none, none, none, none])
 ((.seq (.reg [⟨[], [], .wl 7 (.e 7)⟩, ⟨[], [], .wl 7 (.e 8)⟩, ⟨[], [], .ca 118 [(.e 15), (.e 16)] 1⟩, ⟨[], [], .nop⟩] [none, none, some 2, some 3, none, none, some 6, some 7, some 8, some 17, none, none, none, none, none])
 ((.seq ((.seq (.reg [⟨[], [], .nop⟩, ⟨[], [], .nop⟩, ⟨[], [], .bb .neq (.e 9) (.e 6)⟩] [none, none, some 2, some 3, none, none, none, some 7, some 8, none, none, none, some 15, none, none])
 (.cond 12 ((.seq (.reg [⟨[], [], .cs .v (.b false)⟩] [none, none, none, none, some 15, none, none, none, none, none, none, none, none, none, none])
  (.ret))) (.skip))))
 ((.seq ((.seq (.reg [⟨[], [], .wl 7 (.e 7)⟩, ⟨[], [], .gp (.e 2) 7⟩, ⟨[], [], .ca 117 [(.e 16)] 1⟩, ⟨[], [], .ca 119 [(.e 15), (.e 17)] 1⟩, ⟨[], [], .un .not (.e 18)⟩] [none, none, none, some 3, none, none, none, none, some 8, none, none, none, none, some 19, none])
 (.cond 13 ((.seq (.reg [⟨[], [], .cs .v (.b false)⟩] [none, none, none, none, some 15, none, none, none, none, none, none, none, none, none, none])
  (.ret))) (.skip))))
 ((.seq ((.seq (.reg [⟨[], [], .wl 7 (.e 8)⟩, ⟨[], [], .gp (.e 3) 7⟩, ⟨[], [], .ca 117 [(.e 16)] 1⟩, ⟨[], [], .ca 119 [(.e 15), (.e 17)] 1⟩, ⟨[], [], .un .not (.e 18)⟩] [none, none, none, none, none, none, none, none, none, none, none, none, none, none, some 19])
 (.cond 14 ((.seq (.reg [⟨[], [], .cs .v (.b false)⟩] [none, none, none, none, some 15, none, none, none, none, none, none, none, none, none, none])
  (.ret))) (.skip))))
 ((.seq (.reg [⟨[], [], .cs .v (.b true)⟩] [none, none, none, none, some 15, none, none, none, none, none, none, none, none, none, none])
 (.ret))))))))))))))))))))))))))))⟩

end Go.Cat

namespace Go.Cat
/-- loop.example/g03401/laws.FnExactPatternOf231 -/
def ir_laws_FnExactPatternOf231 : IF := ⟨[], 1, 21, [1],
 (.seq (.reg [⟨[], [], .cs .v (.b false)⟩] [some 0, none, none, none, none, none, none, none, none, none, none, none, none, none, none, none, none, none, none, none, none])
 ((.seq ((.seq (.reg [⟨[], [], .nop⟩, ⟨[], [], .ln (.e 0) []⟩, ⟨[], [], .bi .gtr (.e 21) (.c (.n 1048576))⟩] [some 0, none, none, none, none, none, none, none, none, none, none, none, some 22, none, none, none, none, none, none, none, none])
 (.cond 12 ((.seq (.reg [⟨[], [], .cs .v (.b true)⟩] [none, some 21, none, none, none, none, none, none, none, none, none, none, none, none, none, none, none, none, none, none, none])
  (.ret))) (.skip))))
 ((.seq (.reg [⟨[], [], .nop⟩, ⟨[], [], .ca 42 [(.e 0)] 1⟩, ⟨[], [], .ca 49 [(.e 21)] 2⟩, ⟨[], [], .nop⟩, ⟨[], [], .nop⟩, ⟨[], [], .nop⟩, ⟨[], [], .nop⟩, ⟨[], [], .nop⟩] [some 0, none, some 22, some 23, none, none, none, none, none, none, none, none, none, none, none, none, none, none, none, none, none])
 ((.seq (.reg [⟨[], [], .nop⟩, ⟨[], [], .ca 42 [(.e 0)] 1⟩, ⟨[], [], .nop⟩] [some 0, none, some 2, some 3, some 21, none, none, none, none, none, none, none, none, none, none, none, none, none, none, none, none])
 ((.seq (.reg [⟨[], [], .nop⟩, ⟨[], [], .ca 50 [(.e 4)] 2⟩, ⟨[], [], .nop⟩, ⟨[], [], .nop⟩, ⟨[], [], .nop⟩, ⟨[], [], .nop⟩, ⟨[], [], .nop⟩] [some 0, none, some 2, some 3, some 4, some 21, some 22, none, none, none, none, none, none, none, none, none, none, none, none, none, none])
 ((.seq ((.seq (.reg [⟨[], [], .nop⟩, ⟨[], [], .nop⟩, ⟨[], [], .ca 44 [(.e 5), (.e 2)] 1⟩, ⟨[], [], .un .not (.e 21)⟩, ⟨[], [], .nop⟩, ⟨[], [(22, false)], .cy (.e 6)⟩, ⟨[], [(22, false)], .cy (.e 3)⟩, ⟨[], [(22, false)], .bb .neq (.e 23) (.e 24)⟩, ⟨[], [], .pk (.e 22) (.c (.b true)) (.e 25)⟩] [some 0, none, some 2, some 3, some 4, some 5, some 6, none, none, none, none, none, none, some 26, none, none, none, none, none, none, none])
 (.cond 13 ((.seq (.reg [⟨[], [], .cs .v (.b false)⟩] [none, some 21, none, none, none, none, none, none, none, none, none, none, none, none, none, none, none, none, none, none, none])
  (.ret))) (.skip))))
 ((.seq ((.seq (.reg [⟨[], [], .nop⟩, ⟨[], [], .nop⟩, ⟨[], [], .ca 42 [(.e 0)] 1⟩, ⟨[], [], .ca 44 [(.e 4), (.e 21)] 1⟩, ⟨[], [], .un .not (.e 22)⟩] [some 0, none, some 2, some 3, some 4, some 5, some 6, none, none, none, none, none, none, none, some 23, none, none, none, none, none, none])
 (.cond 14 ((.seq (.reg [⟨[], [], .cs .v (.b false)⟩] [none, some 21, none, none, none, none, none, none, none, none, none, none, none, none, none, none, none, none, none, none, none])
  (.ret))) (.skip))))
 ((.seq (.reg [⟨[], [], .cs .v (.n 1)⟩] [some 0, none, some 2, some 3, some 4, some 5, some 6, some 21, none, none, none, none, none, none, none, none, none, none, none, none, none])
 ((.seq (.reg [⟨[], [], .nop⟩, ⟨[], [], .nop⟩, ⟨[], [], .ca 45 [(.e 4), (.e 7)] 2⟩, ⟨[], [], .nop⟩] [some 0, none, some 2, some 3, none, some 5, some 6, some 21, none, none, none, none, none, none, none, none, none, none, none, none, none])
 ((.seq ((.seq (.reg [⟨[], [], .nop⟩, ⟨[], [], .bi .lss (.e 7) (.c (.n 0))⟩, ⟨[], [], .nop⟩, ⟨[], [(21, false)], .nop⟩, ⟨[], [(21, false)], .cy (.e 2)⟩, ⟨[], [(21, false)], .ca 44 [(.e 5), (.e 22)] 1⟩, ⟨[], [(21, false)], .un .not (.e 23)⟩, ⟨[], [], .pk (.e 21) (.c (.b true)) (.e 24)⟩, ⟨[], [], .nop⟩, ⟨[], [(25, false)], .cy (.e 6)⟩, ⟨[], [(25, false)], .cy (.e 3)⟩, ⟨[], [(25, false)], .bb .neq (.e 26) (.e 27)⟩, ⟨[], [], .pk (.e 25) (.c (.b true)) (.e 28)⟩] [some 0, none, some 2, some 3, none, some 5, none, none, none, none, none, none, none, none, none, some 29, none, none, none, none, none])
 (.cond 15 ((.seq (.reg [⟨[], [], .cs .v (.b false)⟩] [none, some 21, none, none, none, none, none, none, none, none, none, none, none, none, none, none, none, none, none, none, none])
  (.ret))) (.skip))))
 ((.seq (.reg [⟨[], [], .cs .v (.n 1)⟩] [some 0, none, some 2, some 3, none, some 5, none, none, some 21, none, none, none, none, none, none, none, none, none, none, none, none])
 ((.seq (.reg [⟨[], [], .nop⟩, ⟨[], [], .nop⟩, ⟨[], [], .ca 45 [(.e 5), (.e 8)] 2⟩, ⟨[], [], .nop⟩] [some 0, none, some 2, some 3, none, some 22, none, none, some 21, none, none, none, none, none, none, none, none, none, none, none, none])
 ((.seq (.reg [⟨[], [], .cs .v (.n 1)⟩] [some 0, none, some 2, some 3, none, some 5, none, none, some 8, some 21, none, none, none, none, none, none, none, none, none, none, none])
 ((.seq (.reg [⟨[], [], .nop⟩, ⟨[], [], .nop⟩, ⟨[], [], .ca 46 [(.e 5), (.e 9)] 1⟩, ⟨[], [], .nop⟩] [some 0, none, some 2, some 3, none, some 5, none, none, some 8, some 21, none, none, none, none, none, none, none, none, none, none, none])
 ((.seq ((.seq (.reg [⟨[], [], .nop⟩, ⟨[], [], .bi .lss (.e 9) (.c (.n 0))⟩] [some 0, none, some 2, some 3, none, some 5, none, none, some 8, some 9, none, none, none, none, none, none, some 21, none, none, none, none])
 (.cond 16 ((.seq (.reg [⟨[], [], .cs .v (.b false)⟩] [none, some 21, none, none, none, none, none, none, none, none, none, none, none, none, none, none, none, none, none, none, none])
  (.ret))) (.skip))))
 ((.seq ((.seq (.reg [⟨[], [], .nop⟩, ⟨[], [], .nop⟩, ⟨[], [], .bi .neq (.e 9) (.e 8)⟩] [some 0, none, some 2, some 3, none, some 5, none, none, some 8, none, none, none, none, none, none, none, none, some 21, none, none, none])
 (.cond 17 ((.seq (.reg [⟨[], [], .cs .v (.b false)⟩] [none, some 21, none, none, none, none, none, none, none, none, none, none, none, none, none, none, none, none, none, none, none])
  (.ret))) (.skip))))
 ((.seq (.reg [⟨[], [], .nop⟩, ⟨[], [], .ca 42 [(.e 0)] 1⟩, ⟨[], [], .ca 50 [(.e 21)] 2⟩, ⟨[], [], .nop⟩, ⟨[], [], .nop⟩, ⟨[], [], .nop⟩, ⟨[], [], .nop⟩, ⟨[], [], .nop⟩] [none, none, some 2, some 3, none, some 5, none, none, some 8, none, some 22, some 23, none, none, none, none, none, none, none, none, none])
 ((.seq ((.seq (.reg [⟨[], [], .nop⟩, ⟨[], [], .nop⟩, ⟨[], [], .ca 44 [(.e 10), (.e 2)] 1⟩, ⟨[], [], .un .not (.e 21)⟩, ⟨[], [], .nop⟩, ⟨[], [(22, false)], .cy (.e 11)⟩, ⟨[], [(22, false)], .cy (.e 3)⟩, ⟨[], [(22, false)], .bb .neq (.e 23) (.e 24)⟩, ⟨[], [], .pk (.e 22) (.c (.b true)) (.e 25)⟩] [none, none, none, none, none, some 5, none, none, some 8, none, none, none, none, none, none, none, none, none, some 26, none, none])
 (.cond 18 ((.seq (.reg [⟨[], [], .cs .v (.b false)⟩] [none, some 21, none, none, none, none, none, none, none, none, none, none, none, none, none, none, none, none, none, none, none])
  (.ret))) (.skip))))
 ((.seq (.reg [⟨[], [], .cs .v (.n 1)⟩] [none, none, none, none, none, some 5, none, none, some 8, some 21, none, none, none, none, none, none, none, none, none, none, none])
 ((.seq (.reg [⟨[], [], .nop⟩, ⟨[], [], .nop⟩, ⟨[], [], .ca 46 [(.e 5), (.e 9)] 1⟩, ⟨[], [], .nop⟩] [none, none, none, none, none, none, none, none, some 8, some 21, none, none, none, none, none, none, none, none, none, none, none])
 ((.seq ((.seq (.reg [⟨[], [], .nop⟩, ⟨[], [], .bi .lss (.e 9) (.c (.n 0))⟩] [none, none, none, none, none, none, none, none, some 8, some 9, none, none, none, none, none, none, none, none, none, some 21, none])
 (.cond 19 ((.seq (.reg [⟨[], [], .cs .v (.b false)⟩] [none, some 21, none, none, none, none, none, none, none, none, none, none, none, none, none, none, none, none, none, none, none])
  (.ret))) (.skip))))
 ((.seq ((.seq (.reg [⟨[], [], .nop⟩, ⟨[], [], .nop⟩, ⟨[], [], .bi .neq (.e 9) (.e 8)⟩] [none, none, none, none, none, none, none, none, none, none, none, none, none, none, none, none, none, none, none, none, some 21])
 (.cond 20 ((.seq (.reg [⟨[], [], .cs .v (.b false)⟩] [none, some 21, none, none, none, none, none, none, none, none, none, none, none, none, none, none, none, none, none, none, none])
  (.ret))) (.skip))))
 ((.seq (.reg [⟨[], [], .cs .v (.b true)⟩] [none, some 21, none, none, none, none, none, none, none, none, none, none, none, none, none, none, none, none, none, none, none])
 (.ret))))))))))))))))))))))))))))))))))))))))))))))⟩

end Go.Cat

namespace Go.Cat
/-- loop.example/g03401/laws.FnExactBubbleOnce -/
def ir_laws_FnExactBubbleOnce : IF := ⟨[], 1, 21, [1],
 (.seq (.reg [⟨[], [], .cs .v (.b false)⟩] [some 0, none, none, none, none, none, none, none, none, none, none, none, none, none, none, none, none, none, none, none, none])
 ((.seq ((.seq (.reg [⟨[], [], .nop⟩, ⟨[], [], .ln (.e 0) []⟩, ⟨[], [], .bi .gtr (.e 21) (.c (.n 1048576))⟩] [some 0, none, none, none, none, none, none, none, none, none, none, none, some 22, none, none, none, none, none, none, none, none])
 (.cond 12 ((.seq (.reg [⟨[], [], .cs .v (.b true)⟩] [none, some 21, none, none, none, none, none, none, none, none, none, none, none, none, none, none, none, none, none, none, none])
  (.ret))) (.skip))))
 ((.seq (.reg [⟨[], [], .nop⟩, ⟨[], [], .ca 42 [(.e 0)] 1⟩, ⟨[], [], .ca 51 [(.e 21)] 2⟩, ⟨[], [], .nop⟩, ⟨[], [], .nop⟩, ⟨[], [], .nop⟩, ⟨[], [], .nop⟩, ⟨[], [], .nop⟩] [some 0, none, some 22, some 23, none, none, none, none, none, none, none, none, none, none, none, none, none, none, none, none, none])
 ((.seq (.reg [⟨[], [], .nop⟩, ⟨[], [], .ca 42 [(.e 0)] 1⟩, ⟨[], [], .nop⟩] [some 0, none, some 2, some 3, some 21, none, none, none, none, none, none, none, none, none, none, none, none, none, none, none, none])
 ((.seq (.reg [⟨[], [], .nop⟩, ⟨[], [], .ca 52 [(.e 4)] 2⟩, ⟨[], [], .nop⟩, ⟨[], [], .nop⟩, ⟨[], [], .nop⟩, ⟨[], [], .nop⟩, ⟨[], [], .nop⟩] [some 0, none, some 2, some 3, some 4, some 21, some 22, none, none, none, none, none, none, none, none, none, none, none, none, none, none])
 ((.seq ((.seq (.reg [⟨[], [], .nop⟩, ⟨[], [], .nop⟩, ⟨[], [], .ca 44 [(.e 5), (.e 2)] 1⟩, ⟨[], [], .un .not (.e 21)⟩, ⟨[], [], .nop⟩, ⟨[], [(22, false)], .cy (.e 6)⟩, ⟨[], [(22, false)], .cy (.e 3)⟩, ⟨[], [(22, false)], .bb .neq (.e 23) (.e 24)⟩, ⟨[], [], .pk (.e 22) (.c (.b true)) (.e 25)⟩] [some 0, none, some 2, some 3, some 4, some 5, some 6, none, none, none, none, none, none, some 26, none, none, none, none, none, none, none])
 (.cond 13 ((.seq (.reg [⟨[], [], .cs .v (.b false)⟩] [none, some 21, none, none, none, none, none, none, none, none, none, none, none, none, none, none, none, none, none, none, none])
  (.ret))) (.skip))))
 ((.seq ((.seq (.reg [⟨[], [], .nop⟩, ⟨[], [], .nop⟩, ⟨[], [], .ca 42 [(.e 0)] 1⟩, ⟨[], [], .ca 44 [(.e 4), (.e 21)] 1⟩, ⟨[], [], .un .not (.e 22)⟩] [some 0, none, some 2, some 3, some 4, some 5, some 6, none, none, none, none, none, none, none, some 23, none, none, none, none, none, none])
 (.cond 14 ((.seq (.reg [⟨[], [], .cs .v (.b false)⟩] [none, some 21, none, none, none, none, none, none, none, none, none, none, none, none, none, none, none, none, none, none, none])
  (.ret))) (.skip))))
 ((.seq (.reg [⟨[], [], .cs .v (.n 1)⟩] [some 0, none, some 2, some 3, some 4, some 5, some 6, some 21, none, none, none, none, none, none, none, none, none, none, none, none, none])
 ((.seq (.reg [⟨[], [], .nop⟩, ⟨[], [], .nop⟩, ⟨[], [], .ca 45 [(.e 4), (.e 7)] 2⟩, ⟨[], [], .nop⟩] [some 0, none, some 2, some 3, none, some 5, some 6, some 21, none, none, none, none, none, none, none, none, none, none, none, none, none])
 ((.seq ((.seq (.reg [⟨[], [], .nop⟩, ⟨[], [], .bi .lss (.e 7) (.c (.n 0))⟩, ⟨[], [], .nop⟩, ⟨[], [(21, false)], .nop⟩, ⟨[], [(21, false)], .cy (.e 2)⟩, ⟨[], [(21, false)], .ca 44 [(.e 5), (.e 22)] 1⟩, ⟨[], [(21, false)], .un .not (.e 23)⟩, ⟨[], [], .pk (.e 21) (.c (.b true)) (.e 24)⟩, ⟨[], [], .nop⟩, ⟨[], [(25, false)], .cy (.e 6)⟩, ⟨[], [(25, false)], .cy (.e 3)⟩, ⟨[], [(25, false)], .bb .neq (.e 26) (.e 27)⟩, ⟨[], [], .pk (.e 25) (.c (.b true)) (.e 28)⟩] [some 0, none, some 2, some 3, none, some 5, none, none, none, none, none, none, none, none, none, some 29, none, none, none, none, none])
 (.cond 15 ((.seq (.reg [⟨[], [], .cs .v (.b false)⟩] [none, some 21, none, none, none, none, none, none, none, none, none, none, none, none, none, none, none, none, none, none, none])
  (.ret))) (.skip))))
 ((.seq (.reg [⟨[], [], .cs .v (.n 1)⟩] [some 0, none, some 2, some 3, none, some 5, none, none, some 21, none, none, none, none, none, none, none, none, none, none, none, none])
 ((.seq (.reg [⟨[], [], .nop⟩, ⟨[], [], .nop⟩, ⟨[], [], .ca 45 [(.e 5), (.e 8)] 2⟩, ⟨[], [], .nop⟩] [some 0, none, some 2, some 3, none, some 22, none, none, some 21, none, none, none, none, none, none, none, none, none, none, none, none])
 ((.seq (.reg [⟨[], [], .cs .v (.n 1)⟩] [some 0, none, some 2, some 3, none, some 5, none, none, some 8, some 21, none, none, none, none, none, none, none, none, none, none, none])
 ((.seq (.reg [⟨[], [], .nop⟩, ⟨[], [], .nop⟩, ⟨[], [], .ca 46 [(.e 5), (.e 9)] 1⟩, ⟨[], [], .nop⟩] [some 0, none, some 2, some 3, none, some 5, none, none, some 8, some 21, none, none, none, none, none, none, none, none, none, none, none])
 ((.seq ((.seq (.reg [⟨[], [], .nop⟩, ⟨[], [], .bi .lss (.e 9) (.c (.n 0))⟩] [some 0, none, some 2, some 3, none, some 5, none, none, some 8, some 9, none, none, none, none, none, none, some 21, none, none, none, none])
 (.cond 16 ((.seq (.reg [⟨[], [], .cs .v (.b false)⟩] [none, some 21, none, none, none, none, none, none, none, none, none, none, none, none, none, none, none, none, none, none, none])
  (.ret))) (.skip))))
 ((.seq ((.seq (.reg [⟨[], [], .nop⟩, ⟨[], [], .nop⟩, ⟨[], [], .bi .neq (.e 9) (.e 8)⟩] [some 0, none, some 2, some 3, none, some 5, none, none, some 8, none, none, none, none, none, none, none, none, some 21, none, none, none])
 (.cond 17 ((.seq (.reg [⟨[], [], .cs .v (.b false)⟩] [none, some 21, none, none, none, none, none, none, none, none, none, none, none, none, none, none, none, none, none, none, none])
  (.ret))) (.skip))))
 ((.seq (.reg [⟨[], [], .nop⟩, ⟨[], [], .ca 42 [(.e 0)] 1⟩, ⟨[], [], .ca 52 [(.e 21)] 2⟩, ⟨[], [], .nop⟩, ⟨[], [], .nop⟩, ⟨[], [], .nop⟩, ⟨[], [], .nop⟩, ⟨[], [], .nop⟩] [none, none, some 2, some 3, none, some 5, none, none, some 8, none, some 22, some 23, none, none, none, none, none, none, none, none, none])
 ((.seq ((.seq (.reg [⟨[], [], .nop⟩, ⟨[], [], .nop⟩, ⟨[], [], .ca 44 [(.e 10), (.e 2)] 1⟩, ⟨[], [], .un .not (.e 21)⟩, ⟨[], [], .nop⟩, ⟨[], [(22, false)], .cy (.e 11)⟩, ⟨[], [(22, false)], .cy (.e 3)⟩, ⟨[], [(22, false)], .bb .neq (.e 23) (.e 24)⟩, ⟨[], [], .pk (.e 22) (.c (.b true)) (.e 25)⟩] [none, none, none, none, none, some 5, none, none, some 8, none, none, none, none, none, none, none, none, none, some 26, none, none])
 (.cond 18 ((.seq (.reg [⟨[], [], .cs .v (.b false)⟩] [none, some 21, none, none, none, none, none, none, none, none, none, none, none, none, none, none, none, none, none, none, none])
  (.ret))) (.skip))))
 ((.seq (.reg [⟨[], [], .cs .v (.n 1)⟩] [none, none, none, none, none, some 5, none, none, some 8, some 21, none, none, none, none, none, none, none, none, none, none, none])
 ((.seq (.reg [⟨[], [], .nop⟩, ⟨[], [], .nop⟩, ⟨[], [], .ca 46 [(.e 5), (.e 9)] 1⟩, ⟨[], [], .nop⟩] [none, none, none, none, none, none, none, none, some 8, some 21, none, none, none, none, none, none, none, none, none, none, none])
 ((.seq ((.seq (.reg [⟨[], [], .nop⟩, ⟨[], [], .bi .lss (.e 9) (.c (.n 0))⟩] [none, none, none, none, none, none, none, none, some 8, some 9, none, none, none, none, none, none, none, none, none, some 21, none])
 (.cond 19 ((.seq (.reg [⟨[], [], .cs .v (.b false)⟩] [none, some 21, none, none, none, none, none, none, none, none, none, none, none, none, none, none, none, none, none, none, none])
  (.ret))) (.skip))))
 ((.seq ((.seq (.reg [⟨[], [], .nop⟩, ⟨[], [], .nop⟩, ⟨[], [], .bi .neq (.e 9) (.e 8)⟩] [none, none, none, none, none, none, none, none, none, none, none, none, none, none, none, none, none, none, none, none, some 21])
 (.cond 20 ((.seq (.reg [⟨[], [], .cs .v (.b false)⟩] [none, some 21, none, none, none, none, none, none, none, none, none, none, none, none, none, none, none, none, none, none, none])
  (.ret))) (.skip))))
 ((.seq (.reg [⟨[], [], .cs .v (.b true)⟩] [none, some 21, none, none, none, none, none, none, none, none, none, none, none, none, none, none, none, none, none, none, none])
 (.ret))))))))))))))))))))))))))))))))))))))))))))))⟩

end Go.Cat

namespace Go.Cat
/-- loop.example/g03401/laws.FnExactSortOnce -/
def ir_laws_FnExactSortOnce : IF := ⟨[], 1, 21, [1],
 (.seq (.reg [⟨[], [], .cs .v (.b false)⟩] [some 0, none, none, none, none, none, none, none, none, none, none, none, none, none, none, none, none, none, none, none, none])
 ((.seq ((.seq (.reg [⟨[], [], .nop⟩, ⟨[], [], .ln (.e 0) []⟩, ⟨[], [], .bi .gtr (.e 21) (.c (.n 1048576))⟩] [some 0, none, none, none, none, none, none, none, none, none, none, none, some 22, none, none, none, none, none, none, none, none])
 (.cond 12 ((.seq (.reg [⟨[], [], .cs .v (.b true)⟩] [none, some 21, none, none, none, none, none, none, none, none, none, none, none, none, none, none, none, none, none, none, none])
  (.ret))) (.skip))))
 ((.seq (.reg [⟨[], [], .nop⟩, ⟨[], [], .ca 42 [(.e 0)] 1⟩, ⟨[], [], .ca 61 [(.e 21)] 2⟩, ⟨[], [], .nop⟩, ⟨[], [], .nop⟩, ⟨[], [], .nop⟩, ⟨[], [], .nop⟩, ⟨[], [], .nop⟩] [some 0, none, some 22, some 23, none, none, none, none, none, none, none, none, none, none, none, none, none, none, none, none, none])
 ((.seq (.reg [⟨[], [], .nop⟩, ⟨[], [], .ca 42 [(.e 0)] 1⟩, ⟨[], [], .nop⟩] [some 0, none, some 2, some 3, some 21, none, none, none, none, none, none, none, none, none, none, none, none, none, none, none, none])
 ((.seq (.reg [⟨[], [], .nop⟩, ⟨[], [], .ca 62 [(.e 4)] 2⟩, ⟨[], [], .nop⟩, ⟨[], [], .nop⟩, ⟨[], [], .nop⟩, ⟨[], [], .nop⟩, ⟨[], [], .nop⟩] [some 0, none, some 2, some 3, some 4, some 21, some 22, none, none, none, none, none, none, none, none, none, none, none, none, none, none])
 ((.seq ((.seq (.reg [⟨[], [], .nop⟩, ⟨[], [], .nop⟩, ⟨[], [], .ca 44 [(.e 5), (.e 2)] 1⟩, ⟨[], [], .un .not (.e 21)⟩, ⟨[], [], .nop⟩, ⟨[], [(22, false)], .cy (.e 6)⟩, ⟨[], [(22, false)], .cy (.e 3)⟩, ⟨[], [(22, false)], .bb .neq (.e 23) (.e 24)⟩, ⟨[], [], .pk (.e 22) (.c (.b true)) (.e 25)⟩] [some 0, none, some 2, some 3, some 4, some 5, some 6, none, none, none, none, none, none, some 26, none, none, none, none, none, none, none])
 (.cond 13 ((.seq (.reg [⟨[], [], .cs .v (.b false)⟩] [none, some 21, none, none, none, none, none, none, none, none, none, none, none, none, none, none, none, none, none, none, none])
  (.ret))) (.skip))))
 ((.seq ((.seq (.reg [⟨[], [], .nop⟩, ⟨[], [], .nop⟩, ⟨[], [], .ca 42 [(.e 0)] 1⟩, ⟨[], [], .ca 44 [(.e 4), (.e 21)] 1⟩, ⟨[], [], .un .not (.e 22)⟩] [some 0, none, some 2, some 3, some 4, some 5, some 6, none, none, none, none, none, none, none, some 23, none, none, none, none, none, none])
 (.cond 14 ((.seq (.reg [⟨[], [], .cs .v (.b false)⟩] [none, some 21, none, none, none, none, none, none, none, none, none, none, none, none, none, none, none, none, none, none, none])
  (.ret))) (.skip))))
 ((.seq (.reg [⟨[], [], .cs .v (.n 1)⟩] [some 0, none, some 2, some 3, some 4, some 5, some 6, some 21, none, none, none, none, none, none, none, none, none, none, none, none, none])
 ((.seq (.reg [⟨[], [], .nop⟩, ⟨[], [], .nop⟩, ⟨[], [], .ca 45 [(.e 4), (.e 7)] 2⟩, ⟨[], [], .nop⟩] [some 0, none, some 2, some 3, none, some 5, some 6, some 21, none, none, none, none, none, none, none, none, none, none, none, none, none])
 ((.seq ((.seq (.reg [⟨[], [], .nop⟩, ⟨[], [], .bi .lss (.e 7) (.c (.n 0))⟩, ⟨[], [], .nop⟩, ⟨[], [(21, false)], .nop⟩, ⟨[], [(21, false)], .cy (.e 2)⟩, ⟨[], [(21, false)], .ca 44 [(.e 5), (.e 22)] 1⟩, ⟨[], [(21, false)], .un .not (.e 23)⟩, ⟨[], [], .pk (.e 21) (.c (.b true)) (.e 24)⟩, ⟨[], [], .nop⟩, ⟨[], [(25, false)], .cy (.e 6)⟩, ⟨[], [(25, false)], .cy (.e 3)⟩, ⟨[], [(25, false)], .bb .neq (.e 26) (.e 27)⟩, ⟨[], [], .pk (.e 25) (.c (.b true)) (.e 28)⟩] [some 0, none, some 2, some 3, none, some 5, none, none, none, none, none, none, none, none, none, some 29, none, none, none, none, none])
 (.cond 15 ((.seq (.reg [⟨[], [], .cs .v (.b false)⟩] [none, some 21, none, none, none, none, none, none, none, none, none, none, none, none, none, none, none, none, none, none, none])
  (.ret))) (.skip))))
 ((.seq (.reg [⟨[], [], .cs .v (.n 1)⟩] [some 0, none, some 2, some 3, none, some 5, none, none, some 21, none, none, none, none, none, none, none, none, none, none, none, none])
 ((.seq (.reg [⟨[], [], .nop⟩, ⟨[], [], .nop⟩, ⟨[], [], .ca 45 [(.e 5), (.e 8)] 2⟩, ⟨[], [], .nop⟩] [some 0, none, some 2, some 3, none, some 22, none, none, some 21, none, none, none, none, none, none, none, none, none, none, none, none])
 ((.seq (.reg [⟨[], [], .cs .v (.n 1)⟩] [some 0, none, some 2, some 3, none, some 5, none, none, some 8, some 21, none, none, none, none, none, none, none, none, none, none, none])
 ((.seq (.reg [⟨[], [], .nop⟩, ⟨[], [], .nop⟩, ⟨[], [], .ca 46 [(.e 5), (.e 9)] 1⟩, ⟨[], [], .nop⟩] [some 0, none, some 2, some 3, none, some 5, none, none, some 8, some 21, none, none, none, none, none, none, none, none, none, none, none])
 ((.seq ((.seq (.reg [⟨[], [], .nop⟩, ⟨[], [], .bi .lss (.e 9) (.c (.n 0))⟩] [some 0, none, some 2, some 3, none, some 5, none, none, some 8, some 9, none, none, none, none, none, none, some 21, none, none, none, none])
 (.cond 16 ((.seq (.reg [⟨[], [], .cs .v (.b false)⟩] [none, some 21, none, none, none, none, none, none, none, none, none, none, none, none, none, none, none, none, none, none, none])
  (.ret))) (.skip))))
 ((.seq ((.seq (.reg [⟨[], [], .nop⟩, ⟨[], [], .nop⟩, ⟨[], [], .bi .neq (.e 9) (.e 8)⟩] [some 0, none, some 2, some 3, none, some 5, none, none, some 8, none, none, none, none, none, none, none, none, some 21, none, none, none])
 (.cond 17 ((.seq (.reg [⟨[], [], .cs .v (.b false)⟩] [none, some 21, none, none, none, none, none, none, none, none, none, none, none, none, none, none, none, none, none, none, none])
  (.ret))) (.skip))))
 ((.seq (.reg [⟨[], [], .nop⟩, ⟨[], [], .ca 42 [(.e 0)] 1⟩, ⟨[], [], .ca 62 [(.e 21)] 2⟩, ⟨[], [], .nop⟩, ⟨[], [], .nop⟩, ⟨[], [], .nop⟩, ⟨[], [], .nop⟩, ⟨[], [], .nop⟩] [none, none, some 2, some 3, none, some 5, none, none, some 8, none, some 22, some 23, none, none, none, none, none, none, none, none, none])
 ((.seq ((.seq (.reg [⟨[], [], .nop⟩, ⟨[], [], .nop⟩, ⟨[], [], .ca 44 [(.e 10), (.e 2)] 1⟩, ⟨[], [], .un .not (.e 21)⟩, ⟨[], [], .nop⟩, ⟨[], [(22, false)], .cy (.e 11)⟩, ⟨[], [(22, false)], .cy (.e 3)⟩, ⟨[], [(22, false)], .bb .neq (.e 23) (.e 24)⟩, ⟨[], [], .pk (.e 22) (.c (.b true)) (.e 25)⟩] [none, none, none, none, none, some 5, none, none, some 8, none, none, none, none, none, none, none, none, none, some 26, none, none])
 (.cond 18 ((.seq (.reg [⟨[], [], .cs .v (.b false)⟩] [none, some 21, none, none, none, none, none, none, none, none, none, none, none, none, none, none, none, none, none, none, none])
  (.ret))) (.skip))))
 ((.seq (.reg [⟨[], [], .cs .v (.n 1)⟩] [none, none, none, none, none, some 5, none, none, some 8, some 21, none, none, none, none, none, none, none, none, none, none, none])
 ((.seq (.reg [⟨[], [], .nop⟩, ⟨[], [], .nop⟩, ⟨[], [], .ca 46 [(.e 5), (.e 9)] 1⟩, ⟨[], [], .nop⟩] [none, none, none, none, none, none, none, none, some 8, some 21, none, none, none, none, none, none, none, none, none, none, none])
 ((.seq ((.seq (.reg [⟨[], [], .nop⟩, ⟨[], [], .bi .lss (.e 9) (.c (.n 0))⟩] [none, none, none, none, none, none, none, none, some 8, some 9, none, none, none, none, none, none, none, none, none, some 21, none])
 (.cond 19 ((.seq (.reg [⟨[], [], .cs .v (.b false)⟩] [none, some 21, none, none, none, none, none, none, none, none, none, none, none, none, none, none, none, none, none, none, none])
  (.ret))) (.skip))))
 ((.seq ((.seq (.reg [⟨[], [], .nop⟩, ⟨[], [], .nop⟩, ⟨[], [], .bi .neq (.e 9) (.e 8)⟩] [none, none, none, none, none, none, none, none, none, none, none, none, none, none, none, none, none, none, none, none, some 21])
 (.cond 20 ((.seq (.reg [⟨[], [], .cs .v (.b false)⟩] [none, some 21, none, none, none, none, none, none, none, none, none, none, none, none, none, none, none, none, none, none, none])
  (.ret))) (.skip))))
 ((.seq (.reg [⟨[], [], .cs .v (.b true)⟩] [none, some 21, none, none, none, none, none, none, none, none, none, none, none, none, none, none, none, none, none, none, none])
 (.ret))))))))))))))))))))))))))))))))))))))))))))))⟩

end Go.Cat

namespace Go.Cat
/-- loop.example/g03401/impl.DyckOfMotzkin -/
def ir_impl_DyckOfMotzkin : IF := ⟨[], 1, 10, [1, 2],
 (.seq (.reg [⟨[], [], .cs .v (.s [])⟩, ⟨[], [], .cs .v (.b false)⟩] [some 0, none, none, none, none, none, none, none, none, none])
 ((.seq ((.seq (.reg [⟨[], [], .nop⟩, ⟨[], [], .ca 257 [(.e 0)] 1⟩, ⟨[], [], .un .not (.e 10)⟩, ⟨[], [], .nop⟩, ⟨[], [(11, false)], .cy (.e 0)⟩, ⟨[], [(11, false)], .sn (.e 12)⟩, ⟨[], [(11, false)], .bi .gtr (.e 13) (.c (.n 8))⟩, ⟨[], [], .pk (.e 11) (.c (.b true)) (.e 14)⟩] [some 0, none, none, none, none, some 15, none, none, none, none])
 (.cond 5 ((.seq (.reg [⟨[], [], .cs .v (.s [])⟩, ⟨[], [], .cs .v (.b false)⟩] [none, some 10, some 11, none, none, none, none, none, none, none])
  (.ret))) (.skip))))
 ((.seq (.reg [⟨[], [], .cs .v (.s [])⟩] [some 0, none, none, some 10, none, none, none, none, none, none])
 ((.seq ((.seq (.reg [⟨[], [], .cs .v (.n 0)⟩] [some 0, none, none, some 3, some 10, none, none, none, none, none])
 (.block 0 (.loop ((.seq ((.seq (.reg [⟨[], [], .nop⟩, ⟨[], [], .nop⟩, ⟨[], [], .sn (.e 0)⟩, ⟨[], [], .bi .lss (.e 4) (.e 10)⟩] [some 0, none, none, some 3, some 4, none, some 11, none, none, none])
   (.cond 6 (.skip) (.exit 0))))
   ((.seq (.block 1 ((.seq (.reg [⟨[], [], .nop⟩, ⟨[], [], .nop⟩, ⟨[], [], .sx (.e 0) (.e 4)⟩] [some 0, none, none, some 3, some 4, none, none, some 10, none, none])
    (.block 2 ((.seq (.reg [⟨[], [], .bi .eql (.e 7) (.c (.y 117))⟩, ⟨[], [], .nop⟩] [some 0, none, none, some 3, some 4, none, none, some 7, some 10, none])
     (.cond 8 (.reg [⟨[], [], .nop⟩, ⟨[], [], .bi .add (.e 3) (.c (.s [117, 117]))⟩, ⟨[], [], .nop⟩] [some 0, none, none, some 10, some 4, none, none, none, none, none]) ((.seq (.reg [⟨[], [], .bi .eql (.e 7) (.c (.y 100))⟩, ⟨[], [], .nop⟩] [some 0, none, none, some 3, some 4, none, none, none, none, some 10])
      (.cond 9 (.reg [⟨[], [], .nop⟩, ⟨[], [], .bi .add (.e 3) (.c (.s [100, 100]))⟩, ⟨[], [], .nop⟩] [some 0, none, none, some 10, some 4, none, none, none, none, none]) (.reg [⟨[], [], .nop⟩, ⟨[], [], .bi .add (.e 3) (.c (.s [117, 100]))⟩, ⟨[], [], .nop⟩] [some 0, none, none, some 10, some 4, none, none, none, none, none])))))))))))
   (.reg [⟨[], [], .nop⟩, ⟨[], [], .bi .add (.e 4) (.c (.n 1))⟩, ⟨[], [], .nop⟩] [some 0, none, none, some 3, some 10, none, none, none, none, none])))))))))
 ((.seq (.reg [⟨[], [], .nop⟩, ⟨[], [], .nop⟩, ⟨[], [], .cs .v (.b true)⟩] [none, some 3, some 10, none, none, none, none, none, none, none])
 (.ret))))))))))⟩

/-- loop.example/g03401/impl.IsMotzkin -/
def ir_impl_IsMotzkin : IF := ⟨[], 1, 2, [1],
 (.seq (.reg [⟨[], [], .cs .v (.b false)⟩] [some 0, none])
 ((.seq (.reg [⟨[], [], .nop⟩, ⟨[], [], .sn (.e 0)⟩, ⟨[], [], .bi .leq (.e 2) (.c (.n 12))⟩, ⟨[], [], .nop⟩, ⟨[], [(3, true)], .cy (.e 0)⟩, ⟨[], [(3, true)], .ca 311 [(.e 4)] 1⟩, ⟨[], [], .pk (.e 3) (.e 5) (.c (.b false))⟩, ⟨[], [], .nop⟩] [none, some 6])
 (.ret))))⟩

/-- loop.example/g03401/impl.LevelSteps -/
def ir_impl_LevelSteps : IF := ⟨[], 1, 3, [1],
 (.seq (.reg [⟨[], [], .cs .v (.n 0)⟩] [some 0, none, none])
 ((.seq ((.seq (.reg [⟨[], [], .nop⟩, ⟨[], [], .ca 257 [(.e 0)] 1⟩, ⟨[], [], .un .not (.e 3)⟩] [some 0, none, some 4])
 (.cond 2 ((.seq (.reg [⟨[], [], .cs .v (.n (-1))⟩] [none, some 3, none])
  (.ret))) (.skip))))
 ((.seq (.reg [⟨[], [], .nop⟩, ⟨[], [], .ca 66 [(.e 0), (.c (.y 108))] 1⟩, ⟨[], [], .nop⟩] [none, some 3, none])
 (.ret))))))⟩

/-- loop.example/g03401/impl.MotzkinNumber -/
def ir_impl_MotzkinNumber : IF := ⟨[], 1, 11, [1],
 (.seq (.reg [⟨[], [], .cs .v (.n 0)⟩] [some 0, none, none, none, none, none, none, none, none, none, none])
 ((.seq ((.seq (.reg [⟨[], [], .nop⟩, ⟨[], [], .ca 23 [(.e 0), (.c (.n 0)), (.c (.n 20))] 1⟩, ⟨[], [], .un .not (.e 11)⟩] [some 0, none, none, none, none, some 12, none, none, none, none, none])
 (.cond 5 ((.seq (.reg [⟨[], [], .cs .v (.n (-1))⟩] [none, some 11, none, none, none, none, none, none, none, none, none])
  (.ret))) (.skip))))
 ((.seq (.reg [⟨[], [], .nop⟩, ⟨[], [], .bi .add (.e 0) (.c (.n 2))⟩, ⟨[], [], .mk (.n 0) (.e 11) (.e 11)⟩, ⟨[], [], .nop⟩] [some 0, none, some 12, none, none, none, none, none, none, none, none])
 ((.seq (.reg [⟨[], [], .nop⟩, ⟨[], [], .ix (.e 2) [] (.c (.n 0))⟩, ⟨[], [], .up 2 [.k 0] (.c (.n 1))⟩] [some 0, none, some 12, none, none, none, none, none, none, none, none])
 ((.seq ((.seq (.reg [⟨[], [], .nop⟩, ⟨[], [], .cs .v (.n 0)⟩] [some 0, none, some 2, none, none, none, some 0, some 11, none, none, none])
 (.block 0 (.loop ((.seq (.reg [⟨[], [], .bi .lss (.e 7) (.e 6)⟩] [some 0, none, some 2, none, none, none, some 6, some 7, some 11, none, none])
   ((.seq (.cond 8 (.skip) (.exit 0))
   ((.seq (.block 1 ((.seq (.reg [⟨[], [], .nop⟩, ⟨[], [], .bi .add (.e 0) (.c (.n 2))⟩, ⟨[], [], .mk (.n 0) (.e 11) (.e 11)⟩, ⟨[], [], .nop⟩] [some 0, none, some 2, some 12, none, none, some 6, some 7, none, none, none])
    ((.seq ((.seq (.reg [⟨[], [], .cs .v (.n 0)⟩] [some 0, none, some 2, some 3, some 11, none, some 6, some 7, none, none, none])
    (.block 2 (.loop ((.seq ((.seq (.reg [⟨[], [], .nop⟩, ⟨[], [], .nop⟩, ⟨[], [], .bi .leq (.e 4) (.e 0)⟩] [some 0, none, some 2, some 3, some 4, none, some 6, some 7, none, some 11, none])
      (.cond 9 (.skip) (.exit 2))))
      ((.seq (.block 3 ((.seq (.reg [⟨[], [], .nop⟩, ⟨[], [], .nop⟩, ⟨[], [], .nop⟩, ⟨[], [], .nop⟩, ⟨[], [], .ix (.e 2) [] (.e 4)⟩, ⟨[], [], .nop⟩, ⟨[], [], .nop⟩, ⟨[], [], .nop⟩, ⟨[], [], .bi .add (.e 4) (.c (.n 1))⟩, ⟨[], [], .ix (.e 2) [] (.e 12)⟩, ⟨[], [], .nop⟩, ⟨[], [], .bi .add (.e 11) (.e 13)⟩, ⟨[], [], .ix (.e 3) [] (.e 4)⟩, ⟨[], [], .up 3 [.e 4] (.e 14)⟩] [some 0, none, some 2, some 16, some 4, none, some 6, some 7, none, none, none])
       ((.seq (.reg [⟨[], [], .nop⟩, ⟨[], [], .bi .gtr (.e 4) (.c (.n 0))⟩] [some 0, none, some 2, some 3, some 4, none, some 6, some 7, none, none, some 11])
       (.cond 10 (.reg [⟨[], [], .nop⟩, ⟨[], [], .nop⟩, ⟨[], [], .nop⟩, ⟨[], [], .nop⟩, ⟨[], [], .ix (.e 3) [] (.e 4)⟩, ⟨[], [], .nop⟩, ⟨[], [], .nop⟩, ⟨[], [], .nop⟩, ⟨[], [], .bi .sub (.e 4) (.c (.n 1))⟩, ⟨[], [], .ix (.e 2) [] (.e 12)⟩, ⟨[], [], .nop⟩, ⟨[], [], .bi .add (.e 11) (.e 13)⟩, ⟨[], [], .ix (.e 3) [] (.e 4)⟩, ⟨[], [], .up 3 [.e 4] (.e 14)⟩] [some 0, none, some 2, some 16, some 4, none, some 6, some 7, none, none, none]) (.skip)))))))
      (.reg [⟨[], [], .nop⟩, ⟨[], [], .bi .add (.e 4) (.c (.n 1))⟩, ⟨[], [], .nop⟩] [some 0, none, some 2, some 3, some 11, none, some 6, some 7, none, none, none])))))))))
    (.reg [⟨[], [], .nop⟩, ⟨[], [], .nop⟩] [some 0, none, some 3, none, none, none, some 6, some 7, none, none, none]))))))
   (.reg [⟨[], [], .bi .add (.e 7) (.c (.n 1))⟩, ⟨[], [], .nop⟩] [some 0, none, some 2, none, none, none, some 6, some 11, none, none, none])))))))))))
 ((.seq (.reg [⟨[], [], .nop⟩, ⟨[], [], .ix (.e 2) [] (.c (.n 0))⟩, ⟨[], [], .nop⟩, ⟨[], [], .nop⟩] [none, some 11, none, none, none, none, none, none, none, none, none])
 (.ret))))))))))))⟩

/-- loop.example/g03401/impl.MotzkinOf -/
def ir_impl_MotzkinOf : IF := ⟨[], 1, 11, [1, 2],
 (.seq (.reg [⟨[], [], .cs .v (.s [])⟩, ⟨[], [], .cs .v (.b false)⟩] [some 0, none, none, none, none, none, none, none, none, none, none])
 ((.seq ((.seq (.reg [⟨[], [], .nop⟩, ⟨[], [], .ca 67 [(.e 0)] 1⟩, ⟨[], [], .un .not (.e 11)⟩] [some 0, none, none, none, none, some 12, none, none, none, none, none])
 (.cond 5 ((.seq (.reg [⟨[], [], .cs .v (.s [])⟩, ⟨[], [], .cs .v (.b false)⟩] [none, some 11, some 12, none, none, none, none, none, none, none, none])
  (.ret))) (.skip))))
 ((.seq (.reg [⟨[], [], .cs .v (.s [])⟩] [some 0, none, none, some 11, none, none, none, none, none, none, none])
 ((.seq ((.seq (.reg [⟨[], [], .cs .v (.n 0)⟩] [some 0, none, none, some 3, some 11, none, none, none, none, none, none])
 (.block 0 (.loop ((.seq ((.seq (.reg [⟨[], [], .nop⟩, ⟨[], [], .nop⟩, ⟨[], [], .sn (.e 0)⟩, ⟨[], [], .bi .lss (.e 4) (.e 11)⟩] [some 0, none, none, some 3, some 4, none, some 12, none, none, none, none])
   (.cond 6 (.skip) (.exit 0))))
   ((.seq (.block 1 ((.seq (.reg [⟨[], [], .nop⟩, ⟨[], [], .nop⟩, ⟨[], [], .nop⟩, ⟨[], [], .bi .add (.e 4) (.c (.n 2))⟩, ⟨[], [], .ss (.e 0) (some (.e 4)) (some (.e 11))⟩] [some 0, none, none, some 3, some 4, none, none, some 12, none, none, none])
    (.block 2 ((.seq (.reg [⟨[], [], .bi .eql (.e 7) (.c (.s [117, 117]))⟩, ⟨[], [], .nop⟩] [some 0, none, none, some 3, some 4, none, none, some 7, some 11, none, none])
     (.cond 8 (.reg [⟨[], [], .nop⟩, ⟨[], [], .bi .add (.e 3) (.c (.s [117]))⟩, ⟨[], [], .nop⟩] [some 0, none, none, some 11, some 4, none, none, none, none, none, none]) ((.seq (.reg [⟨[], [], .bi .eql (.e 7) (.c (.s [100, 100]))⟩, ⟨[], [], .nop⟩] [some 0, none, none, some 3, some 4, none, none, some 7, none, some 11, none])
      (.cond 9 (.reg [⟨[], [], .nop⟩, ⟨[], [], .bi .add (.e 3) (.c (.s [100]))⟩, ⟨[], [], .nop⟩] [some 0, none, none, some 11, some 4, none, none, none, none, none, none]) ((.seq (.reg [⟨[], [], .bi .eql (.e 7) (.c (.s [117, 100]))⟩, ⟨[], [], .nop⟩] [some 0, none, none, some 3, some 4, none, none, none, none, none, some 11])
       (.cond 10 (.reg [⟨[], [], .nop⟩, ⟨[], [], .bi .add (.e 3) (.c (.s [108]))⟩, ⟨[], [], .nop⟩] [some 0, none, none, some 11, some 4, none, none, none, none, none, none]) ((.seq (.reg [⟨[], [], .cs .v (.s [])⟩, ⟨[], [], .cs .v (.b false)⟩] [none, some 11, some 12, none, none, none, none, none, none, none, none])
        (.ret))))))))))))))))
   (.reg [⟨[], [], .nop⟩, ⟨[], [], .bi .add (.e 4) (.c (.n 2))⟩, ⟨[], [], .nop⟩] [some 0, none, none, some 3, some 11, none, none, none, none, none, none])))))))))
 ((.seq (.reg [⟨[], [], .nop⟩, ⟨[], [], .nop⟩, ⟨[], [], .cs .v (.b true)⟩] [none, some 3, some 11, none, none, none, none, none, none, none, none])
 (.ret))))))))))⟩

/-- loop.example/g03401/impl.MotzkinPaths -/
def ir_impl_MotzkinPaths : IF := ⟨[], 1, 7, [2, 3],
 (.seq (.reg [⟨[], [], .bg 0 [((.e 0), 0)]⟩, ⟨[], [], .cs (.o .v) (.l [])⟩, ⟨[], [], .cs .v (.b false)⟩] [none, some 7, none, none, none, none, none])
 ((.seq (.reg [⟨[], [], .li (.o .v) []⟩, ⟨[], [], .cs (.b (.o .v)) (.g [(.l [])])⟩, ⟨[], [], .up 8 [.k 0] (.e 7)⟩] [none, some 1, none, none, some 9, none, none])
 ((.seq ((.seq (.reg [⟨[], [], .gt (.e 1) [.k 0]⟩, ⟨[], [], .ca 23 [(.e 7), (.c (.n 0)), (.c (.n 7))] 1⟩, ⟨[], [], .un .not (.e 8)⟩] [none, some 1, none, none, some 4, none, some 9])
 (.cond 6 ((.seq (.reg [⟨[], [], .tk 4⟩, ⟨[], [], .nop⟩, ⟨[], [], .cs .v (.b false)⟩] [none, none, some 7, some 9, none, none, none])
  (.ret))) (.skip))))
 ((.seq (.reg [⟨[], [], .cs (.b .v) (.g [.u])⟩] [none, some 1, none, none, some 4, some 7, none])
 ((.seq (.reg [⟨[], [], .nop⟩, ⟨[], [], .cb 5⟩, ⟨[], [], .nop⟩, ⟨[], [], .ca 309 [(.c (.s [])), (.c (.n 0)), (.e 1), (.e 4), (.e 7)] 2⟩] [none, none, none, none, some 9, none, none])
 ((.seq (.reg [⟨[], [], .tk 4⟩, ⟨[], [], .nop⟩, ⟨[], [], .cs .v (.b true)⟩] [none, none, some 7, some 9, none, none, none])
 (.ret))))))))))))⟩

/-- loop.example/g03401/impl.MotzkinPaths$1 -/
def ir_impl_MotzkinPaths_f1 : IF := ⟨[], 5, 8, [2, 3],
 (.seq (.reg [⟨[], [], .gt (.e 2) [.k 0]⟩, ⟨[], [], .nop⟩, ⟨[], [], .sn (.e 0)⟩, ⟨[], [], .bi .sub (.e 8) (.e 9)⟩, ⟨[], [], .nop⟩] [some 0, some 1, some 2, some 3, some 4, some 10, none, none])
 ((.seq ((.seq (.reg [⟨[], [], .nop⟩, ⟨[], [], .nop⟩, ⟨[], [], .bi .gtr (.e 1) (.e 5)⟩, ⟨[], [], .nop⟩, ⟨[], [(8, false)], .cy (.e 1)⟩, ⟨[], [(8, false)], .bi .lss (.e 9) (.c (.n 0))⟩, ⟨[], [], .pk (.e 8) (.c (.b true)) (.e 10)⟩] [some 0, some 1, some 2, some 3, some 4, some 5, some 11, none])
 (.cond 6 (.ret) (.skip))))
 ((.seq ((.seq (.reg [⟨[], [], .nop⟩, ⟨[], [], .bi .eql (.e 5) (.c (.n 0))⟩] [some 0, some 1, some 2, some 3, some 4, none, none, some 8])
 (.cond 7 ((.seq (.reg [⟨[], [], .tk 3⟩, ⟨[], [], .nop⟩, ⟨[], [], .li (.o .v) [(.e 0)]⟩, ⟨[], [], .ap false (.e 8) (.e 10)⟩, ⟨[], [], .up 9 [.k 0] (.e 11)⟩] [none, none, some 2, some 12, none, none, none, none])
  (.ret))) (.skip))))
 ((.seq (.reg [⟨[], [], .nop⟩, ⟨[], [], .nop⟩, ⟨[], [], .bi .add (.e 0) (.c (.s [117]))⟩, ⟨[], [], .nop⟩, ⟨[], [], .bi .add (.e 1) (.c (.n 1))⟩, ⟨[], [], .ca 309 [(.e 8), (.e 9), (.e 2), (.e 3), (.e 4)] 2⟩] [some 0, some 1, some 10, some 11, some 4, none, none, none])
 ((.seq (.reg [⟨[], [], .nop⟩, ⟨[], [], .nop⟩, ⟨[], [], .bi .add (.e 0) (.c (.s [108]))⟩, ⟨[], [], .nop⟩, ⟨[], [], .ca 309 [(.e 8), (.e 1), (.e 2), (.e 3), (.e 4)] 2⟩] [some 0, some 1, some 9, some 10, some 4, none, none, none])
 (.reg [⟨[], [], .nop⟩, ⟨[], [], .nop⟩, ⟨[], [], .bi .add (.e 0) (.c (.s [100]))⟩, ⟨[], [], .nop⟩, ⟨[], [], .bi .sub (.e 1) (.c (.n 1))⟩, ⟨[], [], .ca 309 [(.e 8), (.e 9), (.e 2), (.e 3), (.e 4)] 2⟩] [none, none, some 10, some 11, none, none, none, none]))))))))))⟩

/-- loop.example/g03401/impl.count -/
def ir_impl_count : IF := ⟨[], 2, 7, [2],
 (.seq (.reg [⟨[], [], .cs .v (.n 0)⟩] [some 0, some 1, none, none, none, none, none])
 ((.seq (.reg [⟨[], [], .cs .v (.n 0)⟩] [some 0, some 1, none, some 7, none, none, none])
 ((.seq ((.seq (.reg [⟨[], [], .cs .v (.n 0)⟩] [some 0, some 1, none, some 3, some 7, none, none])
 (.block 0 (.loop ((.seq ((.seq (.reg [⟨[], [], .nop⟩, ⟨[], [], .nop⟩, ⟨[], [], .sn (.e 0)⟩, ⟨[], [], .bi .lss (.e 4) (.e 7)⟩] [some 0, some 1, none, some 3, some 4, some 8, none])
   (.cond 5 (.skip) (.exit 0))))
   ((.seq (.block 1 ((.seq (.reg [⟨[], [], .nop⟩, ⟨[], [], .nop⟩, ⟨[], [], .sx (.e 0) (.e 4)⟩, ⟨[], [], .nop⟩, ⟨[], [], .bi .eql (.e 7) (.e 1)⟩] [some 0, some 1, none, some 3, some 4, none, some 8])
    (.cond 6 (.reg [⟨[], [], .nop⟩, ⟨[], [], .bi .add (.e 3) (.c (.n 1))⟩, ⟨[], [], .nop⟩] [some 0, some 1, none, some 7, some 4, none, none]) (.skip)))))
   (.reg [⟨[], [], .nop⟩, ⟨[], [], .bi .add (.e 4) (.c (.n 1))⟩, ⟨[], [], .nop⟩] [some 0, some 1, none, some 3, some 7, none, none])))))))))
 ((.seq (.reg [⟨[], [], .nop⟩, ⟨[], [], .nop⟩] [none, none, some 3, none, none, none, none])
 (.ret))))))))⟩

/-- loop.example/g03401/impl.rises -/
def ir_impl_rises : IF := ⟨[], 1, 10, [1],
 (.seq (.reg [⟨[], [], .cs .v (.b false)⟩] [some 0, none, none, none, none, none, none, none, none, none])
 ((.seq (.reg [⟨[], [], .cs .v (.n 0)⟩] [some 0, none, some 10, none, none, none, none, none, none, none])
 ((.seq ((.seq (.reg [⟨[], [], .cs .v (.n 0)⟩] [some 0, none, some 2, some 10, none, none, none, none, none, none])
 (.block 0 (.loop ((.seq ((.seq (.reg [⟨[], [], .nop⟩, ⟨[], [], .nop⟩, ⟨[], [], .sn (.e 0)⟩, ⟨[], [], .bi .lss (.e 3) (.e 10)⟩] [some 0, none, some 2, some 3, some 11, none, none, none, none, none])
   (.cond 4 (.skip) (.exit 0))))
   ((.seq (.block 1 ((.seq ((.seq (.reg [⟨[], [], .nop⟩, ⟨[], [], .nop⟩, ⟨[], [], .sx (.e 0) (.e 3)⟩] [some 0, none, some 2, some 3, none, some 10, none, none, none, none])
    (.block 2 ((.seq (.reg [⟨[], [], .bi .eql (.e 5) (.c (.y 117))⟩, ⟨[], [], .nop⟩] [some 0, none, some 2, some 3, none, some 5, some 10, none, none, none])
     (.cond 6 (.reg [⟨[], [], .nop⟩, ⟨[], [], .bi .add (.e 2) (.c (.n 1))⟩, ⟨[], [], .nop⟩] [some 0, none, some 10, some 3, none, none, none, none, none, none]) ((.seq (.reg [⟨[], [], .bi .eql (.e 5) (.c (.y 100))⟩, ⟨[], [], .nop⟩] [some 0, none, some 2, some 3, none, some 5, none, some 10, none, none])
      (.cond 7 (.reg [⟨[], [], .nop⟩, ⟨[], [], .bi .sub (.e 2) (.c (.n 1))⟩, ⟨[], [], .nop⟩] [some 0, none, some 10, some 3, none, none, none, none, none, none]) ((.seq (.reg [⟨[], [], .bi .eql (.e 5) (.c (.y 108))⟩, ⟨[], [], .nop⟩] [some 0, none, some 2, some 3, none, none, none, none, some 10, none])
       (.cond 8 (.skip) ((.seq (.reg [⟨[], [], .cs .v (.b false)⟩] [none, some 10, none, none, none, none, none, none, none, none])
        (.ret)))))))))))))))
    ((.seq (.reg [⟨[], [], .nop⟩, ⟨[], [], .bi .lss (.e 2) (.c (.n 0))⟩] [some 0, none, some 2, some 3, none, none, none, none, none, some 10])
    (.cond 9 ((.seq (.reg [⟨[], [], .cs .v (.b false)⟩] [none, some 10, none, none, none, none, none, none, none, none])
     (.ret))) (.skip)))))))
   (.reg [⟨[], [], .nop⟩, ⟨[], [], .bi .add (.e 3) (.c (.n 1))⟩, ⟨[], [], .nop⟩] [some 0, none, some 2, some 10, none, none, none, none, none, none])))))))))
 ((.seq (.reg [⟨[], [], .nop⟩, ⟨[], [], .bi .eql (.e 2) (.c (.n 0))⟩, ⟨[], [], .nop⟩] [none, some 10, none, none, none, none, none, none, none, none])
 (.ret))))))))⟩

end Go.Cat

namespace Go.Cat
/-- loop.example/g03401/impl.CircleOf -/
def ir_impl_CircleOf : IF := ⟨[], 2, 5, [2, 3],
 (.seq (.reg [⟨[], [], .cs .v (.s [])⟩, ⟨[], [], .cs .v (.b false)⟩] [some 0, some 1, none, none, none])
 ((.seq ((.seq (.reg [⟨[], [], .nop⟩, ⟨[], [], .ca 67 [(.e 0)] 1⟩, ⟨[], [], .un .not (.e 5)⟩] [some 0, some 1, none, none, some 6])
 (.cond 4 ((.seq (.reg [⟨[], [], .cs .v (.s [])⟩, ⟨[], [], .cs .v (.b false)⟩] [none, none, some 5, some 6, none])
  (.ret))) (.skip))))
 ((.seq (.reg [⟨[], [], .nop⟩, ⟨[], [], .bi .add (.e 0) (.c (.s [100]))⟩, ⟨[], [], .nop⟩, ⟨[], [], .ca 226 [(.e 5), (.e 1)] 2⟩, ⟨[], [], .nop⟩, ⟨[], [], .nop⟩, ⟨[], [], .nop⟩, ⟨[], [], .nop⟩] [none, none, some 6, some 7, none])
 (.ret))))))⟩

/-- loop.example/g03401/impl.CountGoodShifts -/
def ir_impl_CountGoodShifts : IF := ⟨[], 1, 9, [1],
 (.seq (.reg [⟨[], [], .cs .v (.n 0)⟩] [some 0, none, none, none, none, none, none, none, none])
 ((.seq ((.seq (.reg [⟨[], [], .nop⟩, ⟨[], [], .ca 176 [(.e 0)] 1⟩, ⟨[], [], .un .not (.e 9)⟩] [some 0, none, none, none, some 10, none, none, none, none])
 (.cond 4 ((.seq (.reg [⟨[], [], .cs .v (.n (-1))⟩] [none, some 9, none, none, none, none, none, none, none])
  (.ret))) (.skip))))
 ((.seq (.reg [⟨[], [], .cs .v (.n 0)⟩] [some 0, none, some 9, none, none, none, none, none, none])
 ((.seq ((.seq (.reg [⟨[], [], .nop⟩, ⟨[], [], .sn (.e 0)⟩, ⟨[], [], .cs .v (.n 0)⟩] [some 0, none, some 2, none, none, some 9, some 10, none, none])
 (.block 0 (.loop ((.seq (.reg [⟨[], [], .bi .lss (.e 6) (.e 5)⟩] [some 0, none, some 2, none, none, some 5, some 6, some 9, none])
   ((.seq (.cond 7 (.skip) (.exit 0))
   ((.seq (.block 1 ((.seq (.reg [⟨[], [], .nop⟩, ⟨[], [], .nop⟩] [some 0, none, some 2, some 6, none, some 5, some 6, none, none])
    ((.seq (.reg [⟨[], [], .nop⟩, ⟨[], [], .nop⟩, ⟨[], [], .ca 177 [(.e 0), (.e 3)] 1⟩] [some 0, none, some 2, none, none, some 5, some 6, none, some 9])
    (.cond 8 (.reg [⟨[], [], .nop⟩, ⟨[], [], .bi .add (.e 2) (.c (.n 1))⟩, ⟨[], [], .nop⟩] [some 0, none, some 9, none, none, some 5, some 6, none, none]) (.skip)))))))
   (.reg [⟨[], [], .bi .add (.e 6) (.c (.n 1))⟩, ⟨[], [], .nop⟩] [some 0, none, some 2, none, none, some 5, some 9, none, none])))))))))))
 ((.seq (.reg [⟨[], [], .nop⟩, ⟨[], [], .nop⟩] [none, some 2, none, none, none, none, none, none, none])
 (.ret))))))))))⟩

/-- loop.example/g03401/impl.DyckOfCircle -/
def ir_impl_DyckOfCircle : IF := ⟨[], 1, 7, [1, 2],
 (.seq (.reg [⟨[], [], .cs .v (.s [])⟩, ⟨[], [], .cs .v (.b false)⟩] [some 0, none, none, none, none, none, none])
 ((.seq (.reg [⟨[], [], .nop⟩, ⟨[], [], .ca 129 [(.e 0)] 2⟩, ⟨[], [], .nop⟩, ⟨[], [], .nop⟩, ⟨[], [], .nop⟩, ⟨[], [], .nop⟩, ⟨[], [], .nop⟩] [some 0, none, none, some 7, some 8, none, none])
 ((.seq ((.seq (.reg [⟨[], [], .nop⟩, ⟨[], [], .un .not (.e 4)⟩] [some 0, none, none, some 3, none, none, some 7])
 (.cond 6 ((.seq (.reg [⟨[], [], .cs .v (.s [])⟩, ⟨[], [], .cs .v (.b false)⟩] [none, some 7, some 8, none, none, none, none])
  (.ret))) (.skip))))
 ((.seq (.reg [⟨[], [], .nop⟩, ⟨[], [], .nop⟩, ⟨[], [], .ss (.e 0) (some (.e 3)) none⟩, ⟨[], [], .nop⟩, ⟨[], [], .nop⟩, ⟨[], [], .ss (.e 0) none (some (.e 3))⟩, ⟨[], [], .bi .add (.e 7) (.e 8)⟩, ⟨[], [], .nop⟩] [none, none, none, none, none, some 9, none])
 ((.seq (.reg [⟨[], [], .nop⟩, ⟨[], [], .nop⟩, ⟨[], [], .sn (.e 5)⟩, ⟨[], [], .bi .sub (.e 7) (.c (.n 1))⟩, ⟨[], [], .ss (.e 5) none (some (.e 8))⟩, ⟨[], [], .nop⟩, ⟨[], [], .cs .v (.b true)⟩] [none, some 9, some 10, none, none, none, none])
 (.ret))))))))))⟩

/-- loop.example/g03401/impl.GoodShift -/
def ir_impl_GoodShift : IF := ⟨[], 1, 9, [1, 2],
 (.seq (.reg [⟨[], [], .cs .v (.n 0)⟩, ⟨[], [], .cs .v (.b false)⟩] [some 0, none, none, none, none, none, none, none, none])
 ((.seq ((.seq (.reg [⟨[], [], .nop⟩, ⟨[], [], .ca 176 [(.e 0)] 1⟩, ⟨[], [], .un .not (.e 9)⟩] [some 0, none, none, none, some 10, none, none, none, none])
 (.cond 4 ((.seq (.reg [⟨[], [], .cs .v (.n 0)⟩, ⟨[], [], .cs .v (.b false)⟩] [none, some 9, some 10, none, none, none, none, none, none])
  (.ret))) (.skip))))
 ((.seq ((.seq (.reg [⟨[], [], .nop⟩, ⟨[], [], .sn (.e 0)⟩, ⟨[], [], .cs .v (.n 0)⟩] [some 0, none, none, none, none, some 9, some 10, none, none])
 (.block 0 (.loop ((.seq (.reg [⟨[], [], .bi .lss (.e 6) (.e 5)⟩] [some 0, none, none, none, none, some 5, some 6, some 9, none])
   ((.seq (.cond 7 (.skip) (.exit 0))
   ((.seq (.block 1 ((.seq (.reg [⟨[], [], .nop⟩, ⟨[], [], .nop⟩] [some 0, none, none, some 6, none, some 5, some 6, none, none])
    ((.seq (.reg [⟨[], [], .nop⟩, ⟨[], [], .nop⟩, ⟨[], [], .ca 177 [(.e 0), (.e 3)] 1⟩] [some 0, none, none, some 3, none, some 5, some 6, none, some 9])
    (.cond 8 ((.seq (.reg [⟨[], [], .nop⟩, ⟨[], [], .nop⟩, ⟨[], [], .cs .v (.b true)⟩] [none, some 3, some 9, none, none, none, none, none, none])
     (.ret))) (.skip)))))))
   (.reg [⟨[], [], .bi .add (.e 6) (.c (.n 1))⟩, ⟨[], [], .nop⟩] [some 0, none, none, none, none, some 5, some 9, none, none])))))))))))
 ((.seq (.reg [⟨[], [], .cs .v (.n 0)⟩, ⟨[], [], .cs .v (.b false)⟩] [none, some 9, some 10, none, none, none, none, none, none])
 (.ret))))))))⟩

/-- loop.example/g03401/impl.IsBalanced -/
def ir_impl_IsBalanced : IF := ⟨[], 1, 2, [1],
 (.seq (.reg [⟨[], [], .cs .v (.b false)⟩] [some 0, none])
 ((.seq (.reg [⟨[], [], .nop⟩, ⟨[], [], .sn (.e 0)⟩, ⟨[], [], .bi .leq (.e 2) (.c (.n 17))⟩, ⟨[], [], .nop⟩, ⟨[], [(3, true)], .cy (.e 0)⟩, ⟨[], [(3, true)], .ca 65 [(.e 4)] 1⟩, ⟨[], [], .pk (.e 3) (.e 5) (.c (.b false))⟩, ⟨[], [], .nop⟩, ⟨[], [(6, true)], .cy (.e 0)⟩, ⟨[], [(6, true)], .ca 66 [(.e 7), (.c (.y 100))] 1⟩, ⟨[], [(6, true)], .cy (.e 0)⟩, ⟨[], [(6, true)], .ca 66 [(.e 9), (.c (.y 117))] 1⟩, ⟨[], [(6, true)], .bi .add (.e 10) (.c (.n 1))⟩, ⟨[], [(6, true)], .bi .eql (.e 8) (.e 11)⟩, ⟨[], [], .pk (.e 6) (.e 12) (.c (.b false))⟩, ⟨[], [], .nop⟩] [none, some 13])
 (.ret))))⟩

/-- loop.example/g03401/impl.ShiftWord -/
def ir_impl_ShiftWord : IF := ⟨[], 2, 5, [2, 3],
 (.seq (.reg [⟨[], [], .cs .v (.s [])⟩, ⟨[], [], .cs .v (.b false)⟩] [some 0, some 1, none, none, none])
 ((.seq ((.seq (.reg [⟨[], [], .nop⟩, ⟨[], [], .sn (.e 0)⟩, ⟨[], [], .bi .gtr (.e 5) (.c (.n 17))⟩, ⟨[], [], .nop⟩, ⟨[], [(6, false)], .cy (.e 1)⟩, ⟨[], [(6, false)], .cy (.e 0)⟩, ⟨[], [(6, false)], .sn (.e 8)⟩, ⟨[], [(6, false)], .bi .sub (.e 9) (.c (.n 1))⟩, ⟨[], [(6, false)], .mx (.c (.n 0)) (.e 10)⟩, ⟨[], [(6, false)], .ca 23 [(.e 7), (.c (.n 0)), (.e 11)] 1⟩, ⟨[], [(6, false)], .un .not (.e 12)⟩, ⟨[], [], .pk (.e 6) (.c (.b true)) (.e 13)⟩] [some 0, some 1, none, none, some 14])
 (.cond 4 ((.seq (.reg [⟨[], [], .cs .v (.s [])⟩, ⟨[], [], .cs .v (.b false)⟩] [none, none, some 5, some 6, none])
  (.ret))) (.skip))))
 ((.seq (.reg [⟨[], [], .nop⟩, ⟨[], [], .nop⟩, ⟨[], [], .ss (.e 0) (some (.e 1)) none⟩, ⟨[], [], .nop⟩, ⟨[], [], .nop⟩, ⟨[], [], .ss (.e 0) none (some (.e 1))⟩, ⟨[], [], .bi .add (.e 5) (.e 6)⟩, ⟨[], [], .nop⟩, ⟨[], [], .cs .v (.b true)⟩] [none, none, some 7, some 8, none])
 (.ret))))))⟩

/-- loop.example/g03401/impl.areSteps -/
def ir_impl_areSteps : IF := ⟨[], 1, 2, [1],
 (.seq (.reg [⟨[], [], .cs .v (.b false)⟩] [some 0, none])
 ((.seq (.reg [⟨[], [], .nop⟩, ⟨[], [], .ca 66 [(.e 0), (.c (.y 117))] 1⟩, ⟨[], [], .nop⟩, ⟨[], [], .ca 66 [(.e 0), (.c (.y 100))] 1⟩, ⟨[], [], .bi .add (.e 2) (.e 3)⟩, ⟨[], [], .nop⟩, ⟨[], [], .sn (.e 0)⟩, ⟨[], [], .bi .eql (.e 4) (.e 5)⟩, ⟨[], [], .nop⟩] [none, some 6])
 (.ret))))⟩

/-- loop.example/g03401/impl.good -/
def ir_impl_good : IF := ⟨[], 2, 4, [2],
 (.seq (.reg [⟨[], [], .cs .v (.b false)⟩] [some 0, some 1, none, none])
 ((.seq (.reg [⟨[], [], .nop⟩, ⟨[], [], .nop⟩, ⟨[], [], .ss (.e 0) (some (.e 1)) none⟩, ⟨[], [], .nop⟩, ⟨[], [], .nop⟩, ⟨[], [], .ss (.e 0) none (some (.e 1))⟩, ⟨[], [], .bi .add (.e 4) (.e 5)⟩, ⟨[], [], .nop⟩] [none, none, none, some 6])
 ((.seq (.reg [⟨[], [], .nop⟩, ⟨[], [], .nop⟩, ⟨[], [], .sn (.e 3)⟩, ⟨[], [], .bi .sub (.e 4) (.c (.n 1))⟩, ⟨[], [], .sx (.e 3) (.e 5)⟩, ⟨[], [], .bi .eql (.e 6) (.c (.y 100))⟩, ⟨[], [], .nop⟩, ⟨[], [(7, true)], .cy (.e 3)⟩, ⟨[], [(7, true)], .cy (.e 3)⟩, ⟨[], [(7, true)], .sn (.e 9)⟩, ⟨[], [(7, true)], .bi .sub (.e 10) (.c (.n 1))⟩, ⟨[], [(7, true)], .ss (.e 8) none (some (.e 11))⟩, ⟨[], [(7, true)], .ca 67 [(.e 12)] 1⟩, ⟨[], [], .pk (.e 7) (.e 13) (.c (.b false))⟩, ⟨[], [], .nop⟩] [none, none, some 14, none])
 (.ret))))))⟩

end Go.Cat

namespace Go.Cat
/-- loop.example/g03401/spec.AreaOf -/
def ir_spec_AreaOf : IF := ⟨[], 1, 8, [1],
 (.seq (.reg [⟨[], [], .cs .v (.n 0)⟩] [some 0, none, none, none, none, none, none, none])
 ((.seq (.reg [⟨[], [], .nop⟩, ⟨[], [], .ca 319 [(.e 0)] 1⟩, ⟨[], [], .nop⟩] [some 0, none, some 8, none, none, none, none, none])
 ((.seq (.reg [⟨[], [], .cs .v (.n 0)⟩] [some 0, none, some 2, some 8, none, none, none, none])
 ((.seq ((.seq (.reg [⟨[], [], .cs .v (.n 0)⟩] [some 0, none, some 2, some 3, some 8, none, none, none])
 (.block 0 (.loop ((.seq ((.seq (.reg [⟨[], [], .nop⟩, ⟨[], [], .nop⟩, ⟨[], [], .sn (.e 0)⟩, ⟨[], [], .bi .lss (.e 4) (.e 8)⟩, ⟨[], [], .nop⟩, ⟨[], [(9, true)], .cy (.e 2)⟩, ⟨[], [(9, true)], .ln (.e 10) []⟩, ⟨[], [(9, true)], .bi .gtr (.e 11) (.c (.n 0))⟩, ⟨[], [], .pk (.e 9) (.e 12) (.c (.b false))⟩] [some 0, none, some 2, some 3, some 4, some 13, none, none])
   (.cond 5 (.skip) (.exit 0))))
   ((.seq (.block 1 ((.seq (.reg [⟨[], [], .nop⟩, ⟨[], [], .nop⟩, ⟨[], [], .sx (.e 0) (.e 4)⟩, ⟨[], [], .bi .eql (.e 8) (.c (.y 117))⟩] [some 0, none, some 2, some 3, some 4, none, some 9, none])
    (.cond 6 (.reg [⟨[], [], .nop⟩, ⟨[], [], .nop⟩, ⟨[], [], .nop⟩, ⟨[], [], .ix (.e 2) [] (.e 4)⟩, ⟨[], [], .nop⟩, ⟨[], [], .bi .add (.e 3) (.e 8)⟩, ⟨[], [], .nop⟩] [some 0, none, some 2, some 9, some 4, none, none, none]) (.skip)))))
   (.reg [⟨[], [], .nop⟩, ⟨[], [], .bi .add (.e 4) (.c (.n 1))⟩, ⟨[], [], .nop⟩] [some 0, none, some 2, some 3, some 8, none, none, none])))))))))
 ((.seq ((.seq (.reg [⟨[], [], .nop⟩, ⟨[], [], .ln (.e 2) []⟩, ⟨[], [], .bi .eql (.e 8) (.c (.n 0))⟩] [none, none, none, some 3, none, none, none, some 9])
 (.cond 7 ((.seq (.reg [⟨[], [], .cs .v (.n (-1))⟩] [none, some 8, none, none, none, none, none, none])
  (.ret))) (.skip))))
 ((.seq (.reg [⟨[], [], .nop⟩, ⟨[], [], .nop⟩] [none, some 3, none, none, none, none, none, none])
 (.ret))))))))))))⟩

/-- loop.example/g03401/spec.HeightsOf -/
def ir_spec_HeightsOf : IF := ⟨[], 1, 8, [1],
 (.seq (.reg [⟨[], [], .cs (.o .v) (.l [])⟩] [some 0, none, none, none, none, none, none, none])
 ((.seq (.reg [⟨[], [], .li (.o .v) []⟩, ⟨[], [], .nop⟩] [some 0, none, some 8, none, none, none, none, none])
 ((.seq ((.seq (.reg [⟨[], [], .nop⟩, ⟨[], [], .ca 64 [(.e 0)] 1⟩, ⟨[], [], .un .not (.e 8)⟩] [some 0, none, some 2, none, none, some 9, none, none])
 (.cond 5 ((.seq (.reg [⟨[], [], .nop⟩, ⟨[], [], .nop⟩] [none, some 2, none, none, none, none, none, none])
  (.ret))) (.skip))))
 ((.seq (.reg [⟨[], [], .cs .v (.n 0)⟩] [some 0, none, some 2, some 8, none, none, none, none])
 ((.seq ((.seq (.reg [⟨[], [], .cs .v (.n 0)⟩] [some 0, none, some 2, some 3, some 8, none, none, none])
 (.block 0 (.loop ((.seq ((.seq (.reg [⟨[], [], .nop⟩, ⟨[], [], .nop⟩, ⟨[], [], .sn (.e 0)⟩, ⟨[], [], .bi .lss (.e 4) (.e 8)⟩] [some 0, none, some 2, some 3, some 4, none, some 9, none])
   (.cond 6 (.skip) (.exit 0))))
   ((.seq (.block 1 ((.seq (.reg [⟨[], [], .nop⟩, ⟨[], [], .nop⟩, ⟨[], [], .li (.o .v) [(.e 3)]⟩, ⟨[], [], .ap false (.e 2) (.e 8)⟩, ⟨[], [], .nop⟩] [some 0, none, some 9, some 3, some 4, none, none, none])
    ((.seq (.reg [⟨[], [], .nop⟩, ⟨[], [], .nop⟩, ⟨[], [], .sx (.e 0) (.e 4)⟩, ⟨[], [], .bi .eql (.e 8) (.c (.y 117))⟩] [some 0, none, some 2, some 3, some 4, none, none, some 9])
    (.cond 7 (.reg [⟨[], [], .nop⟩, ⟨[], [], .bi .add (.e 3) (.c (.n 1))⟩, ⟨[], [], .nop⟩] [some 0, none, some 2, some 8, some 4, none, none, none]) (.reg [⟨[], [], .nop⟩, ⟨[], [], .bi .sub (.e 3) (.c (.n 1))⟩, ⟨[], [], .nop⟩] [some 0, none, some 2, some 8, some 4, none, none, none])))))))
   (.reg [⟨[], [], .nop⟩, ⟨[], [], .bi .add (.e 4) (.c (.n 1))⟩, ⟨[], [], .nop⟩] [some 0, none, some 2, some 3, some 8, none, none, none])))))))))
 ((.seq (.reg [⟨[], [], .nop⟩, ⟨[], [], .nop⟩, ⟨[], [], .li (.o .v) [(.e 3)]⟩, ⟨[], [], .ap false (.e 2) (.e 8)⟩, ⟨[], [], .nop⟩] [none, some 9, none, none, none, none, none, none])
 (.ret))))))))))))⟩

/-- loop.example/g03401/spec.IsDyck -/
def ir_spec_IsDyck : IF := ⟨[], 1, 9, [1],
 (.seq (.reg [⟨[], [], .cs .v (.b false)⟩] [some 0, none, none, none, none, none, none, none, none])
 ((.seq (.reg [⟨[], [], .cs .v (.n 0)⟩] [some 0, none, some 9, none, none, none, none, none, none])
 ((.seq ((.seq (.reg [⟨[], [], .cs .v (.n 0)⟩] [some 0, none, some 2, some 9, none, none, none, none, none])
 (.block 0 (.loop ((.seq ((.seq (.reg [⟨[], [], .nop⟩, ⟨[], [], .nop⟩, ⟨[], [], .sn (.e 0)⟩, ⟨[], [], .bi .lss (.e 3) (.e 9)⟩] [some 0, none, some 2, some 3, some 10, none, none, none, none])
   (.cond 4 (.skip) (.exit 0))))
   ((.seq (.block 1 ((.seq ((.seq (.reg [⟨[], [], .nop⟩, ⟨[], [], .nop⟩, ⟨[], [], .sx (.e 0) (.e 3)⟩] [some 0, none, some 2, some 3, none, some 9, none, none, none])
    (.block 2 ((.seq (.reg [⟨[], [], .bi .eql (.e 5) (.c (.y 117))⟩, ⟨[], [], .nop⟩] [some 0, none, some 2, some 3, none, some 5, some 9, none, none])
     (.cond 6 (.reg [⟨[], [], .nop⟩, ⟨[], [], .bi .add (.e 2) (.c (.n 1))⟩, ⟨[], [], .nop⟩] [some 0, none, some 9, some 3, none, none, none, none, none]) ((.seq (.reg [⟨[], [], .bi .eql (.e 5) (.c (.y 100))⟩, ⟨[], [], .nop⟩] [some 0, none, some 2, some 3, none, none, none, some 9, none])
      (.cond 7 (.reg [⟨[], [], .nop⟩, ⟨[], [], .bi .sub (.e 2) (.c (.n 1))⟩, ⟨[], [], .nop⟩] [some 0, none, some 9, some 3, none, none, none, none, none]) ((.seq (.reg [⟨[], [], .cs .v (.b false)⟩] [none, some 9, none, none, none, none, none, none, none])
       (.ret))))))))))))
    ((.seq (.reg [⟨[], [], .nop⟩, ⟨[], [], .bi .lss (.e 2) (.c (.n 0))⟩] [some 0, none, some 2, some 3, none, none, none, none, some 9])
    (.cond 8 ((.seq (.reg [⟨[], [], .cs .v (.b false)⟩] [none, some 9, none, none, none, none, none, none, none])
     (.ret))) (.skip)))))))
   (.reg [⟨[], [], .nop⟩, ⟨[], [], .bi .add (.e 3) (.c (.n 1))⟩, ⟨[], [], .nop⟩] [some 0, none, some 2, some 9, none, none, none, none, none])))))))))
 ((.seq (.reg [⟨[], [], .nop⟩, ⟨[], [], .bi .eql (.e 2) (.c (.n 0))⟩, ⟨[], [], .nop⟩, ⟨[], [(9, true)], .cy (.e 0)⟩, ⟨[], [(9, true)], .sn (.e 10)⟩, ⟨[], [(9, true)], .bi .leq (.e 11) (.c (.n 16))⟩, ⟨[], [], .pk (.e 9) (.e 12) (.c (.b false))⟩, ⟨[], [], .nop⟩] [none, some 13, none, none, none, none, none, none, none])
 (.ret))))))))⟩

/-- loop.example/g03401/spec.PeaksOf -/
def ir_spec_PeaksOf : IF := ⟨[], 1, 7, [1],
 (.seq (.reg [⟨[], [], .cs .v (.n 0)⟩] [some 0, none, none, none, none, none, none])
 ((.seq ((.seq (.reg [⟨[], [], .nop⟩, ⟨[], [], .ca 64 [(.e 0)] 1⟩, ⟨[], [], .un .not (.e 7)⟩] [some 0, none, none, none, some 8, none, none])
 (.cond 4 ((.seq (.reg [⟨[], [], .cs .v (.n (-1))⟩] [none, some 7, none, none, none, none, none])
  (.ret))) (.skip))))
 ((.seq (.reg [⟨[], [], .cs .v (.n 0)⟩] [some 0, none, some 7, none, none, none, none])
 ((.seq ((.seq (.reg [⟨[], [], .cs .v (.n 1)⟩] [some 0, none, some 2, some 7, none, none, none])
 (.block 0 (.loop ((.seq ((.seq (.reg [⟨[], [], .nop⟩, ⟨[], [], .nop⟩, ⟨[], [], .sn (.e 0)⟩, ⟨[], [], .bi .lss (.e 3) (.e 7)⟩] [some 0, none, some 2, some 3, none, some 8, none])
   (.cond 5 (.skip) (.exit 0))))
   ((.seq (.block 1 ((.seq (.reg [⟨[], [], .nop⟩, ⟨[], [], .nop⟩, ⟨[], [], .bi .sub (.e 3) (.c (.n 1))⟩, ⟨[], [], .nop⟩, ⟨[], [], .bi .add (.e 3) (.c (.n 1))⟩, ⟨[], [], .ss (.e 0) (some (.e 7)) (some (.e 8))⟩, ⟨[], [], .bi .eql (.e 9) (.c (.s [117, 100]))⟩] [some 0, none, some 2, some 3, none, none, some 10])
    (.cond 6 (.reg [⟨[], [], .nop⟩, ⟨[], [], .bi .add (.e 2) (.c (.n 1))⟩, ⟨[], [], .nop⟩] [some 0, none, some 7, some 3, none, none, none]) (.skip)))))
   (.reg [⟨[], [], .nop⟩, ⟨[], [], .bi .add (.e 3) (.c (.n 1))⟩, ⟨[], [], .nop⟩] [some 0, none, some 2, some 7, none, none, none])))))))))
 ((.seq (.reg [⟨[], [], .nop⟩, ⟨[], [], .nop⟩] [none, some 2, none, none, none, none, none])
 (.ret))))))))))⟩

/-- loop.example/g03401/spec.ReturnsOf -/
def ir_spec_ReturnsOf : IF := ⟨[], 1, 7, [1],
 (.seq (.reg [⟨[], [], .cs .v (.n 0)⟩] [some 0, none, none, none, none, none, none])
 ((.seq (.reg [⟨[], [], .nop⟩, ⟨[], [], .ca 319 [(.e 0)] 1⟩, ⟨[], [], .nop⟩] [none, none, some 7, none, none, none, none])
 ((.seq (.reg [⟨[], [], .cs .v (.n (-1))⟩] [none, none, some 2, some 7, none, none, none])
 ((.seq ((.seq (.reg [⟨[], [], .cs .v (.n 0)⟩] [none, none, some 2, some 3, some 7, none, none])
 (.block 0 (.loop ((.seq ((.seq (.reg [⟨[], [], .nop⟩, ⟨[], [], .nop⟩, ⟨[], [], .ln (.e 2) []⟩, ⟨[], [], .bi .lss (.e 4) (.e 7)⟩] [none, none, some 2, some 3, some 4, some 8, none])
   (.cond 5 (.skip) (.exit 0))))
   ((.seq (.block 1 ((.seq (.reg [⟨[], [], .nop⟩, ⟨[], [], .nop⟩, ⟨[], [], .ix (.e 2) [] (.e 4)⟩, ⟨[], [], .nop⟩, ⟨[], [], .bi .eql (.e 7) (.c (.n 0))⟩] [none, none, some 2, some 3, some 4, none, some 8])
    (.cond 6 (.reg [⟨[], [], .nop⟩, ⟨[], [], .bi .add (.e 3) (.c (.n 1))⟩, ⟨[], [], .nop⟩] [none, none, some 2, some 7, some 4, none, none]) (.skip)))))
   (.reg [⟨[], [], .nop⟩, ⟨[], [], .bi .add (.e 4) (.c (.n 1))⟩, ⟨[], [], .nop⟩] [none, none, some 2, some 3, some 7, none, none])))))))))
 ((.seq (.reg [⟨[], [], .nop⟩, ⟨[], [], .nop⟩] [none, some 3, none, none, none, none, none])
 (.ret))))))))))⟩

/-- loop.example/g03401/spec.SizeOf -/
def ir_spec_SizeOf : IF := ⟨[], 1, 3, [1],
 (.seq (.reg [⟨[], [], .cs .v (.n 0)⟩] [some 0, none, none])
 ((.seq ((.seq (.reg [⟨[], [], .nop⟩, ⟨[], [], .ca 64 [(.e 0)] 1⟩, ⟨[], [], .un .not (.e 3)⟩] [some 0, none, some 4])
 (.cond 2 ((.seq (.reg [⟨[], [], .cs .v (.n (-1))⟩] [none, some 3, none])
  (.ret))) (.skip))))
 ((.seq (.reg [⟨[], [], .nop⟩, ⟨[], [], .sn (.e 0)⟩, ⟨[], [], .bi .quo (.e 3) (.c (.n 2))⟩, ⟨[], [], .nop⟩] [none, some 4, none])
 (.ret))))))⟩

/-- loop.example/g03401/spec.l2Any -/
def ir_spec_l2Any : IF := ⟨[], 1, 6, [1, 0],
 (.seq (.reg [⟨[], [], .cs .v (.s [])⟩] [some 0, none, none, none, none, none])
 ((.seq (.reg [⟨[], [], .nop⟩, ⟨[], [], .ca 317 [(.e 0)] 2⟩, ⟨[], [], .nop⟩] [some 7, none, some 6, none, none, none])
 ((.seq ((.seq (.reg [⟨[], [], .nop⟩, ⟨[], [], .ca 289 [(.e 0), (.c (.n 12))] 2⟩] [some 7, none, some 2, some 6, none, none])
 (.block 0 ((.seq (.reg [⟨[], [], .bi .eql (.e 3) (.c (.n 0))⟩, ⟨[], [], .nop⟩] [some 0, none, some 2, some 3, some 6, none])
  (.cond 4 ((.seq (.reg [⟨[], [], .nop⟩, ⟨[], [], .nop⟩, ⟨[], [], .ca 315 [(.e 0), (.e 2)] 2⟩, ⟨[], [], .nop⟩] [some 7, some 6, none, none, none, none])
   (.ret))) ((.seq (.reg [⟨[], [], .bi .eql (.e 3) (.c (.n 1))⟩, ⟨[], [], .nop⟩] [some 0, none, some 2, none, none, some 6])
   (.cond 5 ((.seq (.reg [⟨[], [], .nop⟩, ⟨[], [], .li (.o .v) [(.c (.s [])), (.c (.s [100, 117])), (.c (.s [117])), (.c (.s [120])), (.c (.s [117, 117, 117, 117, 117, 117, 117, 117, 117, 100, 100, 100, 100, 100, 100, 100, 100, 100])), (.c (.s [117, 117, 117, 117, 117, 117, 117, 117, 100, 100, 100, 100, 100, 100, 100, 100]))]⟩, ⟨[], [], .ca 318 [(.e 0), (.e 6)] 2⟩, ⟨[], [], .nop⟩] [some 8, some 7, none, none, none, none])
    (.ret))) (.skip))))))))))
 ((.seq (.reg [⟨[], [], .nop⟩, ⟨[], [], .nop⟩] [some 0, some 2, none, none, none, none])
 (.ret))))))))⟩

/-- loop.example/g03401/spec.l2Draw -/
def ir_spec_l2Draw : IF := ⟨[], 2, 8, [2, 0],
 (.seq (.reg [⟨[], [], .cs .v (.s [])⟩] [some 0, some 1, none, none, none, none, none, none])
 ((.seq (.reg [⟨[], [], .cs .v (.s [])⟩] [some 0, some 1, none, some 8, none, none, none, none])
 ((.seq (.reg [⟨[], [], .cs .v (.n 0)⟩] [some 0, some 1, none, some 3, some 8, none, none, none])
 ((.seq (.reg [⟨[], [], .cs .v (.n 0)⟩] [some 0, some 1, none, some 3, some 4, some 8, none, none])
 ((.seq (.block 0 (.loop ((.seq ((.seq (.reg [⟨[], [], .nop⟩, ⟨[], [], .nop⟩, ⟨[], [], .bi .lss (.e 5) (.e 1)⟩] [some 0, some 1, none, some 3, some 4, some 5, some 8, none])
   (.cond 6 (.skip) (.exit 0))))
   (.block 1 ((.seq (.reg [⟨[], [], .nop⟩, ⟨[], [], .nop⟩, ⟨[], [], .bi .lss (.e 4) (.e 1)⟩, ⟨[], [], .nop⟩, ⟨[], [(8, true)], .cy (.e 4)⟩, ⟨[], [(8, true)], .cy (.e 5)⟩, ⟨[], [(8, true)], .bi .eql (.e 9) (.e 10)⟩, ⟨[], [(8, true)], .cy (.e 11)⟩, ⟨[], [(8, true), (12, false)], .nop⟩, ⟨[none, some 0], [(8, true), (12, false)], .ca 307 [(.e 0), (.c (.n 2))] 2⟩, ⟨[], [(8, true)], .pk (.e 12) (.c (.b true)) (.e 13)⟩, ⟨[], [], .pk (.e 8) (.e 15) (.c (.b false))⟩] [some 14, some 1, none, some 3, some 4, some 5, none, some 16])
    (.cond 7 ((.seq (.reg [⟨[], [], .nop⟩, ⟨[], [], .bi .add (.e 3) (.c (.s [117]))⟩, ⟨[], [], .nop⟩] [some 0, some 1, none, some 8, some 4, some 5, none, none])
     (.reg [⟨[], [], .nop⟩, ⟨[], [], .bi .add (.e 4) (.c (.n 1))⟩, ⟨[], [], .nop⟩] [some 0, some 1, none, some 3, some 8, some 5, none, none]))) ((.seq (.reg [⟨[], [], .nop⟩, ⟨[], [], .bi .add (.e 3) (.c (.s [100]))⟩, ⟨[], [], .nop⟩] [some 0, some 1, none, some 8, some 4, some 5, none, none])
     (.reg [⟨[], [], .nop⟩, ⟨[], [], .bi .add (.e 5) (.c (.n 1))⟩, ⟨[], [], .nop⟩] [some 0, some 1, none, some 3, some 4, some 8, none, none])))))))))))
 ((.seq (.reg [⟨[], [], .nop⟩, ⟨[], [], .nop⟩] [some 0, none, some 3, none, none, none, none, none])
 (.ret))))))))))))⟩

/-- loop.example/g03401/spec.l2Path -/
def ir_spec_l2Path : IF := ⟨[], 1, 2, [1, 0],
 (.seq (.reg [⟨[], [], .cs .v (.s [])⟩] [some 0, none])
 ((.seq (.reg [⟨[], [], .nop⟩, ⟨[], [], .nop⟩, ⟨[], [], .ca 289 [(.e 0), (.c (.n 7))] 2⟩, ⟨[], [], .ca 306 [(.e 3), (.e 2)] 2⟩, ⟨[], [], .nop⟩] [some 5, some 4])
 (.ret))))⟩

end Go.Cat

namespace Go.Cat
/-- loop.example/g03401/laws.FnExactOutputOf -/
def ir_laws_FnExactOutputOf : IF := ⟨[], 2, 23, [2],
 (.seq (.reg [⟨[], [], .cs .v (.b false)⟩] [some 0, some 1, none, none, none, none, none, none, none, none, none, none, none, none, none, none, none, none, none, none, none, none, none])
 ((.seq ((.seq (.reg [⟨[], [], .nop⟩, ⟨[], [], .sn (.e 0)⟩, ⟨[], [], .bi .gtr (.e 23) (.c (.n 1048576))⟩] [some 0, some 1, none, none, none, none, none, none, none, none, none, none, none, some 24, none, none, none, none, none, none, none, none, none])
 (.cond 13 ((.seq (.reg [⟨[], [], .cs .v (.b true)⟩] [none, none, some 23, none, none, none, none, none, none, none, none, none, none, none, none, none, none, none, none, none, none, none, none])
  (.ret))) (.skip))))
 ((.seq ((.seq (.reg [⟨[], [], .nop⟩, ⟨[], [], .ln (.e 1) []⟩, ⟨[], [], .bi .gtr (.e 23) (.c (.n 1048576))⟩] [some 0, some 1, none, none, none, none, none, none, none, none, none, none, none, none, some 24, none, none, none, none, none, none, none, none])
 (.cond 14 ((.seq (.reg [⟨[], [], .cs .v (.b true)⟩] [none, none, some 23, none, none, none, none, none, none, none, none, none, none, none, none, none, none, none, none, none, none, none, none])
  (.ret))) (.skip))))
 ((.seq (.reg [⟨[], [], .nop⟩, ⟨[], [], .nop⟩, ⟨[], [], .ca 42 [(.e 1)] 1⟩, ⟨[], [], .ca 109 [(.e 0), (.e 23)] 2⟩, ⟨[], [], .nop⟩, ⟨[], [], .nop⟩, ⟨[], [], .nop⟩, ⟨[], [], .nop⟩, ⟨[], [], .nop⟩] [some 0, some 1, none, some 24, some 25, none, none, none, none, none, none, none, none, none, none, none, none, none, none, none, none, none, none])
 ((.seq (.reg [⟨[], [], .nop⟩, ⟨[], [], .ca 42 [(.e 1)] 1⟩, ⟨[], [], .nop⟩] [some 0, some 1, none, some 3, some 4, some 23, none, none, none, none, none, none, none, none, none, none, none, none, none, none, none, none, none])
 ((.seq (.reg [⟨[], [], .nop⟩, ⟨[], [], .nop⟩, ⟨[], [], .ca 110 [(.e 0), (.e 5)] 2⟩, ⟨[], [], .nop⟩, ⟨[], [], .nop⟩, ⟨[], [], .nop⟩, ⟨[], [], .nop⟩, ⟨[], [], .nop⟩] [some 0, some 1, none, some 3, some 4, some 5, some 23, some 24, none, none, none, none, none, none, none, none, none, none, none, none, none, none, none])
 ((.seq ((.seq (.reg [⟨[], [], .nop⟩, ⟨[], [], .nop⟩, ⟨[], [], .ca 44 [(.e 6), (.e 3)] 1⟩, ⟨[], [], .un .not (.e 23)⟩, ⟨[], [], .nop⟩, ⟨[], [(24, false)], .cy (.e 7)⟩, ⟨[], [(24, false)], .cy (.e 4)⟩, ⟨[], [(24, false)], .bb .neq (.e 25) (.e 26)⟩, ⟨[], [], .pk (.e 24) (.c (.b true)) (.e 27)⟩] [some 0, some 1, none, some 3, some 4, some 5, some 6, some 7, none, none, none, none, none, none, none, some 28, none, none, none, none, none, none, none])
 (.cond 15 ((.seq (.reg [⟨[], [], .cs .v (.b false)⟩] [none, none, some 23, none, none, none, none, none, none, none, none, none, none, none, none, none, none, none, none, none, none, none, none])
  (.ret))) (.skip))))
 ((.seq ((.seq (.reg [⟨[], [], .nop⟩, ⟨[], [], .nop⟩, ⟨[], [], .ca 42 [(.e 1)] 1⟩, ⟨[], [], .ca 44 [(.e 5), (.e 23)] 1⟩, ⟨[], [], .un .not (.e 24)⟩] [some 0, some 1, none, some 3, some 4, some 5, some 6, some 7, none, none, none, none, none, none, none, none, some 25, none, none, none, none, none, none])
 (.cond 16 ((.seq (.reg [⟨[], [], .cs .v (.b false)⟩] [none, none, some 23, none, none, none, none, none, none, none, none, none, none, none, none, none, none, none, none, none, none, none, none])
  (.ret))) (.skip))))
 ((.seq (.reg [⟨[], [], .cs .v (.n 1)⟩] [some 0, some 1, none, some 3, some 4, some 5, some 6, some 7, some 23, none, none, none, none, none, none, none, none, none, none, none, none, none, none])
 ((.seq (.reg [⟨[], [], .nop⟩, ⟨[], [], .nop⟩, ⟨[], [], .ca 45 [(.e 5), (.e 8)] 2⟩, ⟨[], [], .nop⟩] [some 0, some 1, none, some 3, some 4, none, some 6, some 7, some 23, none, none, none, none, none, none, none, none, none, none, none, none, none, none])
 ((.seq ((.seq (.reg [⟨[], [], .nop⟩, ⟨[], [], .bi .lss (.e 8) (.c (.n 0))⟩, ⟨[], [], .nop⟩, ⟨[], [(23, false)], .nop⟩, ⟨[], [(23, false)], .cy (.e 3)⟩, ⟨[], [(23, false)], .ca 44 [(.e 6), (.e 24)] 1⟩, ⟨[], [(23, false)], .un .not (.e 25)⟩, ⟨[], [], .pk (.e 23) (.c (.b true)) (.e 26)⟩, ⟨[], [], .nop⟩, ⟨[], [(27, false)], .cy (.e 7)⟩, ⟨[], [(27, false)], .cy (.e 4)⟩, ⟨[], [(27, false)], .bb .neq (.e 28) (.e 29)⟩, ⟨[], [], .pk (.e 27) (.c (.b true)) (.e 30)⟩] [some 0, some 1, none, some 3, some 4, none, some 6, none, none, none, none, none, none, none, none, none, none, some 31, none, none, none, none, none])
 (.cond 17 ((.seq (.reg [⟨[], [], .cs .v (.b false)⟩] [none, none, some 23, none, none, none, none, none, none, none, none, none, none, none, none, none, none, none, none, none, none, none, none])
  (.ret))) (.skip))))
 ((.seq (.reg [⟨[], [], .cs .v (.n 1)⟩] [some 0, some 1, none, some 3, some 4, none, some 6, none, none, some 23, none, none, none, none, none, none, none, none, none, none, none, none, none])
 ((.seq (.reg [⟨[], [], .nop⟩, ⟨[], [], .nop⟩, ⟨[], [], .ca 45 [(.e 6), (.e 9)] 2⟩, ⟨[], [], .nop⟩] [some 0, some 1, none, some 3, some 4, none, some 24, none, none, some 23, none, none, none, none, none, none, none, none, none, none, none, none, none])
 ((.seq (.reg [⟨[], [], .cs .v (.n 1)⟩] [some 0, some 1, none, some 3, some 4, none, some 6, none, none, some 9, some 23, none, none, none, none, none, none, none, none, none, none, none, none])
 ((.seq (.reg [⟨[], [], .nop⟩, ⟨[], [], .nop⟩, ⟨[], [], .ca 46 [(.e 6), (.e 10)] 1⟩, ⟨[], [], .nop⟩] [some 0, some 1, none, some 3, some 4, none, some 6, none, none, some 9, some 23, none, none, none, none, none, none, none, none, none, none, none, none])
 ((.seq ((.seq (.reg [⟨[], [], .nop⟩, ⟨[], [], .bi .lss (.e 10) (.c (.n 0))⟩] [some 0, some 1, none, some 3, some 4, none, some 6, none, none, some 9, some 10, none, none, none, none, none, none, none, some 23, none, none, none, none])
 (.cond 18 ((.seq (.reg [⟨[], [], .cs .v (.b false)⟩] [none, none, some 23, none, none, none, none, none, none, none, none, none, none, none, none, none, none, none, none, none, none, none, none])
  (.ret))) (.skip))))
 ((.seq ((.seq (.reg [⟨[], [], .nop⟩, ⟨[], [], .nop⟩, ⟨[], [], .bi .neq (.e 10) (.e 9)⟩] [some 0, some 1, none, some 3, some 4, none, some 6, none, none, some 9, none, none, none, none, none, none, none, none, none, some 23, none, none, none])
 (.cond 19 ((.seq (.reg [⟨[], [], .cs .v (.b false)⟩] [none, none, some 23, none, none, none, none, none, none, none, none, none, none, none, none, none, none, none, none, none, none, none, none])
  (.ret))) (.skip))))
 ((.seq (.reg [⟨[], [], .nop⟩, ⟨[], [], .nop⟩, ⟨[], [], .ca 42 [(.e 1)] 1⟩, ⟨[], [], .ca 110 [(.e 0), (.e 23)] 2⟩, ⟨[], [], .nop⟩, ⟨[], [], .nop⟩, ⟨[], [], .nop⟩, ⟨[], [], .nop⟩, ⟨[], [], .nop⟩] [none, none, none, some 3, some 4, none, some 6, none, none, some 9, none, some 24, some 25, none, none, none, none, none, none, none, none, none, none])
 ((.seq ((.seq (.reg [⟨[], [], .nop⟩, ⟨[], [], .nop⟩, ⟨[], [], .ca 44 [(.e 11), (.e 3)] 1⟩, ⟨[], [], .un .not (.e 23)⟩, ⟨[], [], .nop⟩, ⟨[], [(24, false)], .cy (.e 12)⟩, ⟨[], [(24, false)], .cy (.e 4)⟩, ⟨[], [(24, false)], .bb .neq (.e 25) (.e 26)⟩, ⟨[], [], .pk (.e 24) (.c (.b true)) (.e 27)⟩] [none, none, none, none, none, none, some 6, none, none, some 9, none, none, none, none, none, none, none, none, none, none, some 28, none, none])
 (.cond 20 ((.seq (.reg [⟨[], [], .cs .v (.b false)⟩] [none, none, some 23, none, none, none, none, none, none, none, none, none, none, none, none, none, none, none, none, none, none, none, none])
  (.ret))) (.skip))))
 ((.seq (.reg [⟨[], [], .cs .v (.n 1)⟩] [none, none, none, none, none, none, some 6, none, none, some 9, some 23, none, none, none, none, none, none, none, none, none, none, none, none])
 ((.seq (.reg [⟨[], [], .nop⟩, ⟨[], [], .nop⟩, ⟨[], [], .ca 46 [(.e 6), (.e 10)] 1⟩, ⟨[], [], .nop⟩] [none, none, none, none, none, none, none, none, none, some 9, some 23, none, none, none, none, none, none, none, none, none, none, none, none])
 ((.seq ((.seq (.reg [⟨[], [], .nop⟩, ⟨[], [], .bi .lss (.e 10) (.c (.n 0))⟩] [none, none, none, none, none, none, none, none, none, some 9, some 10, none, none, none, none, none, none, none, none, none, none, some 23, none])
 (.cond 21 ((.seq (.reg [⟨[], [], .cs .v (.b false)⟩] [none, none, some 23, none, none, none, none, none, none, none, none, none, none, none, none, none, none, none, none, none, none, none, none])
  (.ret))) (.skip))))
 ((.seq ((.seq (.reg [⟨[], [], .nop⟩, ⟨[], [], .nop⟩, ⟨[], [], .bi .neq (.e 10) (.e 9)⟩] [none, none, none, none, none, none, none, none, none, none, none, none, none, none, none, none, none, none, none, none, none, none, some 23])
 (.cond 22 ((.seq (.reg [⟨[], [], .cs .v (.b false)⟩] [none, none, some 23, none, none, none, none, none, none, none, none, none, none, none, none, none, none, none, none, none, none, none, none])
  (.ret))) (.skip))))
 ((.seq (.reg [⟨[], [], .cs .v (.b true)⟩] [none, none, some 23, none, none, none, none, none, none, none, none, none, none, none, none, none, none, none, none, none, none, none, none])
 (.ret))))))))))))))))))))))))))))))))))))))))))))))))⟩

end Go.Cat

